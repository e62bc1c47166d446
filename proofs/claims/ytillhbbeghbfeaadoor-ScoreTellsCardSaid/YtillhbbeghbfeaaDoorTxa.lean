/- The statement ScoreTexts: plain law. -/
import Derived.Test.YtillhbbeghbfeaaDoorShb
namespace Go.Proofs.YtillhbbeghbfeaaDoor
set_option linter.unusedVariables false
set_option linter.unusedSimpArgs false
open Go.RowKit
open Ieee

theorem wF_1000 : wF 1000 = 4652007308841189376 := by decide +kernel
theorem intF_is {p : Nat} (hp : p = 1074) {r n : Nat} (h1 : n * 2 ^ p ≤ vF r) (h2 : vF r < (n + 1) * 2 ^ p) : intF r = n := by
  unfold intF
  rw [show pE = p by rw [hp]; rfl]
  exact Nat.div_eq_of_lt_le h1 h2
/-- A whole number and some thousandths. -/
theorem part_is {n part : Nat} (hn : n < 1000000) (hp : part ≤ 999) : ∃ y x, double.div (wF part) (wF 1000) = some y ∧ double.add (wF n) y = some x ∧ x < fInf ∧ intF x = n := by
  obtain ⟨p, hp74⟩ := p74
  have hy : ∃ y, double.div (wF part) (wF 1000) = some y ∧ y ≤ fInf ∧ vF y ≤ 1023 * 2 ^ (p - 10) := by
    by_cases h0 : part = 0
    · subst h0
      have h00 : (0 : Nat) * 1000 < 9007199254740992 := by rw [Nat.zero_mul]; omega
      have := div_whole (q := 0) (t := 1000) (by omega) (by omega) h00
      rw [Nat.zero_mul] at this
      refine ⟨wF 0, this, wF_le 0, ?_⟩
      rw [wF_0]
      have : vF 0 = 0 := by decide
      rw [this]
      exact Nat.zero_le _
    · have hl := log2_lt h0 (by omega)
      have l1 : part.log2 ≤ 9 := by
        have h1 := (log2_bounds h0).1
        have : 2 ^ part.log2 < 2 ^ 10 := by omega
        have := (Nat.pow_lt_pow_iff_right (by omega : 1 < 2)).1 this
        omega
      obtain ⟨Q, hd, _, q2⟩ := div_bounds hp74 (s := 10) (a := part) (b := 1000) h0 (by omega) (by omega) (by omega) (by omega)
      refine ⟨_, hd, rndF_le _, ?_⟩
      have h3 := rndF_mono (q2 1023 (by omega))
      have e : vF (rndF (1023 * 2 ^ (p - 10))) = 1023 * 2 ^ (p - 10) := rndF_exact (by omega) (by omega)
      rw [← e]
      rcases Nat.lt_or_eq_of_le h3 with h | h
      · exact Nat.le_of_lt (vF_mono h)
      · rw [h]; exact Nat.le_refl _
  obtain ⟨y, hd, y1, y2⟩ := hy
  have hyi : y < fInf := by
    refine below_inf y1 (Nat.lt_of_le_of_lt y2 ?_)
    rw [e2046]
    obtain ⟨q, hq⟩ : ∃ q, q = 2046 := ⟨_, rfl⟩
    rw [← hq]
    have h1 : 1023 * 2 ^ (p - 10) < 2 ^ 10 * 2 ^ (p - 10) := Nat.mul_lt_mul_of_pos_right (by omega) (Nat.two_pow_pos _)
    refine Nat.lt_of_lt_of_le h1 ?_
    rw [← p52, ← Nat.pow_add, ← Nat.pow_add]
    exact Nat.pow_le_pow_right (by omega) (by omega)
  have ha := add_pos (wF_lt (n := n) (by omega)) hyi
  rw [wF_val hp74 (by omega)] at ha
  have hs1 : (2 : Nat) ^ p = 1024 * 2 ^ (p - 10) := by
    rw [show (1024 : Nat) = 2 ^ 10 by decide, ← Nat.pow_add, show 10 + (p - 10) = p by omega]
  have hup : n * 2 ^ p + vF y ≤ (n * 1024 + 1023) * 2 ^ (p - 10) := by
    rw [hs1, Nat.add_mul, ← Nat.mul_assoc]
    exact Nat.add_le_add_left y2 _
  have ee : vF (rndF ((n * 1024 + 1023) * 2 ^ (p - 10))) = (n * 1024 + 1023) * 2 ^ (p - 10) := rndF_exact (by omega) (by omega)
  have el : vF (rndF (n * 2 ^ p)) = n * 2 ^ p := rndF_exact (by omega) (by omega)
  have v1 : n * 2 ^ p ≤ vF (rndF (n * 2 ^ p + vF y)) := by
    rcases Nat.lt_or_eq_of_le (rndF_mono (Nat.le_add_right (n * 2 ^ p) (vF y))) with h | h
    · have := vF_mono h
      rw [el] at this
      exact Nat.le_of_lt this
    · have := congrArg vF h
      rw [el] at this
      exact Nat.le_of_eq this
  have v2 : vF (rndF (n * 2 ^ p + vF y)) ≤ (n * 1024 + 1023) * 2 ^ (p - 10) := by
    rw [← ee]
    rcases Nat.lt_or_eq_of_le (rndF_mono hup) with h | h
    · exact Nat.le_of_lt (vF_mono h)
    · rw [h]; exact Nat.le_refl _
  have v3 : (n * 1024 + 1023) * 2 ^ (p - 10) < (n + 1) * 2 ^ p := by
    rw [hs1, ← Nat.mul_assoc]
    exact Nat.mul_lt_mul_of_pos_right (by omega) (Nat.two_pow_pos _)
  refine ⟨y, _, hd, ha, ?_, intF_is hp74 v1 (Nat.lt_of_le_of_lt v2 v3)⟩
  refine below_inf (rndF_le _) (Nat.lt_of_le_of_lt v2 ?_)
  rw [e2046]
  obtain ⟨q, hq⟩ : ∃ q, q = 2046 := ⟨_, rfl⟩
  rw [← hq]
  have h1 : (n * 1024 + 1023) * 2 ^ (p - 10) < 2 ^ 52 * 2 ^ (p - 10) := Nat.mul_lt_mul_of_pos_right (by omega) (Nat.two_pow_pos _)
  refine Nat.lt_of_lt_of_le h1 ?_
  rw [← p52, ← Nat.pow_add, ← Nat.pow_add]
  exact Nat.pow_le_pow_right (by omega) (by omega)
/-- The text of what has n as its whole part. -/
theorem txt_pos {x n : Nat} (hx : x < fInf) (hi : intF x = n) (hn : n < 9007199254740992) : txtF x = ⟨#[43]⟩ ++ ⟨(Lib.itoa (n : Int)).toArray⟩ := by
  have hr := rung_small (Nat.le_of_lt hx)
  unfold txtF
  rw [nan_small (Nat.le_of_lt hx), hr, neg_small (Nat.le_of_lt hx), hi, if_neg (by decide), if_neg (by omega), if_neg (by omega)]
  rfl
theorem opp_rung {x : Nat} (hx : x < fInf) : rungF (9223372036854775808 + x) = x ∧ negF (9223372036854775808 + x) = true := by
  have := fInf_eq
  unfold rungF negF
  constructor
  · omega
  · have : (9223372036854775808 + x) / 9223372036854775808 % 2 = 1 := by omega
    rw [this]; rfl
theorem txt_neg {x n : Nat} (hx : x < fInf) (hi : intF x = n) (hn : n < 9007199254740992) : txtF (9223372036854775808 + x) = ⟨#[45]⟩ ++ ⟨(Lib.itoa (n : Int)).toArray⟩ := by
  obtain ⟨h1, h2⟩ := opp_rung hx
  have hnn : nanF (9223372036854775808 + x) = false := by
    unfold nanF
    rw [h1]
    simpa using Nat.le_of_lt hx
  unfold txtF
  rw [hnn, h1, h2, hi, if_neg (by decide), if_neg (by omega), if_neg (by omega)]
  rfl
theorem mul_zero_pos {x : Nat} (hx : x < fInf) : double.mul x 0 = some 0 := by
  obtain ⟨m, a, e, v⟩ := read_num (x := x) (by rw [rung_small (Nat.le_of_lt hx)]; exact hx)
  rw [neg_small (Nat.le_of_lt hx)] at e
  unfold Format.mul
  rw [e, read_0]
  simp only [Datum.product, Nat.mul_zero, Option.map_some]
  show some (double.nearest _ 0 _) = _
  unfold Format.nearest
  rw [if_pos rfl]
  rfl
end Go.Proofs.YtillhbbeghbfeaaDoor
