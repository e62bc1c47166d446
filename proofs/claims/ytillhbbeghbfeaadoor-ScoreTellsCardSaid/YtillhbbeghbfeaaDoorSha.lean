/- The statement ScoreShares. -/
import Derived.Test.YtillhbbeghbfeaaDoorTxu
namespace Go.Proofs.YtillhbbeghbfeaaDoor
set_option linter.unusedVariables false
set_option linter.unusedSimpArgs false
open Go.RowKit
open Ieee

theorem wF_0 : wF 0 = 0 := by
  obtain ⟨p, hp⟩ := p74
  rw [wF_rnd hp, Nat.zero_mul, rndF_zero]
theorem wF_1 : wF 1 = 4607182418800017408 := by decide +kernel
theorem less_small {x y : Nat} (hx : x ≤ fInf) (hy : y ≤ fInf) (h : x < y) : lessF x y = true := by
  rw [lessF_KF, decide_eq_true_eq]
  unfold KF kF
  rw [nan_small hx, nan_small hy, sv_small hx, sv_small hy, neg_small hx, neg_small hy]
  have := vF_mono h
  simp
  omega
/-- A share grows. -/
theorem share_grows {f t : Nat} (hf : f < 1000000) (ht0 : t ≠ 0) (ht : t ≤ 1000000) : ∃ r1 r2, double.div (wF f) (wF t) = some r1 ∧ double.div (wF (f + 1)) (wF t) = some r2 ∧ r1 ≤ fInf ∧ r2 ≤ fInf ∧ lessF r1 r2 = true := by
  obtain ⟨p, hp⟩ := p74
  obtain ⟨k, hk⟩ : ∃ k, k = f * 2 ^ 30 / t + 1 := ⟨_, rfl⟩
  have ht1 : 0 < t := by omega
  have hd := Nat.div_add_mod (f * 2 ^ 30) t
  have hm := Nat.mod_lt (f * 2 ^ 30) ht1
  have k1 : f * 2 ^ 30 ≤ k * t := by
    rw [hk, Nat.add_mul, Nat.one_mul, Nat.mul_comm (f * 2 ^ 30 / t) t]
    omega
  have k2 : (k + 1) * t ≤ (f + 1) * 2 ^ 30 := by
    rw [hk, Nat.add_mul, Nat.add_mul, Nat.add_mul, Nat.one_mul, Nat.mul_comm (f * 2 ^ 30 / t) t]
    omega
  have k3 : k + 1 < 9007199254740992 := by
    have : f * 2 ^ 30 / t ≤ f * 2 ^ 30 := Nat.div_le_self _ _
    omega
  have hlog : ∀ a, a ≠ 0 → a ≤ 1000000 → a.log2 ≤ 19 := by
    intro a a0 a1
    have h1 := (log2_bounds a0).1
    have : 2 ^ a.log2 < 2 ^ 20 := by omega
    have := (Nat.pow_lt_pow_iff_right (by omega : 1 < 2)).1 this
    omega
  have l2 := hlog (f + 1) (by omega) (by omega)
  obtain ⟨Q2, d2, q2, _⟩ := div_bounds hp (s := 30) (a := f + 1) (b := t) (by omega) ht0 (by omega) (by omega) (by omega)
  have g2 : rndF ((k + 1) * 2 ^ (p - 30)) ≤ rndF Q2 := rndF_mono (q2 (k + 1) k2)
  have e1 : vF (rndF (k * 2 ^ (p - 30))) = k * 2 ^ (p - 30) := rndF_exact (by omega) (by omega)
  have e2 : vF (rndF ((k + 1) * 2 ^ (p - 30))) = (k + 1) * 2 ^ (p - 30) := rndF_exact k3 (by omega)
  have hlt : rndF (k * 2 ^ (p - 30)) < rndF ((k + 1) * 2 ^ (p - 30)) := by
    have hle : rndF (k * 2 ^ (p - 30)) ≤ rndF ((k + 1) * 2 ^ (p - 30)) := rndF_mono (Nat.mul_le_mul_right _ (by omega))
    rcases Nat.lt_or_eq_of_le hle with h | h
    · exact h
    · rw [h, e2] at e1
      have := Nat.eq_of_mul_eq_mul_right (Nat.two_pow_pos (p - 30)) e1
      omega
  by_cases f0 : f = 0
  · obtain ⟨r, hr, h1, h2, h3⟩ := mean_bounds (S := f) (n := t) (lo := 0) (hi := 0) ht0 (by omega) (by omega) (by omega) (by omega)
    rw [wF_0] at h2 h3
    have : r = 0 := by omega
    subst this
    exact ⟨0, _, hr, d2, h1, rndF_le _, less_small h1 (rndF_le _) (by omega)⟩
  · have l1 := hlog f f0 (by omega)
    obtain ⟨Q1, d1, _, q1⟩ := div_bounds hp (s := 30) (a := f) (b := t) f0 ht0 (by omega) (by omega) (by omega)
    have g1 : rndF Q1 ≤ rndF (k * 2 ^ (p - 30)) := rndF_mono (q1 k k1)
    exact ⟨_, _, d1, d2, rndF_le _, rndF_le _, less_small (rndF_le _) (rndF_le _) (by omega)⟩
/-- A quotient that is a whole number. -/
theorem div_whole {q t : Nat} (ht0 : t ≠ 0) (ht : t < 9007199254740992) (h : q * t < 9007199254740992) : double.div (wF (q * t)) (wF t) = some (wF q) := by
  obtain ⟨r, hr, h1, h2, h3⟩ := mean_bounds (S := q * t) (n := t) (lo := q) (hi := q) ht0 ht h (Nat.le_refl _) (Nat.le_refl _)
  rw [hr, Nat.le_antisymm h3 h2]
theorem read_0 : double.read 0 = .number false 0 (-1074) := by decide
theorem div_zero_pos {a : Nat} (h0 : a ≠ 0) (h : a < 9007199254740992) : double.div (wF a) (wF 0) = some 9218868437227405312 := by
  obtain ⟨m, e, m1, m2, m3⟩ := read_wF h0 h
  have hm0 : m ≠ 0 := by have := fB_pos; omega
  unfold Format.div
  rw [wF_0, e, read_0]
  simp only [Datum.quotient, if_pos rfl, if_neg hm0, Option.map_some]
  rfl
theorem div_zero_neg {a : Nat} (h0 : a ≠ 0) (h : a < 9007199254740992) : double.div (double.word true (wF a)) (wF 0) = some 18442240474082181120 := by
  obtain ⟨m, e, m1, m2, m3⟩ := read_wF h0 h
  have hm0 : m ≠ 0 := by have := fB_pos; omega
  have hr : double.read (double.word true (wF a)) = .number true m (-1074 + ((1022 + a.log2 : Nat) : Int)) := by
    have hlt := wF_lt h
    have hi := fInf_eq
    have hw : double.word true (wF a) = 9223372036854775808 + wF a := by
      unfold Format.word
      rw [fmtS]
      rfl
    unfold Format.read at e ⊢
    rw [fmtB, fmtI, fmtS] at e ⊢
    rw [hw]
    have e1 : (9223372036854775808 + wF a) / 9223372036854775808 % 2 = 1 := by omega
    have e2 : (9223372036854775808 + wF a) % 9223372036854775808 = wF a := by omega
    have e3 : wF a / 9223372036854775808 % 2 = 0 := by omega
    have e4 : wF a % 9223372036854775808 = wF a := by omega
    simp only [e1, e2]
    simp only [e3, e4] at e
    by_cases c1 : wF a < fB
    · rw [if_pos c1] at e ⊢
      simp at e ⊢
      exact e
    · rw [if_neg c1, if_pos hlt] at e ⊢
      simp at e ⊢
      exact e
  unfold Format.div
  rw [wF_0, hr, read_0]
  simp only [Datum.quotient, if_pos rfl, if_neg hm0, Option.map_some]
  rfl
end Go.Proofs.YtillhbbeghbfeaaDoor
