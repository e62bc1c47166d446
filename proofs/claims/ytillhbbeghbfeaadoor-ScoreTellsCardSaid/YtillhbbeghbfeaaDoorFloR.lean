/- Rounding of floats of 64 bits: to round is to find a rung. Plain law: no program in sight. -/
import Derived.Test.YtillhbbeghbfeaaDoorFloP
import Derived.Laws.FloatArith
namespace Go.Proofs.YtillhbbeghbfeaaDoor
set_option linter.unusedVariables false
open Ieee

/-- How many places are lost of so many units of the least place. -/
def dropF (N : Nat) : Nat := N.log2 - 52
/-- The rung nearest to so many units of the least place. -/
def rndF (N : Nat) : Nat := min (dropF N * fB + Toward.even.cut false N (dropF N)) fInf
theorem cut_le {n d : Nat} (h : d ≤ n.log2 + 2) : Toward.even.cut false n d = n / 2 ^ d + (decide (2 ^ d < 2 * (n % 2 ^ d)) || (2 ^ d == 2 * (n % 2 ^ d) && n / 2 ^ d % 2 == 1)).toNat := by
  unfold Toward.cut
  rw [Nat.min_eq_left h, Nat.one_shiftLeft]
theorem cut_zero (n : Nat) : Toward.even.cut false n 0 = n := by
  rw [cut_le (by omega)]
  simp [Nat.mod_one]
theorem cut_mul (n d j : Nat) (h : d ≤ n.log2 + 2) (h2 : d + j ≤ (n * 2 ^ j).log2 + 2) : Toward.even.cut false (n * 2 ^ j) (d + j) = Toward.even.cut false n d := by
  rw [cut_le h2, cut_le h]
  have hp : 0 < 2 ^ j := Nat.two_pow_pos j
  have e1 : n * 2 ^ j / 2 ^ (d + j) = n / 2 ^ d := by
    rw [Nat.pow_add, Nat.mul_div_mul_right _ _ hp]
  have e2 : n * 2 ^ j % 2 ^ (d + j) = n % 2 ^ d * 2 ^ j := by
    rw [Nat.pow_add, Nat.mul_mod_mul_right]
  rw [e1, e2, Nat.pow_add]
  have e3 : decide (2 ^ d * 2 ^ j < 2 * (n % 2 ^ d * 2 ^ j)) = decide (2 ^ d < 2 * (n % 2 ^ d)) := by
    rw [decide_eq_decide, ← Nat.mul_assoc]
    exact Nat.mul_lt_mul_right hp
  have e4 : (2 ^ d * 2 ^ j == 2 * (n % 2 ^ d * 2 ^ j)) = (2 ^ d == 2 * (n % 2 ^ d)) := by
    rw [Bool.eq_iff_iff, beq_iff_eq, beq_iff_eq, ← Nat.mul_assoc]
    exact Nat.mul_left_inj (by omega)
  rw [e3, e4]
theorem rndF_zero : rndF 0 = 0 := by
  have : dropF 0 = 0 := by decide
  unfold rndF
  rw [this, cut_zero]
  simp
theorem log2_shift {n : Nat} (h : n ≠ 0) (j : Nat) : (n * 2 ^ j).log2 = n.log2 + j := by
  have hp : 0 < 2 ^ j := Nat.two_pow_pos j
  rw [Nat.log2_eq_iff (Nat.mul_ne_zero h (by omega))]
  obtain ⟨h1, h2⟩ := (Nat.log2_eq_iff (n := n) h (k := n.log2)).1 rfl
  constructor
  · rw [Nat.pow_add]; exact Nat.mul_le_mul_right _ h1
  · rw [show n.log2 + j + 1 = (n.log2 + 1) + j by omega, Nat.pow_add]; exact Nat.mul_lt_mul_of_pos_right h2 hp
theorem leastD : double.leastPlace = -1074 := by decide
/-- What is written of a number at or above the least place. -/
theorem nearest_rnd (neg : Bool) (m j : Nat) : double.nearest neg m (-1074 + (j : Int)) = double.word neg (rndF (m * 2 ^ j)) := by
  have hw : ∀ (neg : Bool) (n d : Nat), Toward.even.cut neg n d = Toward.even.cut false n d := fun neg n d => rfl
  unfold Format.nearest
  by_cases h0 : m = 0
  · rw [if_pos h0, h0, Nat.zero_mul]
    rw [rndF_zero]
  rw [if_neg h0]
  have hl := log2_shift h0 j
  have hfb : (double.fractionBits : Int) = 52 := rfl
  simp only [hw, leastD, hfb, fmtB, fmtI]
  unfold rndF dropF
  rw [hl]
  refine congrArg (fun r => double.word neg (min r fInf)) ?_
  by_cases hc : 52 ≤ m.log2 + j
  · have e : max ((-1074 : Int) + (j : Int) + (m.log2 : Int) - 52) (-1074) = -1074 + ((m.log2 + j - 52 : Nat) : Int) := by omega
    rw [e]
    have e1 : (-1074 + ((m.log2 + j - 52 : Nat) : Int) - -1074).toNat = m.log2 + j - 52 := by omega
    rw [e1]
    refine congrArg (fun r => (m.log2 + j - 52) * fB + r) ?_
    by_cases hd : m.log2 ≤ 52
    · have e2 : (-1074 + (j : Int) - (-1074 + ((m.log2 + j - 52 : Nat) : Int))).toNat = 52 - m.log2 := by omega
      have e3 : (-1074 + ((m.log2 + j - 52 : Nat) : Int) - (-1074 + (j : Int))).toNat = 0 := by omega
      rw [e2, e3, cut_zero, Nat.shiftLeft_eq]
      have := cut_mul (m * 2 ^ (52 - m.log2)) 0 (m.log2 + j - 52) (by omega) (by rw [Nat.mul_assoc, ← Nat.pow_add, log2_shift h0]; omega)
      rw [cut_zero, Nat.zero_add, Nat.mul_assoc, ← Nat.pow_add, show 52 - m.log2 + (m.log2 + j - 52) = j by omega] at this
      exact this.symm
    · have e2 : (-1074 + (j : Int) - (-1074 + ((m.log2 + j - 52 : Nat) : Int))).toNat = 0 := by omega
      have e3 : (-1074 + ((m.log2 + j - 52 : Nat) : Int) - (-1074 + (j : Int))).toNat = m.log2 - 52 := by omega
      rw [e2, e3, Nat.shiftLeft_zero]
      have := cut_mul m (m.log2 - 52) j (by omega) (by rw [hl]; omega)
      rw [show m.log2 - 52 + j = m.log2 + j - 52 by omega] at this
      exact this.symm
  · have e : max ((-1074 : Int) + (j : Int) + (m.log2 : Int) - 52) (-1074) = -1074 := by omega
    rw [e]
    have e1 : m.log2 + j - 52 = 0 := by omega
    have e2 : (-1074 + (j : Int) - -1074).toNat = j := by omega
    have e3 : (-1074 - (-1074 + (j : Int))).toNat = 0 := by omega
    rw [e1, e2, e3, cut_zero, cut_zero, Nat.shiftLeft_eq]
    simp
theorem log2_bounds {N : Nat} (h : N ≠ 0) : 2 ^ N.log2 ≤ N ∧ N < 2 ^ (N.log2 + 1) := (Nat.log2_eq_iff h).1 rfl
theorem cut_ge {n d : Nat} (h : d ≤ n.log2 + 2) : n / 2 ^ d ≤ Toward.even.cut false n d := by rw [cut_le h]; omega
theorem cut_up {n d k : Nat} (h : d ≤ n.log2 + 2) (hn : n ≤ k * 2 ^ d) : Toward.even.cut false n d ≤ k := by
  rw [cut_le h]
  have hp : 0 < 2 ^ d := Nat.two_pow_pos d
  have hdm := Nat.div_add_mod n (2 ^ d)
  by_cases e : n % 2 ^ d = 0
  · rw [e]
    have h1 : n / 2 ^ d ≤ k := Nat.div_le_of_le_mul (by rwa [Nat.mul_comm] at hn)
    have h2 : decide (2 ^ d < 2 * 0) = false := by simp
    have h3 : (2 ^ d == 2 * 0) = false := by simp
    rw [h2, h3]
    simpa using h1
  · have h1 : n / 2 ^ d < k := by
      rw [Nat.div_lt_iff_lt_mul hp]
      rcases Nat.lt_or_eq_of_le hn with hl | he
      · exact hl
      · rw [he, Nat.mul_mod_left] at e; exact absurd rfl e
    have : ∀ b : Bool, b.toNat ≤ 1 := fun b => by cases b <;> decide
    have := this (decide (2 ^ d < 2 * (n % 2 ^ d)) || (2 ^ d == 2 * (n % 2 ^ d) && n / 2 ^ d % 2 == 1))
    omega
theorem cut_mono {a b d : Nat} (h : a ≤ b) (ha : d ≤ a.log2 + 2) (hb : d ≤ b.log2 + 2) : Toward.even.cut false a d ≤ Toward.even.cut false b d := by
  have hp : 0 < 2 ^ d := Nat.two_pow_pos d
  rw [cut_le ha, cut_le hb]
  have hq : a / 2 ^ d ≤ b / 2 ^ d := Nat.div_le_div_right h
  have hbn : ∀ b : Bool, b.toNat ≤ 1 := fun b => by cases b <;> decide
  have h1 := hbn (decide (2 ^ d < 2 * (a % 2 ^ d)) || (2 ^ d == 2 * (a % 2 ^ d) && a / 2 ^ d % 2 == 1))
  by_cases e : a / 2 ^ d = b / 2 ^ d
  · have hr : a % 2 ^ d ≤ b % 2 ^ d := by
      have h2 := Nat.div_add_mod a (2 ^ d)
      have h3 := Nat.div_add_mod b (2 ^ d)
      rw [e] at h2
      omega
    rw [e]
    have : (decide (2 ^ d < 2 * (a % 2 ^ d)) || (2 ^ d == 2 * (a % 2 ^ d) && b / 2 ^ d % 2 == 1)).toNat ≤ (decide (2 ^ d < 2 * (b % 2 ^ d)) || (2 ^ d == 2 * (b % 2 ^ d) && b / 2 ^ d % 2 == 1)).toNat := by
      by_cases c1 : 2 ^ d < 2 * (b % 2 ^ d)
      · have : decide (2 ^ d < 2 * (b % 2 ^ d)) = true := by simpa using c1
        rw [this]
        exact hbn _
      · have c2 : ¬ 2 ^ d < 2 * (a % 2 ^ d) := by omega
        have d1 : decide (2 ^ d < 2 * (b % 2 ^ d)) = false := by simpa using c1
        have d2 : decide (2 ^ d < 2 * (a % 2 ^ d)) = false := by simpa using c2
        rw [d1, d2, Bool.false_or, Bool.false_or]
        by_cases c3 : 2 ^ d = 2 * (a % 2 ^ d)
        · have c4 : 2 ^ d = 2 * (b % 2 ^ d) := by omega
          have f1 : (2 ^ d == 2 * (a % 2 ^ d)) = true := by simpa using c3
          have f2 : (2 ^ d == 2 * (b % 2 ^ d)) = true := by simpa using c4
          rw [f1, f2]
          exact Nat.le_refl _
        · have f1 : (2 ^ d == 2 * (a % 2 ^ d)) = false := by simpa using c3
          rw [f1]
          simp
    omega
  · omega
theorem p52 : (2 : Nat) ^ 52 = fB := by decide
theorem p53 : (2 : Nat) ^ 53 = 2 * fB := by decide
theorem drop_fit (a : Nat) : dropF a ≤ a.log2 + 2 := by unfold dropF; omega
theorem cut_hi {a : Nat} (h : a ≠ 0) : Toward.even.cut false a (dropF a) ≤ 2 * fB := by
  refine cut_up (drop_fit a) ?_
  have h2 := (log2_bounds h).2
  have h4 : a.log2 + 1 ≤ 53 + dropF a := by unfold dropF; omega
  have h3 : a < 2 ^ (53 + dropF a) := Nat.lt_of_lt_of_le h2 (Nat.pow_le_pow_right (by omega) h4)
  rw [Nat.pow_add, p53] at h3
  exact Nat.le_of_lt h3
theorem cut_lo {b : Nat} (h : b ≠ 0) (hd : 1 ≤ dropF b) : fB ≤ Toward.even.cut false b (dropF b) := by
  refine Nat.le_trans ?_ (cut_ge (drop_fit b))
  rw [Nat.le_div_iff_mul_le (Nat.two_pow_pos _)]
  have h2 := (log2_bounds h).1
  have h4 : 52 + dropF b ≤ b.log2 := by unfold dropF at *; omega
  have h3 : 2 ^ (52 + dropF b) ≤ b := Nat.le_trans (Nat.pow_le_pow_right (by omega) h4) h2
  rw [Nat.pow_add, p52] at h3
  exact h3
theorem min_le_min_r {a b c : Nat} (h : a ≤ b) : min a c ≤ min b c := by omega
/-- Rounding keeps the order. -/
theorem rndF_mono {a b : Nat} (h : a ≤ b) : rndF a ≤ rndF b := by
  by_cases ha0 : a = 0
  · rw [ha0, rndF_zero]
    exact Nat.zero_le _
  have hb0 : b ≠ 0 := by omega
  have hlog : a.log2 ≤ b.log2 := by
    have h3 : 2 ^ a.log2 < 2 ^ (b.log2 + 1) := Nat.lt_of_le_of_lt (log2_bounds ha0).1 (Nat.lt_of_le_of_lt h (log2_bounds hb0).2)
    have := (Nat.pow_lt_pow_iff_right (by omega : 1 < 2)).1 h3
    omega
  unfold rndF
  refine min_le_min_r ?_
  by_cases e : dropF a = dropF b
  · have := cut_mono (d := dropF b) h (by rw [← e]; exact drop_fit a) (drop_fit b)
    rw [e]
    exact Nat.add_le_add_left this _
  · have hlt : dropF a + 1 ≤ dropF b := by unfold dropF at *; omega
    have u1 := cut_hi ha0
    have u2 := cut_lo hb0 (by omega)
    have h5 : (dropF a + 1) * fB ≤ dropF b * fB := Nat.mul_le_mul_right _ hlt
    rw [Nat.add_mul, Nat.one_mul] at h5
    generalize Toward.even.cut false a (dropF a) = x at *
    generalize Toward.even.cut false b (dropF b) = y at *
    generalize dropF a * fB = p at *
    generalize dropF b * fB = q at *
    generalize fB = r at *
    omega
/-- What has at most 53 digits, and is not too great, is a rung's worth. -/
theorem rndF_exact {m j : Nat} (hm : m < 9007199254740992) (hj : j ≤ 2044) : vF (rndF (m * 2 ^ j)) = m * 2 ^ j := by
  by_cases h0 : m = 0
  · rw [h0, Nat.zero_mul, rndF_zero]; decide
  have hl := log2_shift h0 j
  obtain ⟨m1, m2⟩ := log2_bounds h0
  have hml : m.log2 ≤ 52 := by
    have : 2 ^ m.log2 < 2 ^ 53 := Nat.lt_of_le_of_lt m1 hm
    have := (Nat.pow_lt_pow_iff_right (by decide : 1 < 2)).1 this
    omega
  have hN : m * 2 ^ j ≠ 0 := Nat.mul_ne_zero h0 (by have := Nat.two_pow_pos j; omega)
  obtain ⟨n1, n2⟩ := log2_bounds hN
  obtain ⟨N, hNe⟩ : ∃ N, N = m * 2 ^ j := ⟨_, rfl⟩
  rw [← hNe] at hl n1 n2 hN ⊢
  have hd : dropF N = m.log2 + j - 52 := by unfold dropF; rw [hl]
  have hdiv : ∃ k, N = k * 2 ^ dropF N := by
    refine ⟨m * 2 ^ (j - dropF N), ?_⟩
    have hj2 : j - dropF N + dropF N = j := by rw [hd]; omega
    exact hNe.trans (by rw [Nat.mul_assoc, ← Nat.pow_add, hj2])
  obtain ⟨k, hk⟩ := hdiv
  have hp : 0 < 2 ^ dropF N := Nat.two_pow_pos _
  have hcut : Toward.even.cut false N (dropF N) = k := by
    refine Nat.le_antisymm (cut_up (by unfold dropF; omega) (by omega)) ?_
    refine Nat.le_trans ?_ (cut_ge (by unfold dropF; omega))
    rw [Nat.le_div_iff_mul_le hp]
    omega
  have h52 : (2 : Nat) ^ 52 = fB := by decide
  have h53 : (2 : Nat) ^ 53 = 2 * fB := by decide
  have hk2 : k < 2 * fB := by
    have h3 : N < 2 ^ (53 + dropF N) := Nat.lt_of_lt_of_le n2 (Nat.pow_le_pow_right (by decide : 0 < 2) (by unfold dropF; omega))
    rw [Nat.pow_add, h53] at h3
    rw [hk] at h3
    have h4 : k * 2 ^ dropF N < 2 * fB * 2 ^ dropF N := by
      have : dropF (k * 2 ^ dropF N) = dropF N := by rw [← hk]
      rw [this] at h3
      exact h3
    exact Nat.lt_of_mul_lt_mul_right h4
  have hinf : dropF N * fB + k ≤ fInf := by
    have : dropF N ≤ 2044 := by rw [hd]; omega
    have h6 : dropF N * fB ≤ 2044 * fB := Nat.mul_le_mul_right _ this
    unfold fInf
    omega
  unfold rndF
  rw [hcut, Nat.min_eq_left hinf]
  by_cases hz : dropF N = 0
  · rw [hz, Nat.zero_mul, Nat.zero_add]
    rw [hz, Nat.pow_zero, Nat.mul_one] at hk
    rw [hk]
    unfold vF
    split
    · rfl
    · rename_i hge
      have e1 : k / fB = 1 := by
        refine Nat.div_eq_of_lt_le (by omega) (by omega)
      have e2 : k % fB = k - fB := by
        have := Nat.div_add_mod k fB
        rw [e1] at this
        omega
      rw [e1, e2]
      simp
      omega
  · have hk1 : fB ≤ k := by
      have h3 : 2 ^ (52 + dropF N) ≤ N := Nat.le_trans (Nat.pow_le_pow_right (by decide) (by unfold dropF at *; omega)) n1
      rw [Nat.pow_add, h52] at h3
      rw [hk] at h3
      have : dropF (k * 2 ^ dropF N) = dropF N := by rw [← hk]
      rw [this] at h3
      exact Nat.le_of_mul_le_mul_right h3 hp
    have hB : 0 < fB := fB_pos
    unfold vF
    rw [if_neg (by have : fB ≤ dropF N * fB := Nat.le_mul_of_pos_left _ (by omega); omega)]
    have e1 : (dropF N * fB + k) / fB = dropF N + 1 := by
      rw [Nat.mul_comm, Nat.mul_add_div hB]
      have : k / fB = 1 := Nat.div_eq_of_lt_le (by omega) (by omega)
      omega
    have e2 : (dropF N * fB + k) % fB = k - fB := by
      rw [Nat.mul_comm, Nat.mul_add_mod]
      have e3 : k / fB = 1 := Nat.div_eq_of_lt_le (by omega) (by omega)
      have := Nat.div_add_mod k fB
      rw [e3] at this
      omega
    rw [e1, e2, show fB + (k - fB) = k by omega, show dropF N + 1 - 1 = dropF N by omega]
    exact hk.symm
end Go.Proofs.YtillhbbeghbfeaaDoor
