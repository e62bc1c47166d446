/- Shares of small whole numbers as floats: what the kernel reckons. Plain law. -/
import Derived.Test.YtillhbbeghbfeaaBst
import Derived.Laws.FloatArith
namespace Go.Proofs.Ytillhbbeghbfeaa
set_option linter.unusedVariables false
open Go.RowKit Ieee

/-- A whole number's word. -/
def wF (n : Nat) : Nat := double.nearest false n 0
/-- A part of a whole. -/
def shF (f t : Nat) : Nat := (double.div (wF f) (wF t)).getD 0
/-- Twice a number. -/
def dbF (x : Nat) : Nat := (double.mul x 4611686018427387904).getD 0
def okSh (f t : Nat) : Bool :=
  match double.div (wF f) (wF t) with
  | none => false
  | some q => match double.mul q 4611686018427387904 with
    | none => false
    | some r => decide (q < 9218868437227405312) && decide (r < 9218868437227405312) && (if f = 0 then q == 0 else decide (0 < q) && decide (0 < r))
theorem okSh_all : ((List.range 97).all fun t => t == 0 || (List.range (t + 1)).all fun f => okSh f t) = true := by decide +kernel
theorem okSh_of {f t : Nat} (h0 : 0 < t) (h1 : t ≤ 96) (h2 : f ≤ t) : okSh f t = true := by
  have h := okSh_all
  rw [List.all_eq_true] at h
  have h3 := h t (List.mem_range.2 (by omega))
  rw [Bool.or_eq_true] at h3
  rcases h3 with h3 | h3
  · rw [beq_iff_eq] at h3; omega
  · rw [List.all_eq_true] at h3
    exact h3 f (List.mem_range.2 (by omega))
theorem low_num {q : Nat} (h : q < 9218868437227405312) : nanF q = false := by
  unfold nanF rungF fInf fB
  rw [decide_eq_false_iff_not, Nat.mod_eq_of_lt (by omega)]
  omega
theorem sh_facts {f t : Nat} (h0 : 0 < t) (h1 : t ≤ 96) (h2 : f ≤ t) :
    double.div (wF f) (wF t) = some (shF f t) ∧ double.mul (shF f t) 4611686018427387904 = some (dbF (shF f t)) ∧ shF f t < 9218868437227405312 ∧ dbF (shF f t) < 9218868437227405312 ∧
    (f = 0 → shF f t = 0) ∧ (0 < f → 0 < shF f t ∧ 0 < dbF (shF f t)) := by
  have h := okSh_of h0 h1 h2
  unfold okSh at h
  split at h
  · cases h
  · rename_i q hq
    have e : shF f t = q := by unfold shF; rw [hq]; rfl
    split at h
    · cases h
    · rename_i r hr
      have e2 : dbF q = r := by unfold dbF; rw [hr]; rfl
      rw [e, e2]
      simp only [Bool.and_eq_true, decide_eq_true_eq] at h
      obtain ⟨⟨a1, a2⟩, a3⟩ := h
      refine ⟨hq, hr, a1, a2, fun hf => ?_, fun hf => ?_⟩
      · rw [if_pos hf] at a3; simpa using a3
      · rw [if_neg (by omega)] at a3; simpa using a3
theorem wF_of (n : Nat) : floatOfInt .f64 (n : Int) = wF n := by
  unfold floatOfInt FloatKind.nearest FloatKind.encode wF
  show double.write (.number (decide ((n : Int) < 0)) (Int.natAbs (n : Int)) 0) = _
  rw [decide_eq_false (by omega), Int.natAbs_natCast]
  rfl
/-- A group's score: of which so many are free. -/
def scF (twice : Bool) (f t : Nat) : Nat := if f = 0 then 9221120237041090561 else if twice = true then dbF (shF f t) else shF f t
theorem scF_lt (b : Bool) {f t : Nat} (h0 : 0 < t) (h1 : t ≤ 96) (h2 : f ≤ t) : scF b f t < 18446744073709551616 := by
  obtain ⟨a1, a2, a3, a4, a5, a6⟩ := sh_facts h0 h1 h2
  unfold scF
  split
  · decide
  · split <;> omega
theorem scF_nan (b : Bool) {f t : Nat} (h0 : 0 < t) (h1 : t ≤ 96) (h2 : f ≤ t) : nanF (scF b f t) = decide (f = 0) := by
  obtain ⟨a1, a2, a3, a4, a5, a6⟩ := sh_facts h0 h1 h2
  unfold scF
  by_cases h : f = 0
  · rw [if_pos h, decide_eq_true h]; decide
  · rw [if_neg h, decide_eq_false h]
    split
    · exact low_num a4
    · exact low_num a3
/-- Of sixteen. -/
def ok16 (f : Nat) : Bool := decide (KF (scF false 16 16) = KF (shF 16 16)) && (if 2 * f < 16 then decide (KF (scF true f 16) < KF (scF false 16 16)) else if 2 * f = 16 then decide (KF (scF true f 16) = KF (scF false 16 16)) else decide (KF (scF false 16 16) < KF (scF true f 16)))
theorem ok16_all : ((List.range 17).all fun f => ok16 f) = true := by decide +kernel
theorem sc16 {f : Nat} (h : f ≤ 16) : (2 * f < 16 → KF (scF true f 16) < KF (scF false 16 16)) ∧ (2 * f = 16 → KF (scF true f 16) = KF (scF false 16 16)) ∧ (16 < 2 * f → KF (scF false 16 16) < KF (scF true f 16)) := by
  have h1 := ok16_all
  rw [List.all_eq_true] at h1
  have h2 := h1 f (List.mem_range.2 (by omega))
  unfold ok16 at h2
  rw [Bool.and_eq_true] at h2
  have h3 := h2.2
  split at h3
  · exact ⟨fun _ => of_decide_eq_true h3, fun _ => by omega, fun _ => by omega⟩
  · split at h3
    · exact ⟨fun _ => by omega, fun _ => of_decide_eq_true h3, fun _ => by omega⟩
    · exact ⟨fun _ => by omega, fun _ => by omega, fun _ => of_decide_eq_true h3⟩
end Go.Proofs.Ytillhbbeghbfeaa
