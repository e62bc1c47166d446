/- Sets of small numbers as bytes: plain mathematics. -/
import Derived.Test.YtillhbbeghbfeaaSeal
namespace Go.Proofs.Ytillhbbeghbfeaa
set_option linter.unusedVariables false
open Go.RowKit

def bitN (x j : Nat) : Bool := x.testBit j
/-- Is a number there? -/
def hasB (xs : List Nat) (i : Nat) : Bool := (xs.getD (i / 8) 0).testBit (i % 8)
def setN (x j : Nat) (on : Bool) : Nat := if on = true then (BitVec.ofNat 8 x ||| BitVec.ofNat 8 (2 ^ j)).toNat else (BitVec.ofNat 8 x &&& ~~~ BitVec.ofNat 8 (2 ^ j)).toNat
/-- A set with a number, or without it. -/
def withB (xs : List Nat) (i : Nat) (on : Bool) : List Nat := if i / 8 < xs.length then xs.set (i / 8) (setN (xs.getD (i / 8) 0) (i % 8) on) else xs
/-- The numbers that are there, below one. -/
def allB (xs : List Nat) (n : Nat) : List Nat := (List.range (min n (8 * xs.length))).filter (hasB xs)
def putB (n : Nat) (xs : List Nat) (i : Int) : List Nat := if 0 ≤ i ∧ i < n then withB xs i.toNat true else xs
/-- A set of numbers. -/
def ofB (n : Nat) (is : List Int) : List Nat := is.foldl (putB n) (List.replicate ((n + 7) / 8) 0)

theorem setN_lt (x j : Nat) (on : Bool) : setN x j on < 256 := by unfold setN; split <;> exact BitVec.isLt _
theorem setN_test {x j : Nat} (k : Nat) (on : Bool) (hx : x < 256) (hj : j < 8) : (setN x j on).testBit k = if k = j then on else x.testBit k := by
  have h8 : 8 ≤ k → x.testBit k = false := fun h => Nat.testBit_lt_two_pow (Nat.lt_of_lt_of_le hx (Nat.pow_le_pow_right (n := 2) (by omega) h))
  have hp : (2 ^ j).testBit k = decide (j = k) := Nat.testBit_two_pow
  unfold setN
  split
  · rename_i h
    rw [BitVec.testBit_toNat, BitVec.getLsbD_or, BitVec.getLsbD_ofNat, BitVec.getLsbD_ofNat, hp, h]
    by_cases hk : k = j
    · subst hk; simp [hj]
    · rw [if_neg hk]
      by_cases h8k : 8 ≤ k
      · rw [h8 h8k]; simp; omega
      · simp [show k < 8 from by omega, show ¬ j = k from fun h => hk h.symm]
  · rename_i h
    have ho : on = false := by simpa using h
    rw [BitVec.testBit_toNat, BitVec.getLsbD_and, BitVec.getLsbD_not, BitVec.getLsbD_ofNat, BitVec.getLsbD_ofNat, hp, ho]
    by_cases hk : k = j
    · subst hk; simp [hj]
    · rw [if_neg hk]
      by_cases h8k : 8 ≤ k
      · rw [h8 h8k]; simp
      · simp [show k < 8 from by omega, show ¬ j = k from fun h => hk h.symm]
theorem bits_or8 {x j : Nat} (hj : j < 8) : bits .or .u8 (x : Int) ((2 : Int) ^ j) = ((setN x j true : Nat) : Int) := by
  have h := setN_lt x j true
  show IntKind.u8.wrap ((BitVec.ofInt 8 (x : Int) ||| BitVec.ofInt 8 ((2 : Int) ^ j)).toNat : Int) = _
  rw [show ((2 : Int) ^ j) = ((2 ^ j : Nat) : Int) from by simp, BitVec.ofInt_natCast, BitVec.ofInt_natCast, IntKind.wrap_u8]
  unfold setN at *
  simp only [if_true] at *
  omega
theorem bits_andnot8 {x j : Nat} (hj : j < 8) : bits .andNot .u8 (x : Int) ((2 : Int) ^ j) = ((setN x j false : Nat) : Int) := by
  have h := setN_lt x j false
  show IntKind.u8.wrap ((BitVec.ofInt 8 (x : Int) &&& ~~~ BitVec.ofInt 8 ((2 : Int) ^ j)).toNat : Int) = _
  rw [show ((2 : Int) ^ j) = ((2 ^ j : Nat) : Int) from by simp, BitVec.ofInt_natCast, BitVec.ofInt_natCast, IntKind.wrap_u8]
  unfold setN at *
  simp only [Bool.false_eq_true, if_false] at *
  omega
theorem and_bit {x : Nat} (hx : x < 256) (j : Nat) : (bits .and .u8 ((x : Int) / 2 ^ j) 1 == 1) = x.testBit j := by
  have e : ∀ y : Nat, bits .and .u8 (y : Int) 1 = ((y % 2 : Nat) : Int) := by
    intro y
    show IntKind.u8.wrap ((BitVec.ofInt 8 (y : Int) &&& BitVec.ofInt 8 1).toNat : Int) = _
    rw [BitVec.ofInt_natCast, show BitVec.ofInt 8 1 = BitVec.ofNat 8 1 from rfl, BitVec.toNat_and, BitVec.toNat_ofNat, BitVec.toNat_ofNat, IntKind.wrap_u8, Nat.mod_eq_of_lt (a := 1) (by omega), Nat.and_one_is_mod]
    omega
  rw [show ((x : Int) / 2 ^ j) = ((x / 2 ^ j : Nat) : Int) from by simp, e, Nat.testBit_eq_decide_div_mod_eq]
  generalize x / 2 ^ j = y
  rw [Bool.eq_iff_iff, beq_iff_eq, decide_eq_true_iff]
  omega
theorem withB_len (xs : List Nat) (i : Nat) (on : Bool) : (withB xs i on).length = xs.length := by unfold withB; split <;> simp
theorem getD_lt {b : List Nat} (hb : Bytes b) (i : Nat) : b.getD i 0 < 256 := by
  rcases hx : b[i]? with _ | x
  · simp [hx]
  · have := hb.get hx
    simp [hx]; omega
theorem Bytes.withB {xs : List Nat} (h : Bytes xs) (i : Nat) (on : Bool) : Bytes (withB xs i on) := by
  unfold Go.Proofs.Ytillhbbeghbfeaa.withB
  split
  · exact h.set _ (setN_lt _ _ on)
  · exact h
theorem hasB_far {xs : List Nat} {k : Nat} (h : xs.length ≤ k / 8) : hasB xs k = false := by
  unfold hasB
  rw [List.getD_eq_getElem?_getD, List.getElem?_eq_none h]
  simp
theorem hasB_withB {xs : List Nat} (hb : Bytes xs) (i k : Nat) (on : Bool) : hasB (withB xs i on) k = if k = i ∧ i / 8 < xs.length then on else hasB xs k := by
  unfold withB
  split
  · rename_i hi
    unfold hasB
    rw [List.getD_eq_getElem?_getD, List.getElem?_set]
    by_cases h8 : i / 8 = k / 8
    · rw [if_pos h8, if_pos hi]
      simp only [Option.getD_some]
      rw [setN_test _ _ (getD_lt hb _) (Nat.mod_lt _ (by omega))]
      by_cases hk : k = i
      · subst hk; simp [hi]
      · rw [if_neg (by omega), if_neg (fun h => hk h.1), h8]
    · rw [if_neg h8, if_neg (fun h => h8 (by rw [h.1])), ← List.getD_eq_getElem?_getD]
  · rename_i hi
    rw [if_neg (fun h => hi h.2)]
/-- Sets of bytes are alike when they tell alike. -/
theorem hasB_ext {xs ys : List Nat} (hx : Bytes xs) (hy : Bytes ys) (hl : xs.length = ys.length) (h : ∀ k, k < 8 * xs.length → hasB xs k = hasB ys k) : xs = ys := by
  apply List.ext_getElem hl
  intro i h1 h2
  apply Nat.eq_of_testBit_eq
  intro j
  by_cases hj : j < 8
  · have := h (8 * i + j) (by omega)
    unfold hasB at this
    rw [show (8 * i + j) / 8 = i from by omega, show (8 * i + j) % 8 = j from by omega] at this
    simpa [List.getD_eq_getElem?_getD, h1, h2] using this
  · have e1 : xs[i] < 2 ^ j := Nat.lt_of_lt_of_le (hx _ (List.getElem_mem h1)) (Nat.pow_le_pow_right (n := 2) (by omega) (show 8 ≤ j by omega))
    have e2 : ys[i] < 2 ^ j := Nat.lt_of_lt_of_le (hy _ (List.getElem_mem h2)) (Nat.pow_le_pow_right (n := 2) (by omega) (show 8 ≤ j by omega))
    rw [Nat.testBit_lt_two_pow e1, Nat.testBit_lt_two_pow e2]
theorem putB_len (n : Nat) (xs : List Nat) (i : Int) : (putB n xs i).length = xs.length := by unfold putB; split <;> simp [withB_len]
theorem Bytes.putB {xs : List Nat} (h : Bytes xs) (n : Nat) (i : Int) : Bytes (putB n xs i) := by
  unfold Go.Proofs.Ytillhbbeghbfeaa.putB; split
  · exact h.withB _ _
  · exact h
theorem foldl_putB (n : Nat) : ∀ (is : List Int) (xs : List Nat), Bytes xs → (n + 7) / 8 ≤ xs.length → Bytes (is.foldl (putB n) xs) ∧ (is.foldl (putB n) xs).length = xs.length ∧
    ∀ k, hasB (is.foldl (putB n) xs) k = (hasB xs k || decide ((k : Int) ∈ is ∧ k < n)) := by
  intro is
  induction is with
  | nil => intro xs h hl; exact ⟨h, rfl, fun k => by simp⟩
  | cons i is ih =>
    intro xs h hl
    obtain ⟨h1, h2, h3⟩ := ih (putB n xs i) (h.putB n i) (by rw [putB_len]; exact hl)
    refine ⟨h1, by rw [List.foldl_cons, h2, putB_len], fun k => ?_⟩
    rw [List.foldl_cons, h3]
    have key : hasB (putB n xs i) k = (hasB xs k || decide ((k : Int) = i ∧ k < n)) := by
      unfold putB
      split
      · rename_i hi
        rw [hasB_withB h]
        by_cases hk : (k : Int) = i ∧ k < n
        · rw [if_pos (by omega), decide_eq_true hk]; simp
        · rw [if_neg (by omega), decide_eq_false hk]; simp
      · rename_i hi
        rw [decide_eq_false (by omega)]; simp
    rw [key, Bool.or_assoc]
    congr 1
    rw [Bool.eq_iff_iff]
    simp only [Bool.or_eq_true, decide_eq_true_eq, List.mem_cons]
    constructor
    · rintro (h | h)
      · exact ⟨.inl h.1, h.2⟩
      · exact ⟨.inr h.1, h.2⟩
    · rintro ⟨h | h, h'⟩
      · exact .inl ⟨h, h'⟩
      · exact .inr ⟨h, h'⟩
theorem hasB_zero (m k : Nat) : hasB (List.replicate m 0) k = false := by
  unfold hasB
  rw [List.getD_eq_getElem?_getD, List.getElem?_replicate]
  split <;> simp
theorem ofB_len (n : Nat) (is : List Int) : (ofB n is).length = (n + 7) / 8 := by
  have := (foldl_putB n is (List.replicate ((n + 7) / 8) 0) (Bytes.rep _) (by simp)).2.1
  unfold ofB; rw [this]; simp
theorem Bytes.ofB (n : Nat) (is : List Int) : Bytes (ofB n is) := (foldl_putB n is (List.replicate ((n + 7) / 8) 0) (Bytes.rep _) (by simp)).1
theorem hasB_ofB (n : Nat) (is : List Int) (k : Nat) : hasB (ofB n is) k = decide ((k : Int) ∈ is ∧ k < n) := by
  have := (foldl_putB n is (List.replicate ((n + 7) / 8) 0) (Bytes.rep _) (by simp)).2.2 k
  rw [hasB_zero, Bool.false_or] at this
  exact this
theorem mem_allB {xs : List Nat} {n k : Nat} : k ∈ allB xs n ↔ k < n ∧ hasB xs k = true := by
  unfold allB
  rw [List.mem_filter, List.mem_range]
  constructor
  · rintro ⟨h1, h2⟩; exact ⟨by omega, h2⟩
  · rintro ⟨h1, h2⟩
    refine ⟨?_, h2⟩
    by_cases h : xs.length ≤ k / 8
    · rw [hasB_far h] at h2; cases h2
    · omega
/-- All that are there, put in again: the first so many. -/
theorem ofB_allB {xs : List Nat} (hb : Bytes xs) (n : Nat) (hl : (n + 7) / 8 ≤ xs.length) (h : ∀ k, n ≤ k → k < 8 * ((n + 7) / 8) → hasB xs k = false) :
    ofB n ((allB xs n).map fun k : Nat => (k : Int)) = xs.take ((n + 7) / 8) := by
  apply hasB_ext (Bytes.ofB _ _) (hb.take _)
  · rw [ofB_len]; simp; omega
  · intro k hk
    rw [ofB_len] at hk
    rw [hasB_ofB]
    have e : hasB (xs.take ((n + 7) / 8)) k = hasB xs k := by
      unfold hasB
      rw [List.getD_eq_getElem?_getD, List.getElem?_take, if_pos (by omega), ← List.getD_eq_getElem?_getD]
    rw [e, Bool.eq_iff_iff, decide_eq_true_iff]
    constructor
    · rintro ⟨h1, h2⟩
      obtain ⟨j, hj, he⟩ := List.mem_map.1 h1
      have : j = k := by omega
      subst this
      exact (mem_allB.1 hj).2
    · intro h1
      by_cases hkn : k < n
      · exact ⟨List.mem_map.2 ⟨k, mem_allB.2 ⟨hkn, h1⟩, rfl⟩, hkn⟩
      · rw [h k (by omega) hk] at h1; cases h1
end Go.Proofs.Ytillhbbeghbfeaa
