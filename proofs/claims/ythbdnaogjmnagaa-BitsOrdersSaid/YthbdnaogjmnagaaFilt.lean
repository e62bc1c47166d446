/- Lists of the numbers below one that a test tells: plain mathematics. -/
import Derived.Test.YthbdnaogjmnagaaBitsW
namespace Go.Proofs.Ythbdnaogjmnagaa
set_option linter.unusedVariables false
open Go.RowKit

def filtR (g : Nat → Bool) (n : Nat) : List Nat := (List.range n).filter g
theorem filtR_zero (g : Nat → Bool) : filtR g 0 = [] := rfl
theorem filtR_succ (g : Nat → Bool) (n : Nat) : filtR g (n + 1) = if g n = true then filtR g n ++ [n] else filtR g n := by
  unfold filtR
  rw [List.range_succ, List.filter_append]
  split
  · rename_i h; simp [h]
  · rename_i h; simp [h]
theorem filtR_len (g : Nat → Bool) (n : Nat) : (filtR g n).length ≤ n := by
  have := List.length_filter_le g (List.range n)
  rw [List.length_range] at this
  exact this
theorem filtR_cut {g : Nat → Bool} {n N : Nat} (h : n ≤ N) (h0 : ∀ k, n ≤ k → k < N → g k = false) : filtR g N = filtR g n := by
  obtain ⟨d, rfl⟩ : ∃ d, N = n + d := ⟨N - n, by omega⟩
  unfold filtR
  rw [List.range_add, List.filter_append]
  have hnil : List.filter g ((List.range d).map (n + ·)) = [] := by
    rw [List.filter_eq_nil_iff]
    intro a ha
    obtain ⟨j, hj, rfl⟩ := List.mem_map.1 ha
    have hj' := List.mem_range.1 hj
    rw [h0 _ (by omega) (by omega)]; simp
  rw [hnil, List.append_nil]
theorem filtR_congr {g g' : Nat → Bool} {n : Nat} (h : ∀ k, k < n → g k = g' k) : filtR g n = filtR g' n := by
  unfold filtR
  exact List.filter_congr (fun x hx => h x (List.mem_range.1 hx))
theorem mem_filtR {g : Nat → Bool} {n k : Nat} : k ∈ filtR g n ↔ k < n ∧ g k = true := by simp [filtR]
theorem allB_filtR (xs : List Nat) (n : Nat) : allB xs n = filtR (hasB xs) n := by
  symm
  show filtR (hasB xs) n = filtR (hasB xs) (min n (8 * xs.length))
  exact filtR_cut (by omega) (fun k h1 h2 => hasB_far (by omega))
theorem filtR_sorted (g : Nat → Bool) (n : Nat) : (filtR g n).Pairwise (· < ·) := List.Pairwise.filter _ List.pairwise_lt_range
theorem last_lt {xs : List Nat} (hp : xs.Pairwise (· < ·)) {x n : Nat} (hx : xs[xs.length - 1]? = some x) : (∀ i ∈ xs, i < n) ↔ x < n := by
  constructor
  · intro h; exact h x (List.mem_of_getElem? hx)
  · intro h i hi
    obtain ⟨j, hj, rfl⟩ := List.getElem_of_mem hi
    obtain ⟨hl, he⟩ := List.getElem?_eq_some_iff.1 hx
    by_cases hj' : j = xs.length - 1
    · subst hj'; omega
    · have := List.pairwise_iff_getElem.1 hp j (xs.length - 1) hj hl (by omega)
      omega
theorem filtR_three (f : Nat → Bool) (k : Nat) : (filtR f k).map (3 * ·) = filtR (fun j => decide (j % 3 = 0) && f (j / 3)) (3 * k) := by
  induction k with
  | zero => rfl
  | succ k ih =>
    rw [show 3 * (k + 1) = 3 * k + 1 + 1 + 1 from by omega, filtR_succ _ (3 * k + 1 + 1), filtR_succ _ (3 * k + 1), filtR_succ _ (3 * k), filtR_succ, ← ih]
    have h1 : decide ((3 * k + 1 + 1) % 3 = 0) = false := by rw [decide_eq_false_iff_not]; omega
    have h2 : decide ((3 * k + 1) % 3 = 0) = false := by rw [decide_eq_false_iff_not]; omega
    have h3 : decide ((3 * k) % 3 = 0) = true := by rw [decide_eq_true_iff]; omega
    rw [h1, h2, h3, show 3 * k / 3 = k from by omega]
    simp only [Bool.false_and, Bool.true_and, Bool.false_eq_true, if_false]
    split <;> simp
/-- A set of told numbers. -/
theorem hasB_filtR (g : Nat → Bool) (N k : Nat) : hasB (ofB N (nI (filtR g N))) k = (decide (k < N) && g k) := by
  rw [hasB_ofB, Bool.eq_iff_iff, decide_eq_true_iff, Bool.and_eq_true, decide_eq_true_iff]
  constructor
  · rintro ⟨h1, h2⟩
    obtain ⟨j, hj, he⟩ := List.mem_map.1 h1
    obtain rfl : j = k := by omega
    exact ⟨h2, (mem_filtR.1 hj).2⟩
  · rintro ⟨h1, h2⟩
    exact ⟨List.mem_map.2 ⟨k, mem_filtR.2 ⟨h1, h2⟩, rfl⟩, h1⟩
theorem filtR_far {g : Nat → Bool} {n N : Nat} : (∀ k, n ≤ k → hasB (ofB N (nI (filtR g N))) k = false) ↔ ∀ i ∈ filtR g N, i < n := by
  constructor
  · intro h i hi
    obtain ⟨h1, h2⟩ := mem_filtR.1 hi
    by_cases hn : i < n
    · exact hn
    · have := h i (by omega)
      rw [hasB_filtR, h2, decide_eq_true h1] at this
      cases this
  · intro h k hk
    rw [hasB_filtR]
    cases hg : g k
    · simp
    · rw [decide_eq_false]
      · rfl
      · intro hN
        have := h k (mem_filtR.2 ⟨hN, hg⟩)
        omega
theorem all_filtR {g : Nat → Bool} {n N : Nat} (hn : n ≤ N) (h : ∀ i ∈ filtR g N, i < n) : allB ((ofB N (nI (filtR g N))).take ((n + 7) / 8)) n = filtR g N := by
  rw [allB_filtR]
  have e : filtR (hasB ((ofB N (nI (filtR g N))).take ((n + 7) / 8))) n = filtR g n := by
    refine filtR_congr (fun k hk => ?_)
    have e1 : hasB ((ofB N (nI (filtR g N))).take ((n + 7) / 8)) k = hasB (ofB N (nI (filtR g N))) k := by
      unfold hasB
      rw [List.getD_eq_getElem?_getD, List.getElem?_take, if_pos (by omega), ← List.getD_eq_getElem?_getD]
    rw [e1, hasB_filtR, decide_eq_true (by omega)]
    rfl
  rw [e]
  symm
  refine filtR_cut hn (fun k h1 h2 => ?_)
  cases hg : g k
  · rfl
  · have := h k (mem_filtR.2 ⟨h2, hg⟩)
    omega

/-- A bit of any number. -/
def bitI (x : Int) (k : Nat) : Bool := x / 2 ^ k % 2 == 1
theorem and1_64 (y : Int) : bits .and .i64 y 1 = y % 2 := by
  show IntKind.i64.wrap ((BitVec.ofInt 64 y &&& BitVec.ofInt 64 1).toNat : Int) = _
  rw [show BitVec.ofInt 64 1 = BitVec.ofNat 64 1 from rfl, BitVec.toNat_and, BitVec.toNat_ofInt, BitVec.toNat_ofNat, Nat.mod_eq_of_lt (a := 1) (by omega), Nat.and_one_is_mod]
  rw [IntWalk.i64_in _ (by omega)]
  omega
end Go.Proofs.Ythbdnaogjmnagaa
