/- Plain laws: what is firm, as lists; sets that have none beyond their numbers. -/
import Derived.Test.YtillhbbeghbfeaaRfh
namespace Go.Proofs.Ytillhbbeghbfeaa
set_option linter.unusedVariables false
open Go.RowKit

theorem hasB_firmR {n : Nat} {x y : List Nat} (hb : Bytes x) (hl : n ≤ 8 * x.length) {r : Nat} (hr : r < n) : hasB (firmR n x y) r = (hasB x r && !hasB y r) := by
  unfold firmR
  rw [hasB_clrB _ hb]
  congr 2
  rw [Bool.eq_iff_iff, decide_eq_true_eq, mem_allB]
  constructor
  · rintro ⟨⟨_, a⟩, _⟩; exact a
  · intro a; exact ⟨⟨hr, a⟩, by omega⟩
theorem firmT_get {n : Nat} {t d : List (List Nat)} {q : Nat} {x y : List Nat} (hx : t[q]? = some x) (hy : d[q]? = some y) : (firmT n t d).getD q [] = firmR n x y := by
  unfold firmT
  rw [List.getD_eq_getElem?_getD, List.getElem?_zipWith, hx, hy]
  rfl
theorem zip_range {n : Nat} {f g h : Nat → Bool} (hh : ∀ j, j < n → (f j && !g j) = h j) : List.zipWith (fun a x => a && !x) ((List.range n).map f) ((List.range n).map g) = (List.range n).map h := by
  apply List.ext_getElem?
  intro j
  rw [List.getElem?_zipWith, List.getElem?_map, List.getElem?_map, List.getElem?_map]
  by_cases hj : j < n
  · rw [List.getElem?_range hj]
    show some (f j && !g j) = some (h j)
    rw [hh j hj]
  · rw [List.getElem?_eq_none (by simp; omega)]
    rfl
theorem inoL_firm {G N : Nat} {t d : List (List Nat)} (hN : 0 < N) (l1 : t.length = G) (l2 : d.length = G) (hb : ∀ (k : Nat) (x : List Nat), t[k]? = some x → Bytes x ∧ N ≤ 8 * x.length) : List.zipWith (fun a x => a && !x) (inoL G N t) (inoL G N d) = inoL G N (firmT N t d) := by
  unfold inoL
  refine zip_range (fun j hj => ?_)
  unfold inoF
  by_cases h0 : j = 0
  · rw [if_pos h0, if_pos h0, if_pos h0]; rfl
  · rw [if_neg h0, if_neg h0, if_neg h0]
    have hq : (j - 1) / N < G := by
      rw [Nat.div_lt_iff_lt_mul hN]
      omega
    obtain ⟨x, hx⟩ : ∃ x, t[(j - 1) / N]? = some x := ⟨_, List.getElem?_eq_getElem (by omega)⟩
    obtain ⟨y, hy⟩ : ∃ y, d[(j - 1) / N]? = some y := ⟨_, List.getElem?_eq_getElem (by omega)⟩
    obtain ⟨b1, b2⟩ := hb _ x hx
    rw [firmT_get hx hy, getD_row hx, getD_row hy, hasB_firmR b1 b2 (Nat.mod_lt _ hN)]
theorem blkL_firm {G N M : Nat} {t d : List (List Nat)} (hM : 0 < M) (l1 : t.length = G) (l2 : d.length = G) (hb : ∀ (k : Nat) (x : List Nat), t[k]? = some x → Bytes x ∧ M ≤ 8 * x.length) : List.zipWith (fun a x => a && !x) (blkL G N M t) (blkL G N M d) = blkL G N M (firmT M t d) := by
  unfold blkL
  refine zip_range (fun j hj => ?_)
  unfold blkF
  by_cases h0 : 2 ≤ j ∧ 1 + N / 4 ≤ (j - 2) % (1 + N / 4 + M)
  · rw [if_pos h0, if_pos h0, if_pos h0]
    have hL : 0 < 1 + N / 4 + M := by omega
    have hq : (j - 2) / (1 + N / 4 + M) < G := by
      rw [Nat.div_lt_iff_lt_mul hL]
      omega
    have hr : (j - 2) % (1 + N / 4 + M) < 1 + N / 4 + M := Nat.mod_lt _ hL
    obtain ⟨x, hx⟩ : ∃ x, t[(j - 2) / (1 + N / 4 + M)]? = some x := ⟨_, List.getElem?_eq_getElem (by omega)⟩
    obtain ⟨y, hy⟩ : ∃ y, d[(j - 2) / (1 + N / 4 + M)]? = some y := ⟨_, List.getElem?_eq_getElem (by omega)⟩
    obtain ⟨b1, b2⟩ := hb _ x hx
    rw [firmT_get hx hy, getD_row hx, getD_row hy, hasB_firmR b1 b2 (by omega)]
  · rw [if_neg h0, if_neg h0, if_neg h0]; rfl
theorem cnt_range (f : Nat → Bool) (n : Nat) : cnt ((List.range n).map f) ((List.range n).map f).length = (List.range n).countP f := by
  unfold cnt
  rw [List.take_of_length_le (Nat.le_refl _), List.countP_map]
  rfl
theorem sum_take_succ (f : List Nat → Nat) {t : List (List Nat)} {g : Nat} {x : List Nat} (h : t[g]? = some x) : ((t.take (g + 1)).map f).sum = ((t.take g).map f).sum + f x := by
  rw [List.take_add_one, h]
  simp
theorem cnt_ino {G N : Nat} {t : List (List Nat)} (l1 : t.length = G) : cnt (inoL G N t) (inoL G N t).length = firmN N t := by
  unfold inoL
  rw [cnt_range]
  have key : ∀ g, g ≤ G → (List.range (g * N + 1)).countP (inoF N t) = ((t.take g).map fun y => (allB y N).length).sum := by
    intro g
    induction g with
    | zero => intro _; rw [Nat.zero_mul]; rfl
    | succ g ih =>
      intro hg
      obtain ⟨x, hx⟩ : ∃ x, t[g]? = some x := ⟨_, List.getElem?_eq_getElem (by omega)⟩
      rw [sum_take_succ _ hx, ← ih (by omega), Nat.add_mul, Nat.one_mul, show g * N + N + 1 = (g * N + 1) + N from by omega, List.range_add, List.countP_append, List.countP_map, allB_count]
      congr 1
      apply List.countP_congr
      intro i hi
      rw [List.mem_range] at hi
      show inoF N t (g * N + 1 + i) = true ↔ _
      rw [show g * N + 1 + i = posI N g i from by unfold posI; omega, inoF_pos t hi, getD_row hx]
  rw [key G (Nat.le_refl _), List.take_of_length_le (by omega)]
  rfl
theorem cnt_blk {G N M : Nat} {t : List (List Nat)} (l1 : t.length = G) : cnt (blkL G N M t) (blkL G N M t).length = firmN M t := by
  unfold blkL
  rw [cnt_range]
  have key : ∀ g, g ≤ G → (List.range (2 + g * (1 + N / 4 + M))).countP (blkF N M t) = ((t.take g).map fun y => (allB y M).length).sum := by
    intro g
    induction g with
    | zero => intro _; rw [Nat.zero_mul]; rfl
    | succ g ih =>
      intro hg
      obtain ⟨x, hx⟩ : ∃ x, t[g]? = some x := ⟨_, List.getElem?_eq_getElem (by omega)⟩
      rw [sum_take_succ _ hx, ← ih (by omega), Nat.add_mul, Nat.one_mul, ← Nat.add_assoc, List.range_add, List.countP_append, List.countP_map, allB_count]
      congr 1
      rw [List.range_add, List.countP_append, List.countP_map]
      have e1 : (List.range (1 + N / 4)).countP (blkF N M t ∘ fun x => 2 + g * (1 + N / 4 + M) + x) = 0 := by
        rw [List.countP_eq_zero]
        intro i hi
        rw [List.mem_range] at hi
        show ¬ blkF N M t (2 + g * (1 + N / 4 + M) + i) = true
        unfold blkF
        rw [show 2 + g * (1 + N / 4 + M) + i - 2 = g * (1 + N / 4 + M) + i from by omega, (div_at (k := g) (N := 1 + N / 4 + M) (i := i) (by omega)).2, if_neg (by omega)]
        simp
      rw [e1, Nat.zero_add]
      apply List.countP_congr
      intro i hi
      rw [List.mem_range] at hi
      show blkF N M t (2 + g * (1 + N / 4 + M) + (1 + N / 4 + i)) = true ↔ _
      rw [show 2 + g * (1 + N / 4 + M) + (1 + N / 4 + i) = posB N M g i from by unfold posB; omega, blkF_pos t hi, getD_row hx]
  rw [key G (Nat.le_refl _), List.take_of_length_le (by omega)]
  rfl
/-- Each of some sets has none beyond its numbers. -/
def Cleans (n : Nat) (t : List (List Nat)) : Prop := ∀ (k : Nat) (x : List Nat), t[k]? = some x → Clean n x
theorem Cleans.put {n : Nat} {t : List (List Nat)} (h : Cleans n t) {k i : Nat} {x : List Nat} {b : Bool} (hx : t[k]? = some x) (hb : Bytes x) (hi : i < n) : Cleans n (t.set k (withB x i b)) := by
  intro q y hy j hj
  by_cases hq : k = q
  · subst hq
    rw [List.getElem?_set_self (List.getElem?_eq_some_iff.1 hx).1] at hy
    cases hy
    rw [hasB_withB hb, if_neg (by omega)]
    exact h k x hx j hj
  · rw [List.getElem?_set_ne hq] at hy
    exact h q y hy j hj
theorem Cleans.zero (n G : Nat) : Cleans n (List.replicate G (zr n)) := fun k x hx j hj => by
  have := List.mem_of_getElem? hx
  rw [List.eq_of_mem_replicate this, zr, hasB_zero]
theorem Cleans.firm {n : Nat} {t d : List (List Nat)} (h : Cleans n t) (hb : ∀ (k : Nat) (x : List Nat), t[k]? = some x → Bytes x) : Cleans n (firmT n t d) := fun k z hz j hj => by
  unfold firmT at hz
  rw [List.getElem?_zipWith] at hz
  cases hx : t[k]? with
  | none => rw [hx] at hz; simp at hz
  | some x =>
    cases hy : d[k]? with
    | none => rw [hx, hy] at hz; simp at hz
    | some y =>
      rw [hx, hy] at hz
      simp at hz
      subst hz
      unfold firmR
      rw [hasB_clrB _ (hb k x hx), h k x hx j hj]
      rfl
end Go.Proofs.Ytillhbbeghbfeaa
