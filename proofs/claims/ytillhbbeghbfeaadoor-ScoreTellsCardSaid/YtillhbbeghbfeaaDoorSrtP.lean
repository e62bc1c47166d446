/- The stable sort: plain lists. -/
import Derived.Test.YtillhbbeghbfeaaDoorSrt
namespace Go.Proofs.YtillhbbeghbfeaaDoor
set_option linter.unusedVariables false

/-- Places by their numbers' keys, then by themselves. -/
def LT (K : Int → Int) (x y : Int) : Prop := K x < K y ∨ (K x = K y ∧ x < y)
theorem LT.trans {K : Int → Int} {x y z : Int} (h : LT K x y) (k : LT K y z) : LT K x z := by unfold LT at *; omega
theorem LT.tot {K : Int → Int} {x y : Int} (h : ¬ LT K x y) (hn : x ≠ y) : LT K y x := by unfold LT at *; omega
theorem LT.key {K : Int → Int} {x y : Int} (h : y < x) : LT K x y ↔ K x < K y := by unfold LT; omega
theorem srt_uniq {K : Int → Int} : ∀ {a b : List Int}, a.Pairwise (LT K) → b.Pairwise (LT K) → a.Perm b → a = b
  | [], b, _, _, h => h.nil_eq
  | x :: a, [], _, _, h => by have := h.length_eq; simp at this
  | x :: a, y :: b, ha, hb, h => by
    have e : x = y := by
      have hx : x ∈ y :: b := h.mem_iff.1 (by simp)
      have hy : y ∈ x :: a := h.mem_iff.2 (by simp)
      rcases List.mem_cons.1 hx with e | hx
      · exact e
      rcases List.mem_cons.1 hy with e | hy
      · exact e.symm
      have h1 := (List.pairwise_cons.1 hb).1 x hx
      have h2 := (List.pairwise_cons.1 ha).1 y hy
      unfold LT at h1 h2
      omega
    subst e
    rw [srt_uniq (List.pairwise_cons.1 ha).2 (List.pairwise_cons.1 hb).2 h.cons_inv]
/-- Two sorted rows cut so that the lower parts lie below the upper ones. -/
theorem merge_cut {K : Int → Int} {L1 L2 R1 R2 Z1 Z2 : List Int} (hL : (L1 ++ L2).Pairwise (LT K)) (hR : (R1 ++ R2).Pairwise (LT K)) (hA : ∀ x ∈ L1, ∀ y ∈ R2, LT K x y) (hB : ∀ x ∈ R1, ∀ y ∈ L2, LT K x y)
    (s1 : Z1.Pairwise (LT K)) (p1 : Z1.Perm (L1 ++ R1)) (s2 : Z2.Pairwise (LT K)) (p2 : Z2.Perm (L2 ++ R2)) : (Z1 ++ Z2).Pairwise (LT K) ∧ (Z1 ++ Z2).Perm ((L1 ++ L2) ++ (R1 ++ R2)) := by
  obtain ⟨_, _, l3⟩ := List.pairwise_append.1 hL
  obtain ⟨_, _, r3⟩ := List.pairwise_append.1 hR
  refine ⟨List.pairwise_append.2 ⟨s1, s2, fun x hx y hy => ?_⟩, ?_⟩
  · rcases List.mem_append.1 (p1.mem_iff.1 hx) with h1 | h1 <;> rcases List.mem_append.1 (p2.mem_iff.1 hy) with h2 | h2
    · exact l3 x h1 y h2
    · exact hA x h1 y h2
    · exact hB x h1 y h2
    · exact r3 x h1 y h2
  · refine (p1.append p2).trans ?_
    rw [List.append_assoc, List.append_assoc]
    refine List.Perm.append_left L1 ?_
    rw [← List.append_assoc, ← List.append_assoc]
    exact List.Perm.append_right R2 List.perm_append_comm
/-- A sorted row's earlier part lies below what lies above its last. -/
theorem below_last {K : Int → Int} {L : List Int} (h : L.Pairwise (LT K)) {s : Nat} {x y : Int} (hx : L[s]? = some x) (hy : LT K x y) : ∀ z ∈ L.take (s + 1), LT K z y := by
  intro z hz
  obtain ⟨j, hj⟩ := List.mem_iff_getElem?.1 hz
  rw [List.getElem?_take] at hj
  split at hj
  · rename_i hjs
    by_cases e : j = s
    · subst e
      rw [hx] at hj
      cases hj
      exact hy
    · obtain ⟨h1, h2⟩ := List.getElem?_eq_some_iff.1 hj
      obtain ⟨h3, h4⟩ := List.getElem?_eq_some_iff.1 hx
      have := List.pairwise_iff_getElem.1 h j s h1 h3 (by omega)
      rw [h2, h4] at this
      exact this.trans hy
  · cases hj
theorem above_first {K : Int → Int} {L : List Int} (h : L.Pairwise (LT K)) {s : Nat} {x y : Int} (hx : L[s]? = some x) (hy : LT K y x) : ∀ z ∈ L.drop s, LT K y z := by
  intro z hz
  obtain ⟨j, hj⟩ := List.mem_iff_getElem?.1 hz
  rw [List.getElem?_drop] at hj
  by_cases e : j = 0
  · subst e
    rw [Nat.add_zero, hx] at hj
    cases hj
    exact hy
  · obtain ⟨h1, h2⟩ := List.getElem?_eq_some_iff.1 hj
    obtain ⟨h3, h4⟩ := List.getElem?_eq_some_iff.1 hx
    have := List.pairwise_iff_getElem.1 h s (s + j) h3 h1 (by omega)
    rw [h2, h4] at this
    exact hy.trans this
/-- One more element in its place. -/
theorem ins_done {K : Int → Int} {P S : List Int} {x : Int} (h : (P ++ S).Pairwise (LT K)) (h1 : ∀ y ∈ P, LT K y x) (h2 : ∀ y ∈ S, LT K x y) : (P ++ x :: S).Pairwise (LT K) := by
  obtain ⟨p1, p2, p3⟩ := List.pairwise_append.1 h
  refine List.pairwise_append.2 ⟨p1, List.pairwise_cons.2 ⟨h2, p2⟩, fun y hy z hz => ?_⟩
  rcases List.mem_cons.1 hz with rfl | hz
  · exact h1 y hy
  · exact p3 y hy z hz
theorem swp_down {A B : List Int} {p x : Int} : swp (A ++ p :: x :: B) (A.length + 1) A.length = A ++ x :: p :: B := by
  apply List.ext_getElem?
  intro k
  rw [swp_get (by simp) (by simp)]
  by_cases e1 : k = A.length
  · subst e1
    rw [if_pos rfl]
    simp
  · rw [if_neg e1]
    by_cases e2 : k = A.length + 1
    · subst e2
      rw [if_pos rfl]
      simp
    · rw [if_neg e2]
      by_cases e3 : k < A.length
      · rw [List.getElem?_append_left e3, List.getElem?_append_left e3]
      · rw [List.getElem?_append_right (by omega), List.getElem?_append_right (by omega)]
        obtain ⟨d, hd⟩ : ∃ d, k - A.length = d + 2 := ⟨k - A.length - 2, by omega⟩
        rw [hd]
        rfl
theorem swp_comm {zs : List Int} {i j : Nat} (hi : i < zs.length) (hj : j < zs.length) : swp zs i j = swp zs j i := by
  apply List.ext_getElem?
  intro k
  rw [swp_get hi hj, swp_get hj hi]
  by_cases e1 : k = i <;> by_cases e2 : k = j <;> simp_all
end Go.Proofs.YtillhbbeghbfeaaDoor
