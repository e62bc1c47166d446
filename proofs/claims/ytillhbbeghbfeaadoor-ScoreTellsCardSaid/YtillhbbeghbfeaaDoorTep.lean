/- The document's order: plain law of its insertion. -/
import Derived.Test.YtillhbbeghbfeaaDoorTeo
import Derived.Test.YtillhbbeghbfeaaDoorSrtZ
namespace Go.Proofs.YtillhbbeghbfeaaDoor
set_option linter.unusedVariables false
open Go.RowKit

/-- Where the search for a place stands: from k on all stand behind i. -/
def RefAt (K : Int → Int) (Z : List Int) (i k : Nat) : Prop := k ≤ i ∧ ∀ z ∈ Z.drop k, K (i : Int) < K z
theorem RefAt.start {K : Int → Int} {Z : List Int} {i : Nat} (h : Z.length = i) : RefAt K Z i i := ⟨Nat.le_refl _, fun z hz => by
  rw [List.drop_eq_nil_of_le (by omega)] at hz
  cases hz⟩
theorem RefAt.down {K : Int → Int} {Z : List Int} {i k : Nat} {y : Int} (h : RefAt K Z i (k + 1)) (hy : Z[k]? = some y) (hk : K (i : Int) < K y) : RefAt K Z i k := by
  refine ⟨by have := h.1; omega, fun z hz => ?_⟩
  obtain ⟨h1, h2⟩ := List.getElem?_eq_some_iff.1 hy
  rw [List.drop_eq_getElem_cons h1, h2] at hz
  rcases List.mem_cons.1 hz with rfl | hz
  · exact hk
  · exact h.2 z hz
/-- The place is found. -/
theorem RefAt.done {K : Int → Int} {Z : List Int} {i k : Nat} (hs : Z.Pairwise (LT K)) (hp : Z.Perm (idx i)) (h : RefAt K Z i k) (hk : k = 0 ∨ ∃ q y, k = q + 1 ∧ Z[q]? = some y ∧ ¬ K (i : Int) < K y) :
    (Z.take k ++ ((i : Int) :: Z.drop k)).Pairwise (LT K) ∧ (Z.take k ++ ((i : Int) :: Z.drop k)).Perm (idx (i + 1)) := by
  have hin : ∀ z ∈ Z, z < (i : Int) := fun z hz => (idx_in i z (hp.mem_iff.1 hz)).2
  constructor
  · refine ins_done (by rw [List.take_append_drop]; exact hs) (fun z hz => ?_) (fun z hz => Or.inl (h.2 z hz))
    rcases hk with rfl | ⟨q, y, rfl, hy, hn⟩
    · simp at hz
    · have hyi : LT K y (i : Int) := by
        have := hin y (List.mem_of_getElem? hy)
        unfold LT
        omega
      exact below_last hs hy hyi z hz
  · rw [idx_succ]
    refine List.perm_middle.trans ?_
    rw [List.take_append_drop]
    exact (List.Perm.cons _ hp).trans (List.perm_append_singleton _ _).symm
end Go.Proofs.YtillhbbeghbfeaaDoor
