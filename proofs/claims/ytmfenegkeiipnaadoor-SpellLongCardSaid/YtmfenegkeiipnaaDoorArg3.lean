/- Structs and arrays of numbers, truths and texts that came in by value. -/
import Derived.Test.YtmfenegkeiipnaaDoorArg2
import Derived.Test.YtmfenegkeiipnaaDoorEq
namespace Go.Proofs.YtmfenegkeiipnaaDoor
open Go.RowKit

def wfCell : Value → Prop
  | .int k n => (Lit.int k n).wf = true
  | .string s => s.size ≤ maxLen
  | _ => True
theorem Shape.nilS : Shape [] [] := ⟨rfl, fun i k v hk hv => by simp at hk⟩
theorem Shape.app {a b : List TypeDesc} {X Y : List Value} (h : Shape a X) (k : Shape b Y) : Shape (a ++ b) (X ++ Y) := by
  refine ⟨by simp [h.1, k.1], fun i d v hd hv => ?_⟩
  by_cases hi : i < a.length
  · rw [List.getElem?_append_left hi] at hd
    rw [List.getElem?_append_left (by rw [h.1]; exact hi)] at hv
    exact h.2 i d v hd hv
  · rw [List.getElem?_append_right (by omega)] at hd
    rw [List.getElem?_append_right (by rw [h.1]; omega), h.1] at hv
    exact k.2 _ d v hd hv
theorem flat_cells {P : Program} {d : Nat} {t : TypeId} {ks : List TypeDesc} (h : flatT P d t = some ks) : P.cellsOf t = ks.length := by
  have := flat_size h
  obtain ⟨i, hi, hs⟩ := Option.map_eq_some_iff.1 this
  unfold Program.cellsOf
  rw [hi]
  simp [hs]
section
variable {H : Type} {enc : TypeId × Value → H} {P : Program} {w : World} {base : Nat} {spare : Nat → Bool} {held : Bool}
theorem shape_fields (f : TypeId → Option (List TypeDesc)) (hf : ∀ e l, f e = some l → P.cellsOf e = l.length)
    (tr : TypeId → List Value → Prop) (hs : ∀ e l cs, f e = some l → tr e cs → Shape l cs ∧ ∀ u ∈ cs, wfCell u) :
    ∀ (fs : List Field) (off : Nat) (ks : List TypeDesc), flatFs f fs off = some ks → ∀ cs : List Value, cs.length = off + ks.length →
      (∀ g ∈ fs, tr g.type ((cs.drop g.offset).take (P.cellsOf g.type))) → Shape ks (cs.drop off) ∧ ∀ u ∈ cs.drop off, wfCell u := by
  intro fs
  induction fs with
  | nil =>
    intro off ks h cs hl _
    simp [flatFs] at h
    subst h
    rw [List.drop_of_length_le (by simp at hl; omega)]
    exact ⟨Shape.nilS, by simp⟩
  | cons g fs ih =>
    intro off ks h cs hl ht
    unfold flatFs at h
    split at h
    · cases h
    · rename_i hg
      split at h
      · cases h
      · rename_i l hl1
        split at h
        · cases h
        · rename_i r hr
          injection h with h
          subst h
          rw [List.length_append] at hl
          have ho : g.offset = off := by
            by_cases e : g.offset = off
            · exact e
            · exact absurd (Or.inr e) hg
          have h1 := hs _ _ _ hl1 (ht g (by simp))
          rw [ho, hf _ _ hl1] at h1
          have h2 := ih _ _ hr cs (by omega) (fun g' hg' => ht g' (by simp [hg']))
          have e : cs.drop off = (cs.drop off).take l.length ++ cs.drop (off + l.length) := by
            rw [← List.drop_drop, List.take_append_drop]
          rw [e]
          refine ⟨h1.1.app h2.1, fun u hu => ?_⟩
          rcases List.mem_append.1 hu with hu | hu
          · exact h1.2 u hu
          · exact h2.2 u hu
theorem shape_trod : ∀ (d : Nat) (t : TypeId) (ks : List TypeDesc), flatT P d t = some ks → ∀ (fuel : Nat) (cs : List Value) (x : DataW H × List MemPlace),
    DataW.trod enc P w base spare held fuel t cs = some x → Shape ks cs ∧ ∀ u ∈ cs, wfCell u := by
  intro d
  induction d with
  | zero => intro t ks h; simp [flatT] at h
  | succ d ih =>
    intro t ks h fuel cs x hx
    have hc := flat_cells h
    unfold flatT at h
    split at h
    · rename_i hu
      split at h
      · injection h with h
        subst h
        cases fuel with
        | zero => simp [DataW.trod] at hx
        | succ m =>
          unfold DataW.trod at hx
          rw [hu] at hx
          split at hx <;> simp_all
          refine ⟨⟨rfl, fun i k v hk hv => ?_⟩, ?_⟩
          · obtain rfl : i = 0 := by have := (List.getElem?_eq_some_iff.1 hk).1; simpa using this
            simp at hk hv
            subst hk hv
            trivial
          · trivial
      · cases h
    · rename_i k hu
      split at h
      · injection h with h
        subst h
        obtain ⟨p, hp, _, hw⟩ := DataW.trod_int hu hx
        subst hp
        refine ⟨⟨rfl, fun i k' v hk hv => ?_⟩, by intro u hu; simp at hu; subst hu; exact hw⟩
        obtain rfl : i = 0 := by have := (List.getElem?_eq_some_iff.1 hk).1; simpa using this
        simp at hk hv
        subst hk hv
        rfl
      · cases h
    · rename_i hu
      split at h
      · injection h with h
        subst h
        cases fuel with
        | zero => simp [DataW.trod] at hx
        | succ m =>
          unfold DataW.trod at hx
          rw [hu] at hx
          split at hx <;> simp_all
          refine ⟨⟨rfl, fun i k v hk hv => ?_⟩, ?_⟩
          · obtain rfl : i = 0 := by have := (List.getElem?_eq_some_iff.1 hk).1; simpa using this
            simp at hk hv
            subst hk hv
            trivial
          · exact hx.1
      · cases h
    · rename_i n e hu
      split at h
      · cases h
      · rename_i l hl
        split at h
        · injection h with h
          subst h
          obtain ⟨xs, m, _, _, hlen, hxl, hf⟩ := DataW.trod_array hu hx
          have hce := flat_cells hl
          rw [hc] at hlen
          have key : ∀ k, k ≤ n → Shape (List.replicate k l).flatten (cs.take (k * l.length)) ∧ ∀ u ∈ cs.take (k * l.length), wfCell u := by
            intro k
            induction k with
            | zero => intro _; simp; exact Shape.nilS
            | succ k ihk =>
              intro hk
              have h1 := ihk (by omega)
              have hxk := hf k (by omega)
              rw [hce, List.getElem?_eq_getElem (by omega)] at hxk
              have h2 := ih _ _ hl _ _ _ hxk
              have e : cs.take ((k + 1) * l.length) = cs.take (k * l.length) ++ (cs.drop (k * l.length)).take l.length := by
                rw [Nat.succ_mul, List.take_add]
              rw [e, List.replicate_succ', List.flatten_append]
              refine ⟨h1.1.app (by simpa using h2.1), fun u hu => ?_⟩
              rcases List.mem_append.1 hu with hu | hu
              · exact h1.2 u hu
              · exact h2.2 u hu
          have h3 := key n (Nat.le_refl _)
          rw [List.take_of_length_le (by rw [hlen]; simp)] at h3
          exact h3
        · cases h
    · rename_i fs hu
      split at h
      · cases h
      · split at h
        · cases h
        · rename_i l hl
          split at h
          · injection h with h
            subst h
            obtain ⟨xs, m, _, _, hlen, hxl, hg⟩ := DataW.trod_struct hu hx
            rw [hc] at hlen
            have h3 := shape_fields (P := P) (flatT P d) (fun e l h => flat_cells h) (fun e cs => ∃ y, DataW.trod enc P w base spare held m e cs = some y)
              (fun e l cs h ⟨y, hy⟩ => ih _ _ h _ _ _ hy) fs.toList 0 l hl cs (by omega) (by
                intro g hgm
                obtain ⟨i, hi, hgi⟩ := List.getElem_of_mem hgm
                have hi' : i < fs.size := by simpa using hi
                have := hg i g (by rw [← hgi]; simp [hi'])
                rw [List.getElem?_eq_getElem (by omega)] at this
                exact ⟨_, this⟩)
            simpa using h3
          · cases h
    · cases h
end
/-- Cells of one kind of leaves, whatever came in. -/
theorem shape_open {H : Type} {enc : TypeId × Value → H} {P : Program} {w : World} {base : Nat} {spare : Nat → Bool} {held : Bool} {t : TypeId} {d : Nat} {ks : List TypeDesc} {x : DataW H × List MemPlace}
    (ho : flatT P d t = some ks) {cs : Array Value} (h : ∃ fuel, DataW.trod enc P w base spare held fuel t (Value.agg cs).cells.toList = some x) :
    Shape ks cs.toList ∧ ∀ u ∈ cs.toList, wfCell u := by
  obtain ⟨fuel, h⟩ := h
  exact shape_trod _ _ _ ho _ _ _ h
end Go.Proofs.YtmfenegkeiipnaaDoor
