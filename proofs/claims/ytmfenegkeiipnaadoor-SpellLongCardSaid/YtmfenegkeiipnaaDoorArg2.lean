/- Arrays and structs within each other that came in by value. -/
import Derived.Test.YtmfenegkeiipnaaDoorArg
namespace Go.Proofs.YtmfenegkeiipnaaDoor
open Go.RowKit

/-- The cells of a type are integers of one kind. -/
def OpensI (P : Program) (k : IntKind) (t : TypeId) (n : Nat) : Prop :=
  ∀ (H : Type) (enc : TypeId × Value → H) (w : World) (base : Nat) (spare : Nat → Bool) (held : Bool) (fuel : Nat) (cs : List Value) (x : DataW H × List MemPlace),
    DataW.trod enc P w base spare held fuel t cs = some x → cs.length = n ∧ ∀ i, i < n → ∃ p, (cs.drop i).take 1 = [.int k p] ∧ (Lit.int k p).wf = true
theorem opens_int {P : Program} {k : IntKind} {e : TypeId} (he : P.underlying e = some (.int k)) : OpensI P k e 1 := by
  intro H enc w base spare held fuel cs x h
  obtain ⟨p, hp, _, hw⟩ := DataW.trod_int he h
  subst hp
  refine ⟨rfl, fun i hi => ⟨p, ?_, hw⟩⟩
  obtain rfl : i = 0 := by omega
  rfl
theorem take_one_within {α : Type} (l : List α) (q m r : Nat) (hr : r < m) : (((l.drop q).take m).drop r).take 1 = (l.drop (q + r)).take 1 := by
  rw [List.drop_take, List.take_take, List.drop_drop]
  congr 1
  omega
theorem opens_arr {P : Program} {k : IntKind} {t e : TypeId} {n m N : Nat} (ht : P.underlying t = some (.array n e)) (he : OpensI P k e m) (hc : P.cellsOf e = m) (hN : P.cellsOf t = N) (hm : N = n * m) (h0 : 0 < m) : OpensI P k t N := by
  intro H enc w base spare held fuel cs x h
  obtain ⟨xs, q, _, _, hl, hxl, hf⟩ := DataW.trod_array ht h
  refine ⟨by rw [← hN]; simpa using hl, fun i hi => ?_⟩
  have hq : i / m < n := (Nat.div_lt_iff_lt_mul h0).2 (by omega)
  have hr : i % m < m := Nat.mod_lt _ h0
  have hx := hf (i / m) hq
  rw [hc, List.getElem?_eq_getElem (by omega)] at hx
  obtain ⟨_, h2⟩ := he H enc w base spare held _ _ _ hx
  obtain ⟨p, hp, hw⟩ := h2 (i % m) hr
  rw [take_one_within _ _ _ _ hr, Nat.mul_comm, Nat.div_add_mod] at hp
  exact ⟨p, hp, hw⟩
theorem opens_str {P : Program} {k : IntKind} {t : TypeId} {n : Nat} {fs : Array Field} (ht : P.underlying t = some (.struct fs)) (hn : P.cellsOf t = n)
    (hf : ∀ i, i < n → ∃ (j m : Nat) (f : Field), fs[j]? = some f ∧ f.offset ≤ i ∧ i < f.offset + m ∧ P.cellsOf f.type = m ∧ OpensI P k f.type m) : OpensI P k t n := by
  intro H enc w base spare held fuel cs x h
  obtain ⟨xs, q, _, _, hl, hxl, hg⟩ := DataW.trod_struct ht h
  refine ⟨by rw [← hn]; simpa using hl, fun i hi => ?_⟩
  obtain ⟨j, m, f, hj, h1, h2, hc, ho⟩ := hf i hi
  have hx := hg j f hj
  rw [hc, List.getElem?_eq_getElem (by have := (Array.getElem?_eq_some_iff.1 hj).1; omega)] at hx
  obtain ⟨_, h3⟩ := ho H enc w base spare held _ _ _ hx
  obtain ⟨p, hp, hw⟩ := h3 (i - f.offset) (by omega)
  rw [take_one_within _ _ _ _ (by omega), show f.offset + (i - f.offset) = i from by omega] at hp
  exact ⟨p, hp, hw⟩
/-- One that came in by value. -/
theorem flat_open {H : Type} {enc : TypeId × Value → H} {P : Program} {w : World} {base : Nat} {spare : Nat → Bool} {held : Bool} {t : TypeId} {n : Nat} {k : IntKind} {x : DataW H × List MemPlace}
    (ho : OpensI P k t n) {cs : Array Value} (h : ∃ fuel, DataW.trod enc P w base spare held fuel t (Value.agg cs).cells.toList = some x) :
    ∃ ps : List Int, cs = (ps.map (Value.int k)).toArray ∧ ps.length = n ∧ ∀ p ∈ ps, (Lit.int k p).wf = true := by
  obtain ⟨fuel, h⟩ := h
  obtain ⟨hl, h2⟩ := ho _ _ _ _ _ _ _ _ _ h
  have e : (Value.agg cs).cells.toList = cs.toList := rfl
  rw [e] at hl h2
  obtain ⟨ps, e1, e2, e3⟩ := cells_ints (k := k) hl h2
  exact ⟨ps, Array.ext' (by simpa using e1), e2, e3⟩
end Go.Proofs.YtmfenegkeiipnaaDoor
