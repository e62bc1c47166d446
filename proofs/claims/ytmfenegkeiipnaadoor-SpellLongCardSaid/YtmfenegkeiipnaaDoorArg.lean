/- What the statements' arguments are, as my own words tell them. -/
import Derived.Test.YtmfenegkeiipnaaDoorMem
import GoSem.ClaimData
import Derived.OpenShut
import Derived.ChangeArms
import GoSem.ClaimWide
namespace Go.Proofs.YtmfenegkeiipnaaDoor
open Go.RowKit

/-- A slice of integers that came in, as the shell of the kit tells it. -/
def IsRow (k : IntKind) (w : World) (a : Option Addr) (len cap : Nat) (zs : List Int) : Prop :=
  (a = none ∧ len = 0 ∧ cap = 0 ∧ zs = []) ∨
  ∃ x, a = some x ∧ len ≤ cap ∧ cap ≤ maxLen ∧ zs.length = cap ∧ (∀ i, i < zs.length → w.cell? (x.add i) = some (.int k (zs.getD i 0))) ∧ ∀ n ∈ zs, (Lit.int k n).wf = true
theorem u8_wf {n : Int} (h : (Lit.int .u8 n).wf = true) : 0 ≤ n ∧ n < 256 := by
  simp [Lit.wf, IntKind.min, IntKind.max, IntKind.bits, IntKind.signed] at h
  omega
theorem i64_wf {n : Int} (h : (Lit.int .i64 n).wf = true) : -9223372036854775808 ≤ n ∧ n ≤ 9223372036854775807 := by
  simp [Lit.wf, IntKind.min, IntKind.max, IntKind.bits, IntKind.signed] at h
  omega
theorem u64_wf {n : Int} (h : (Lit.int .u64 n).wf = true) : 0 ≤ n ∧ n ≤ 18446744073709551615 := by
  simp [Lit.wf, IntKind.min, IntKind.max, IntKind.bits, IntKind.signed] at h
  omega
theorem IsRow.sl {k : IntKind} {w : World} {A : Option Addr} {n c : Nat} {zs : List Int} (h : IsRow k w A n c zs) :
    Sl w A n c ((zs.take n).map (Value.int k)) ∧ ∀ x ∈ zs.take n, (Lit.int k x).wf = true := by
  rcases h with ⟨rfl, rfl, rfl, rfl⟩ | ⟨x, rfl, hl, hm, hz, hcell, hwz⟩
  · exact ⟨by simpa using Sl.nilS w, by simp⟩
  · refine ⟨⟨by simp; omega, hl, by simp only [maxLen] at hm; omega, (fun h => by cases h), ?_, ?_⟩, fun y hy => hwz y (List.mem_of_mem_take hy)⟩
    · intro j u hj
      simp only [List.getElem?_map, Option.map_eq_some_iff] at hj
      obtain ⟨y, hy, rfl⟩ := hj
      rw [List.getElem?_take] at hy
      split at hy
      · rename_i hjn
        have hc0 := hcell 0 (by omega)
        obtain ⟨b, off, spot⟩ := x
        have hspot : spot = none := by simpa [Addr.add] using World.cell?_spot hc0
        subst hspot
        have hc := hcell j (by omega)
        rw [Addr.add_lit] at hc
        refine ⟨b, off, rfl, ?_⟩
        rw [hc]
        simp [List.getD, hy]
      · cases hy
    · intro u hu
      obtain ⟨_, _, rfl⟩ := List.mem_map.1 hu
      rfl
theorem IsRow.sl8 {w : World} {A : Option Addr} {n c : Nat} {zs : List Int} (h : IsRow .u8 w A n c zs) : ∃ xs, Sl w A n c (by8 xs) ∧ Bytes xs := by
  obtain ⟨h1, h2⟩ := h.sl
  refine ⟨(zs.take n).map Int.toNat, ?_, ?_⟩
  · have e : (zs.take n).map (Value.int .u8) = by8 ((zs.take n).map Int.toNat) := by
      unfold by8
      rw [List.map_map]
      apply List.map_congr_left
      intro a ha
      have := u8_wf (h2 a ha)
      simp only [Function.comp_apply]
      rw [show ((a.toNat : Nat) : Int) = a from by omega]
    rw [← e]; exact h1
  · intro x hx
    obtain ⟨a, ha, rfl⟩ := List.mem_map.1 hx
    have := u8_wf (h2 a ha)
    omega
theorem cells_ints {k : IntKind} : ∀ {cs : List Value} {n : Nat}, cs.length = n → (∀ i, i < n → ∃ p, (cs.drop i).take 1 = [.int k p] ∧ (Lit.int k p).wf = true) →
    ∃ ps : List Int, cs = ps.map (Value.int k) ∧ ps.length = n ∧ ∀ p ∈ ps, (Lit.int k p).wf = true := by
  intro cs
  induction cs with
  | nil => intro n hl _; exact ⟨[], rfl, by simpa using hl, by simp⟩
  | cons c cs ih =>
    intro n hl h
    simp at hl
    obtain ⟨p, hp, hw⟩ := h 0 (by omega)
    simp at hp
    subst hp
    obtain ⟨ps, h1, h2, h3⟩ := ih (n := n - 1) (by omega) (fun i hi => by simpa using h (i + 1) (by omega))
    refine ⟨p :: ps, by simp [h1], by simp; omega, ?_⟩
    intro q hq
    rcases List.mem_cons.1 hq with rfl | hq
    · exact hw
    · exact h3 q hq
/-- An array of integers that came in by value. -/
theorem arr_open {H : Type} {enc : TypeId × Value → H} {P : Program} {w : World} {base : Nat} {spare : Nat → Bool} {held : Bool} {t e : TypeId} {n : Nat} {k : IntKind} {x : DataW H × List MemPlace}
    (ht : P.underlying t = some (.array n e)) (he : P.underlying e = some (.int k)) (hc : P.cellsOf e = 1) (hn : P.cellsOf t = n) {cs : Array Value}
    (h : ∃ fuel, DataW.trod enc P w base spare held fuel t (Value.agg cs).cells.toList = some x) :
    ∃ ps : List Int, cs = (ps.map (Value.int k)).toArray ∧ ps.length = n ∧ ∀ p ∈ ps, (Lit.int k p).wf = true := by
  obtain ⟨fuel, h⟩ := h
  obtain ⟨xs, m, _, _, hl, hxl, hf⟩ := DataW.trod_array ht h
  have hl' : cs.toList.length = n := by rw [← hn]; simpa [Value.cells] using hl
  obtain ⟨ps, h1, h2, h3⟩ := cells_ints (k := k) hl' (by
    intro i hi
    have hx := hf i hi
    rw [hc, Nat.mul_one] at hx
    rw [List.getElem?_eq_getElem (by omega)] at hx
    obtain ⟨p, hp, _, hw⟩ := DataW.trod_int he hx
    exact ⟨p, hp, hw⟩)
  refine ⟨ps, ?_, h2, h3⟩
  apply Array.ext'
  simpa using h1
/-- A struct of integers that came in by value. -/
theorem str_open {H : Type} {enc : TypeId × Value → H} {P : Program} {w : World} {base : Nat} {spare : Nat → Bool} {held : Bool} {t : TypeId} {n : Nat} {k : IntKind} {fs : Array Field} {x : DataW H × List MemPlace}
    (ht : P.underlying t = some (.struct fs)) (hn : P.cellsOf t = n) (hfs : fs.size = n) (hf : ∀ i, i < n → ∃ f, fs[i]? = some f ∧ f.offset = i ∧ P.cellsOf f.type = 1 ∧ P.underlying f.type = some (.int k)) {cs : Array Value}
    (h : ∃ fuel, DataW.trod enc P w base spare held fuel t (Value.agg cs).cells.toList = some x) :
    ∃ ps : List Int, cs = (ps.map (Value.int k)).toArray ∧ ps.length = n ∧ ∀ p ∈ ps, (Lit.int k p).wf = true := by
  obtain ⟨fuel, h⟩ := h
  obtain ⟨xs, m, _, _, hl, hxl, hg⟩ := DataW.trod_struct ht h
  have hl' : cs.toList.length = n := by rw [← hn]; simpa [Value.cells] using hl
  obtain ⟨ps, h1, h2, h3⟩ := cells_ints (k := k) hl' (by
    intro i hi
    obtain ⟨f, hfi, ho, hc, hu⟩ := hf i hi
    have hx := hg i f hfi
    rw [hc, ho] at hx
    rw [List.getElem?_eq_getElem (by omega)] at hx
    obtain ⟨p, hp, _, hw⟩ := DataW.trod_int hu hx
    exact ⟨p, hp, hw⟩)
  refine ⟨ps, ?_, h2, h3⟩
  apply Array.ext'
  simpa using h1
theorem okWide_array {P : Program} {w : World} {r : Reach} {base : Nat} {t : TypeId} {v : Value} {n : Nat} {e : TypeId} (ht : P.underlying t = some (.array n e)) (h : Value.okWide P w r base t v) : ∃ cs, v = .agg cs ∧ cs.size = P.cellsOf t := by
  unfold Value.okWide at h
  rw [ht] at h
  obtain ⟨cs, rfl, hs, _⟩ := h
  exact ⟨cs, rfl, hs⟩
end Go.Proofs.YtmfenegkeiipnaaDoor
