/- AllocScript: how its acts come in. -/
import Derived.Test.YtillhbbeghbfeaaLawG6
import Derived.Test.YtillhbbeghbfeaaArg3
import Derived.Deep.Slices
namespace Go.Proofs.Ytillhbbeghbfeaa
open Go.RowKit

theorem flat_act : flatT Try.prog 8 40 = some [.int .i64, .int .i64, .int .i64, .bool] := by kernel_rfl
theorem act_shape {X : List Value} (h : Shape [.int .i64, .int .i64, .int .i64, .bool] X) (hw : ∀ u ∈ X, wfCell u) : ∃ (d k m : Int) (l : Bool), X = actV d k m l ∧ -9223372036854775808 ≤ k := by
  match X, h with
  | [v0, v1, v2, v3], h =>
    have c0 := h.2 0 _ _ rfl rfl
    have c1 := h.2 1 _ _ rfl rfl
    have c2 := h.2 2 _ _ rfl rfl
    have c3 := h.2 3 _ _ rfl rfl
    have h1 := hw v1 (by simp)
    cases v0 <;> simp only [cellIs] at c0
    cases v1 <;> simp only [cellIs] at c1
    cases v2 <;> simp only [cellIs] at c2
    cases v3 <;> simp only [cellIs] at c3
    subst c0 c1 c2
    exact ⟨_, _, _, _, rfl, (i64_wf h1).1⟩
theorem act_open {H : Type} {enc : TypeId × Value → H} {w : World} {base : Nat} {spare : Nat → Bool} {held : Bool} {t : TypeId} {x : DataW H × List MemPlace} (ht : Try.prog.underlying t = some (.slice 40))
    {a : Option Addr} {len cap : Nat} (h : ∃ fuel, DataW.trod enc Try.prog w base spare held fuel t (Value.slice a len cap).cells.toList = some x) : ActIn w a len cap := by
  obtain ⟨fuel, hf⟩ := h
  rcases Go.Deep.open_slice ht hf with ⟨hcs, _⟩ | ⟨x, l, c, m, n, D, Pl, hcs, hb, hl, hm, hmm, _, hx⟩
  · simp [Value.cells] at hcs
    obtain ⟨rfl, rfl, rfl⟩ := hcs
    exact ⟨by omega, by omega, fun i hi => by omega⟩
  · simp [Value.cells] at hcs
    obtain ⟨rfl, rfl, rfl⟩ := hcs
    refine ⟨hl, by simp only [maxLen] at hm; omega, fun i hi => ?_⟩
    have him : i < m := by rw [hmm]; split <;> omega
    obtain ⟨cs', h1, h2⟩ := hx i him
    have hc4 : Try.prog.cellsOf 40 = 4 := by kernel_rfl
    rw [hc4] at h1
    obtain ⟨hs, hw⟩ := shape_trod _ _ _ flat_act _ _ _ h2
    obtain ⟨d, k, m', l', rfl, hk⟩ := act_shape hs hw
    obtain ⟨_, hlen, hcell⟩ := World.cells?_some h1
    obtain ⟨b, off, spot⟩ := x
    obtain ⟨c0, g1, g2⟩ := hx 0 (by omega)
    rw [hc4] at g1
    obtain ⟨gs, gw⟩ := shape_trod _ _ _ flat_act _ _ _ g2
    obtain ⟨d0, k0, m0, l0, rfl, _⟩ := act_shape gs gw
    obtain ⟨_, _, gcell⟩ := World.cells?_some g1
    have hc0 := gcell 0 (by omega)
    have hspot : spot = none := by simpa [Addr.add, actV] using World.cell?_spot hc0
    subst hspot
    refine ⟨d, k, m', l', b, off, hk, rfl, fun j v hj => ?_⟩
    have hj4 : j < 4 := (List.getElem?_eq_some_iff.1 hj).1
    have := hcell j hj4
    rw [hj, Addr.add_lit, Addr.add_lit] at this
    exact this
end Go.Proofs.Ytillhbbeghbfeaa
