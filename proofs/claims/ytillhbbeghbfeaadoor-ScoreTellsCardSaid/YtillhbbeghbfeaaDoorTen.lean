/- What is answered is written over: the walk of OverInts. -/
import Derived.Test.YtillhbbeghbfeaaDoorTem
namespace Go.Proofs.YtillhbbeghbfeaaDoor
set_option linter.unusedVariables false
set_option linter.unusedSimpArgs false
open Go.RowKit

set_option maxHeartbeats 1000000 in
theorem f_OverInts {w0 w : World} {g n c : Nat} {zs : List Int} (h : Row w0 w g n c zs) (hn : n ≤ 1000000) :
    Calls Tryd.prog 33 #[.slice (some ⟨g, 0, none⟩) n c] w fun e w' => e = .returned (.tuple #[]) ∧ Ext w0 w' := by
  have hcm := h.1.sl.cm
  have hnc := h.1.sl.nc
  go_enter Tryd.func33, Tryd.ntmps33
  go_wp2_with fail
  go_loopw [2] (fun v wr => ∃ (k : Nat) (ys : List Int), k ≤ n ∧ v = .int .i64 k ∧ Row w0 wr g n c ys) (fun v _ => n - (intOf v).toNat)
  case atStart => exact ⟨0, zs, by omega, rfl, h⟩
  case round =>
    clear h
    obtain ⟨k, ys, hk, rfl, hR⟩ := hrel
    by_cases hlt : k < n
    · have i2 : (k : Int) < (n : Int) := by omega
      have hck := hR.cell hlt
      have hfk := hR.1.frozenAt k
      have HR2 := hide (hR.set k (-999))
      clear hR
      go_wp2_with fail
      go_roundw
      case rel => exact ⟨k + 1, _, by omega, by go_num, HR2.out⟩
      case measure => simp [intOf]; omega
    · obtain rfl : k = n := by omega
      have hO := hR.1
      have hE := hR.2
      have hEs := hE.size
      clear hR
      go_wp2_with (at_builtin; refine appI rfl (.tmp 12) (.tmp 13) rfl w0.heap.size _ k c _ rfl (hO.ext ((Ext.refl _).alloc _)) _ 1 1 _ rfl (Sl.lit wr _ 3 1 rfl (by omega) (by simp [Value.oneCell'])) (by omega) (by simp; omega) ?_; intro A2 c2 w2 hO2 hG2; have hE2 : Ext w0 w2 := (hE.alloc _).grown hG2 (fun q hq => (hO.block q hq).1))
      go_end0
      exact ⟨rfl, hE2⟩
end Go.Proofs.YtillhbbeghbfeaaDoor
