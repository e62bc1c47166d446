/- Records: their bytes. -/
import Derived.Test.YtngffmchjjpfbaaRec
import Derived.Test.YtngffmchjjpfbaaSealW
import Derived.Test.YtngffmchjjpfbaaApart
namespace Go.Proofs.Ytngffmchjjpfbaa
set_option linter.unusedVariables false
open Go.RowKit

def strL (s : ByteArray) : List Nat := s.data.toList.map UInt8.toNat
theorem strL_len (s : ByteArray) : (strL s).length = s.size := by rw [Lib.size_eq]; simp [strL]
theorem Bytes.strL (s : ByteArray) : Bytes (strL s) := by
  intro x hx
  obtain ⟨b, _, rfl⟩ := List.mem_map.1 hx
  exact b.toNat_lt
theorem strCells_by8 (s : ByteArray) : Lib.strCells s = by8 (strL s) := by
  simp [Lib.strCells, by8, strL]
/-- A name with its length, and zeros. -/
def nmB (s : ByteArray) : List Nat := s.size :: (strL s ++ List.replicate (24 - s.size) 0)
theorem nmB_len {s : ByteArray} (h : s.size ≤ 24) : (nmB s).length = 25 := by simp [nmB, strL_len]; omega
set_option maxHeartbeats 1000000 in
theorem rec_named (s : ByteArray) (hs : s.size ≤ 24) (w : World) : Calls Try.prog 36 #[.string s] w fun e w' => ∃ A' c', e = .returned (.slice A' 25 c') ∧ Own w' w.heap.size 5 A' 25 c' (by8 (nmB s)) ∧ Ext w w' := by
  have e0 : IntKind.u8.wrap (s.size : Int) = (s.size : Int) := by unfold IntKind.wrap; simp [IntKind.bits, IntKind.signed]; omega
  have hO0 : Own (w.alloc (.cells #[.int .u8 (s.size : Int)] 5)) w.heap.size 5 (some ⟨w.heap.size, 0, none⟩) 1 1 (by8 [s.size]) :=
    Own.made (Nat.le_refl _) #[.int .u8 (s.size : Int)] 1 (by simp [maxLen]) (Nat.le_refl _) rfl (by simp [Value.oneCell'])
  have hE0 : Ext w (w.alloc (.cells #[.int .u8 (s.size : Int)] 5)) := (Ext.refl w).alloc _
  go_enter Try.func36, Try.ntmps36
  go_wp2_with (first
    | (at_builtin; refine app8s rfl (.tmp 7) (.tmp 8) rfl w.heap.size _ 1 1 _ rfl hO0 s rfl (by omega) (by simp) ?_; intro A1 c1 w1 hO1 hG1; have hE1 := hE0.grown hG1 (by simp [Value.ownBlock]))
    | (at_builtin; refine app8z rfl (.tmp 10) (.tmp 13) rfl w.heap.size _ (1 + s.size) c1 _ rfl hO1 _ (24 - s.size) rfl (by omega) (by omega) hE1.size ?_; intro A2 c2 w2 hO2 hG2; have hE2 := hE1.grown hG2 (fun q hq => (hO1.block q hq).1)))
  rw [strCells_by8, show (Value.int .u8 0) = Value.int .u8 ((0 : Nat) : Int) from rfl, by8_rep, ← by8_append, ← by8_append, show 1 + s.size + (24 - s.size) = 25 from by omega] at hO2
  go_ret
  exact ⟨_, _, by rw [show 1 + s.size + (24 - s.size) = 25 from by omega]; rfl, hO2, hE2⟩
set_option maxHeartbeats 1000000 in
theorem ref10_named (w0 : World) (A : Option Addr) (n c : Nat) (xs : List Nat) (s : ByteArray) (hs : s.size ≤ 24) (w : World) (hE : Ext w0 w) (hn : n ≤ 1000) (hO : Own w w0.heap.size 5 A n c (by8 xs)) : Calls Try.prog 38 #[.slice A n c, .string s] w fun e w' => ∃ A' c', e = .returned (.slice A' (n + 25) c') ∧ Own w' w0.heap.size 5 A' (n + 25) c' (by8 (xs ++ nmB s)) ∧ Ext w0 w' := by
  have e0 : IntKind.u8.wrap (s.size : Int) = (s.size : Int) := by unfold IntKind.wrap; simp [IntKind.bits, IntKind.signed]; omega
  have hsz := hE.size
  have hE0 : Ext w (w.alloc (.cells #[.int .u8 (s.size : Int)] 5)) := (Ext.refl w).alloc _
  have hS0 : Sl (w.alloc (.cells #[.int .u8 (s.size : Int)] 5)) (some ⟨w.heap.size, 0, none⟩) 1 1 (by8 [s.size]) :=
    (Own.made (B := w.heap.size) (e := 5) (w := w) (Nat.le_refl _) #[.int .u8 (s.size : Int)] 1 (by simp [maxLen]) (Nat.le_refl _) rfl (by simp [Value.oneCell'])).sl
  have hO0 := hO.ext hE0
  have hE00 := hE.trans hE0
  go_enter Try.func38, Try.ntmps38
  go_wp2_with (first
    | (at_builtin; refine app8 rfl (.tmp 5) (.tmp 9) rfl w0.heap.size A n c _ rfl hO0 _ 1 1 _ rfl hS0 (by omega) (by simp; omega) ?_; intro A1 c1 w1 hO1 hG1; have hE1 := hE00.grown hG1 (fun q hq => (hO0.block q hq).1))
    | (at_builtin; refine app8s rfl (.tmp 10) (.tmp 11) rfl w0.heap.size A1 (n + 1) c1 _ rfl hO1 s rfl (by omega) hE1.size ?_; intro A2 c2 w2 hO2 hG2; have hE2 := hE1.grown hG2 (fun q hq => (hO1.block q hq).1))
    | (at_builtin; refine app8z rfl (.tmp 12) (.tmp 15) rfl w0.heap.size A2 (n + 1 + s.size) c2 _ rfl hO2 _ (24 - s.size) rfl (by omega) (by omega) hE2.size ?_; intro A3 c3 w3 hO3 hG3; have hE3 := hE2.grown hG3 (fun q hq => (hO2.block q hq).1)))
  rw [strCells_by8, show (Value.int .u8 0) = Value.int .u8 ((0 : Nat) : Int) from rfl, by8_rep, ← by8_append, ← by8_append, ← by8_append, show n + 1 + s.size + (24 - s.size) = n + 25 from by omega] at hO3
  go_ret
  exact ⟨_, _, by rw [show n + 1 + s.size + (24 - s.size) = n + 25 from by omega]; rfl, by simpa [nmB] using hO3, hE3⟩
end Go.Proofs.Ytngffmchjjpfbaa
