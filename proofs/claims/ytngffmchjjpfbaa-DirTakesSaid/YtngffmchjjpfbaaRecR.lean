/- Records: what bytes are read as. -/
import Derived.Test.YtngffmchjjpfbaaRecN
namespace Go.Proofs.Ytngffmchjjpfbaa
set_option linter.unusedVariables false
open Go.RowKit

/-- The name that some bytes begin with. -/
def nmL (b : List Nat) (j : Nat) : List Nat := (b.drop (j + 1)).take (min (b.getD j 0) 24)
def wN (b : List Nat) (j : Nat) : Nat := b.getD j 0 * 256 + b.getD (j + 1) 0
def rdR (b : List Nat) : Rec := (decide (b.getD 0 0 = 1), (wN b 1 : Nat), (wN b 3 : Nat), (wN b 5 : Nat), (wN b 7 : Nat), strN (nmL b 9), strN (nmL b 34))
set_option maxHeartbeats 1000000 in
theorem rec_name (A : Option Addr) (n c : Nat) (xs : List Nat) (w : World) (h : Sl w A n c (by8 xs)) (hb : Bytes xs) (hn : 25 ≤ n) : Calls Try.prog 41 #[.slice A n c] w fun e w' => e = .returned (.string (strN (nmL xs 0))) ∧ w = w' := by
  obtain ⟨g, o, x, rfl, hx, hc0, hl⟩ := h.at8 hb (k := 0) (by omega)
  simp only [Nat.add_zero] at hc0
  have hnc := h.nc
  have e1 : (min (x : Int) 24) = ((min x 24 : Nat) : Int) := by omega
  have e2 : IntKind.i64.wrap (1 + ((min x 24 : Nat) : Int)) = 1 + ((min x 24 : Nat) : Int) := IntWalk.i64_in _ (by omega)
  have hcut := (h.cut (l := 1) (by omega)).pre (m := min x 24) (by omega)
  rw [if_neg (by omega)] at hcut
  have hS : Sl w (some ⟨g, o + 1, none⟩) (min x 24) (c - 1) (by8 ((xs.drop 1).take (min x 24))) := by
    rw [by8_drop, by8_take] at hcut
    have e : (some (⟨g, o, none⟩ : Addr)).map (·.add 1) = some ⟨g, o + 1, none⟩ := by simp [Addr.add_lit]
    rw [e] at hcut
    exact hcut
  have hcv := str8 hS
  have hnm : nmL xs 0 = (xs.drop 1).take (min x 24) := by
    unfold nmL
    rw [List.getD_eq_getElem?_getD, hx.out]
    rfl
  have HNM := hide hnm
  clear hnm hcut
  go_enter Try.func41, Try.ntmps41
  go_wp2_with fail
  go_ret
  exact ⟨by rw [HNM.out, List.drop_one]; rfl, rfl⟩
set_option maxHeartbeats 1000000 in
theorem rec_word (w : World) (gs gb cb : Nat) (b : List Nat) (hcell : w.cell? ⟨gs, 0, none⟩ = some (.slice (some ⟨gb, 0, none⟩) 123 cb)) (hS : Sl w (some ⟨gb, 0, none⟩) 123 cb (by8 b)) (hb : Bytes b) (K : Int) (k : Nat) (hK : K = k) (hk : k + 1 < 123) :
    Calls Try.prog 40 #[.int .i64 K, .pointer (some ⟨gs, 0, none⟩)] w fun e w' => e = .returned (.int .i64 (wN b k : Nat)) ∧ ∃ q, w' = w.drewN q := by
  subst hK
  obtain ⟨_, _, x, hA, hx, hcx, hx2⟩ := hS.at8 hb (show k < 123 by omega)
  simp at hA
  obtain ⟨rfl, rfl⟩ := hA
  obtain ⟨_, _, y, hA, hy, hcy, hy2⟩ := hS.at8 hb (show k + 1 < 123 by omega)
  simp at hA
  obtain ⟨rfl, rfl⟩ := hA
  simp only [Nat.zero_add] at hcx hcy
  have hcm := hS.cm
  have hnc := hS.nc
  have hor := or_bytes hx2 hy2
  have hv : wN b k = x * 256 + y := by
    unfold wN
    rw [List.getD_eq_getElem?_getD, List.getD_eq_getElem?_getD, hx.out, hy.out]
    rfl
  have HV := hide hv
  have hi0 : (0 : Int) ≤ (k : Int) := by omega
  have hi1 : (k : Int) < 123 := by omega
  have hi2 : (0 : Int) ≤ (k : Int) + 1 := by omega
  have hi3 : (k : Int) + 1 < 123 := by omega
  have e1 : IntKind.i64.wrap ((k : Int) + 1) = (k : Int) + 1 := IntWalk.i64_in _ (by omega)
  have e2 : ((k : Int) + 1).toNat = k + 1 := by omega
  have e3 : IntKind.i64.wrap ((x : Int) * 256) = (x : Int) * 256 := IntWalk.i64_in _ (by omega)
  clear hv
  go_enter Try.func40, Try.ntmps40
  go_wp2
  go_quiet (fail)
  go_wp2
  go_ret
  exact ⟨ret_int (by rw [HV.out]; simp), nq, rfl⟩
end Go.Proofs.Ytngffmchjjpfbaa
