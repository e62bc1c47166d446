/- Contracts of spaces: Mark, Defer, over what asked says. -/
import Derived.Test.YtillhbbeghbfeaaAlcN
namespace Go.Proofs.Ytillhbbeghbfeaa
set_option linter.unusedVariables false
open Go.RowKit

theorem mark_no (q : Addr) (ino blk k i : Int) (p : Option Addr) (w : World)
    (hask : Calls Try.prog 32 #[.pointer (some q), .int .i64 ino, .int .i64 blk] w fun e w' => e = .returned (.tuple #[.pointer p, .int .i64 k, .int .i64 i, .bool false]) ∧ Ext w w') :
    Calls Try.prog 9 #[.pointer (some q), .int .i64 ino, .int .i64 blk] w fun e w' => e = .returned (.int .i64 2) ∧ Ext w w' := by
  have HA := hide hask
  clear hask
  go_enter Try.func9, Try.ntmps9
  go_wp2_with (go_at_call 32; refine HA.out.mono ?_; rintro e w2 ⟨rfl, hE2⟩)
  go_ret
  exact ⟨rfl, hE2⟩
theorem defer_no (q : Addr) (ino blk k i : Int) (p : Option Addr) (w : World)
    (hask : Calls Try.prog 32 #[.pointer (some q), .int .i64 ino, .int .i64 blk] w fun e w' => e = .returned (.tuple #[.pointer p, .int .i64 k, .int .i64 i, .bool false]) ∧ Ext w w') :
    Calls Try.prog 28 #[.pointer (some q), .int .i64 ino, .int .i64 blk] w fun e w' => e = .returned (.int .i64 2) ∧ Ext w w' := by
  have HA := hide hask
  clear hask
  go_enter Try.func28, Try.ntmps28
  go_wp2_with (go_at_call 32; refine HA.out.mono ?_; rintro e w2 ⟨rfl, hE2⟩)
  go_ret
  exact ⟨rfl, hE2⟩
section
variable {w : World} {B g o each g1 c1 g2 c2 : Nat} {t d : List (List Nat)} {q : Addr} {ino blk : Int} {k i : Nat} {xs ys : List Nat}
set_option maxHeartbeats 2000000 in
theorem mark_ex (h : SetAt w B g o each g1 c1 g2 c2 t d) (hk : t[k]? = some xs) (hi : hasB xs i = true) (hi2 : i < 1000)
    (hask : Calls Try.prog 32 #[.pointer (some q), .int .i64 ino, .int .i64 blk] w fun e w' => e = .returned (.tuple #[.pointer (some ⟨g, o, none⟩), .int .i64 (k : Int), .int .i64 (i : Int), .bool true]) ∧ Ext w w') :
    Calls Try.prog 9 #[.pointer (some q), .int .i64 ino, .int .i64 blk] w fun e w' => e = .returned (.int .i64 6) ∧ Ext w w' := by
  have hkl := (List.getElem?_eq_some_iff.1 hk).1
  obtain ⟨A, n, cA, hc, hf, hO, hb⟩ := h.rt.row hk
  have ct := h.ct
  have i1 : (0 : Int) ≤ (k : Int) := by omega
  have i2 : (k : Int) < (t.length : Int) := by omega
  have HA := hide hask
  have HH := hide (fun w' (hE : Ext w w') => (show Calls Try.prog 33 #[.slice A n cA, .int .i64 (i : Int)] w' fun e w2 => e = .returned (.bool true) ∧ w' = w2 by
    have := bits_Has A n cA xs (i : Int) w' (hO.sl.ext hE) hb (by omega); rwa [hasI_nat, hi] at this))
  clear hask hk hi hO
  go_enter Try.func9, Try.ntmps9
  go_wp2_with (first
    | (go_at_call 32; refine HA.out.mono ?_; rintro e w2 ⟨rfl, hE2⟩; have ct2 := hE2.cell ct; have cc2 := hE2.cell hc)
    | (go_at_call 33; refine (HH.out _ hE2).mono ?_; rintro e w3 ⟨rfl, rfl⟩))
  go_ret
  exact ⟨rfl, hE2⟩
set_option maxHeartbeats 2000000 in
theorem mark_ok (h : SetAt w B g o each g1 c1 g2 c2 t d) (hk : t[k]? = some xs) (hi : hasB xs i = false) (hi2 : i < 1000) (hB : B ≤ w.heap.size)
    (hask : Calls Try.prog 32 #[.pointer (some q), .int .i64 ino, .int .i64 blk] w fun e w' => e = .returned (.tuple #[.pointer (some ⟨g, o, none⟩), .int .i64 (k : Int), .int .i64 (i : Int), .bool true]) ∧ Ext w w') :
    Calls Try.prog 9 #[.pointer (some q), .int .i64 ino, .int .i64 blk] w fun e w' => e = .returned (.int .i64 0) ∧ RowsIs w' B g1 c1 (t.set k (withB xs i true)) ∧ Turned [g1] w w' := by
  have hkl := (List.getElem?_eq_some_iff.1 hk).1
  have hxl := h.wt xs (List.mem_of_getElem? hk)
  have hle := h.le
  obtain ⟨A, n, cA, hc, hf, hO, hb⟩ := h.rt.row hk
  have hn := hO.len
  rw [by8_len] at hn
  have ct := h.ct
  have i1 : (0 : Int) ≤ (k : Int) := by omega
  have i2 : (k : Int) < (t.length : Int) := by omega
  have HA := hide hask
  have HH := hide (fun w' (hE : Ext w w') => (show Calls Try.prog 33 #[.slice A n cA, .int .i64 (i : Int)] w' fun e w2 => e = .returned (.bool false) ∧ w' = w2 by
    have := bits_Has A n cA xs (i : Int) w' (hO.sl.ext hE) hb (by omega); rwa [hasI_nat, hi] at this))
  have HW := hide (fun w' (hE : Ext w w') => bits_With A n cA xs (i : Int) true w' (hO.sl.ext hE) hb (by omega) (by omega))
  have HT := hide (h.rt)
  have HB2 := hide (hb.withB i true)
  have cf := (show w.frozen? ⟨g1, k, none⟩ = false from hf)
  have cb := World.block_lt_of_cell? _ _ hc
  clear hask hk hi hO hxl hle hn hf h hb
  go_enter Try.func9, Try.ntmps9
  go_wp2_with (first
    | (go_at_call 32; refine HA.out.mono ?_; rintro e w2 ⟨rfl, hE2⟩; have ct2 := hE2.cell ct; have cc2 := hE2.cell hc)
    | (go_at_call 33; refine (HH.out _ hE2).mono ?_; rintro e w3 ⟨rfl, rfl⟩))
  go_region_with ((go_at_call 34; refine (HW.out _ hE2.drew).mono ?_; rintro e w3 ⟨A3, c3, rfl, hO3, hE3⟩; have ct3 := (hE2.drew.trans hE3).cell ct; have cc3 := (hE2.drew.trans hE3).cell hc; have cf3 := ((hE2.drew.trans hE3).frozen cb).trans cf))
  all_goals
    go_wp2
    go_ret
    exact ⟨rfl, put_row HT.out (hE2.drew.trans hE3) hO3 (by rw [if_pos (by omega), Int.toNat_natCast]) HB2.out (Nat.le_trans hB hE2.size)⟩
set_option maxHeartbeats 2000000 in
theorem defer_none (h : SetAt w B g o each g1 c1 g2 c2 t d) (hk : t[k]? = some xs) (hk2 : d[k]? = some ys) (hi : hasB xs i = false) (hi2 : i < 1000)
    (hask : Calls Try.prog 32 #[.pointer (some q), .int .i64 ino, .int .i64 blk] w fun e w' => e = .returned (.tuple #[.pointer (some ⟨g, o, none⟩), .int .i64 (k : Int), .int .i64 (i : Int), .bool true]) ∧ Ext w w') :
    Calls Try.prog 28 #[.pointer (some q), .int .i64 ino, .int .i64 blk] w fun e w' => e = .returned (.int .i64 5) ∧ Ext w w' := by
  have hkl := (List.getElem?_eq_some_iff.1 hk).1
  have hkl2 := (List.getElem?_eq_some_iff.1 hk2).1
  obtain ⟨A, n, cA, hc, hf, hO, hb⟩ := h.rt.row hk
  obtain ⟨A2, n2, cA2, hc2, hf2, hO2, hb2⟩ := h.rd.row hk2
  have ct := h.ct
  have cd := h.cd
  have i1 : (0 : Int) ≤ (k : Int) := by omega
  have i2 : (k : Int) < (t.length : Int) := by omega
  have i3 : (k : Int) < (d.length : Int) := by omega
  have HA := hide hask
  have HH := hide (fun w' (hE : Ext w w') => (show Calls Try.prog 33 #[.slice A n cA, .int .i64 (i : Int)] w' fun e w2 => e = .returned (.bool false) ∧ w' = w2 by
    have := bits_Has A n cA xs (i : Int) w' (hO.sl.ext hE) hb (by omega); rwa [hasI_nat, hi] at this))
  clear hask hk hk2 hi hO hO2
  go_enter Try.func28, Try.ntmps28
  go_wp2_with (first
    | (go_at_call 32; refine HA.out.mono ?_; rintro e w2 ⟨rfl, hE2⟩; have ct2 := hE2.cell ct; have cd2 := hE2.cell cd; have cc2 := hE2.cell hc; have ccd2 := hE2.cell hc2)
    | (go_at_call 33; refine (HH.out _ hE2).mono ?_; rintro e w3 ⟨rfl, rfl⟩))
  go_ret
  exact ⟨rfl, hE2⟩
set_option maxHeartbeats 2000000 in
theorem defer_again (h : SetAt w B g o each g1 c1 g2 c2 t d) (hk : t[k]? = some xs) (hk2 : d[k]? = some ys) (hi : hasB xs i = true) (hj : hasB ys i = true) (hi2 : i < 1000)
    (hask : Calls Try.prog 32 #[.pointer (some q), .int .i64 ino, .int .i64 blk] w fun e w' => e = .returned (.tuple #[.pointer (some ⟨g, o, none⟩), .int .i64 (k : Int), .int .i64 (i : Int), .bool true]) ∧ Ext w w') :
    Calls Try.prog 28 #[.pointer (some q), .int .i64 ino, .int .i64 blk] w fun e w' => e = .returned (.int .i64 5) ∧ Ext w w' := by
  have hkl := (List.getElem?_eq_some_iff.1 hk).1
  have hkl2 := (List.getElem?_eq_some_iff.1 hk2).1
  obtain ⟨A, n, cA, hc, hf, hO, hb⟩ := h.rt.row hk
  obtain ⟨A2, n2, cA2, hc2, hf2, hO2, hb2⟩ := h.rd.row hk2
  have ct := h.ct
  have cd := h.cd
  have i1 : (0 : Int) ≤ (k : Int) := by omega
  have i2 : (k : Int) < (t.length : Int) := by omega
  have i3 : (k : Int) < (d.length : Int) := by omega
  have HA := hide hask
  have HH := hide (fun w' (hE : Ext w w') => (show Calls Try.prog 33 #[.slice A n cA, .int .i64 (i : Int)] w' fun e w2 => e = .returned (.bool true) ∧ w' = w2 by
    have := bits_Has A n cA xs (i : Int) w' (hO.sl.ext hE) hb (by omega); rwa [hasI_nat, hi] at this))
  have HG := hide (fun w' (hE : Ext w w') => (show Calls Try.prog 33 #[.slice A2 n2 cA2, .int .i64 (i : Int)] w' fun e w2 => e = .returned (.bool true) ∧ w' = w2 by
    have := bits_Has A2 n2 cA2 ys (i : Int) w' (hO2.sl.ext hE) hb2 (by omega); rwa [hasI_nat, hj] at this))
  clear hask hk hk2 hi hj hO hO2
  go_enter Try.func28, Try.ntmps28
  go_wp2_with (first
    | (go_at_call 32; refine HA.out.mono ?_; rintro e w2 ⟨rfl, hE2⟩; have ct2 := hE2.cell ct; have cd2 := hE2.cell cd; have cc2 := hE2.cell hc; have ccd2 := hE2.cell hc2)
    | (go_at_call 33; with_reducible refine (HH.out _ hE2).mono ?_; rintro e w3 ⟨rfl, rfl⟩)
    | (go_at_call 33; with_reducible refine (HG.out _ hE2).mono ?_; rintro e w3 ⟨rfl, rfl⟩))
  go_ret
  exact ⟨rfl, hE2⟩
set_option maxHeartbeats 2000000 in
theorem defer_ok (h : SetAt w B g o each g1 c1 g2 c2 t d) (hk : t[k]? = some xs) (hk2 : d[k]? = some ys) (hi : hasB xs i = true) (hj : hasB ys i = false) (hi2 : i < 1000) (hB : B ≤ w.heap.size)
    (hask : Calls Try.prog 32 #[.pointer (some q), .int .i64 ino, .int .i64 blk] w fun e w' => e = .returned (.tuple #[.pointer (some ⟨g, o, none⟩), .int .i64 (k : Int), .int .i64 (i : Int), .bool true]) ∧ Ext w w') :
    Calls Try.prog 28 #[.pointer (some q), .int .i64 ino, .int .i64 blk] w fun e w' => e = .returned (.int .i64 0) ∧ RowsIs w' B g2 c2 (d.set k (withB ys i true)) ∧ Turned [g2] w w' := by
  have hyl := h.wd ys (List.mem_of_getElem? hk2)
  have hle := h.le
  have hkl := (List.getElem?_eq_some_iff.1 hk).1
  have hkl2 := (List.getElem?_eq_some_iff.1 hk2).1
  obtain ⟨A, n, cA, hc, hf, hO, hb⟩ := h.rt.row hk
  obtain ⟨A2, n2, cA2, hc2, hf2, hO2, hb2⟩ := h.rd.row hk2
  have ct := h.ct
  have cd := h.cd
  have i1 : (0 : Int) ≤ (k : Int) := by omega
  have i2 : (k : Int) < (t.length : Int) := by omega
  have i3 : (k : Int) < (d.length : Int) := by omega
  have HA := hide hask
  have hn2 := hO2.len
  rw [by8_len] at hn2
  have HH := hide (fun w' (hE : Ext w w') => (show Calls Try.prog 33 #[.slice A n cA, .int .i64 (i : Int)] w' fun e w2 => e = .returned (.bool true) ∧ w' = w2 by
    have := bits_Has A n cA xs (i : Int) w' (hO.sl.ext hE) hb (by omega); rwa [hasI_nat, hi] at this))
  have HG := hide (fun w' (hE : Ext w w') => (show Calls Try.prog 33 #[.slice A2 n2 cA2, .int .i64 (i : Int)] w' fun e w2 => e = .returned (.bool false) ∧ w' = w2 by
    have := bits_Has A2 n2 cA2 ys (i : Int) w' (hO2.sl.ext hE) hb2 (by omega); rwa [hasI_nat, hj] at this))
  have HW := hide (fun w' (hE : Ext w w') => bits_With A2 n2 cA2 ys (i : Int) true w' (hO2.sl.ext hE) hb2 (by omega) (by omega))
  have HT := hide (h.rd)
  have HB2 := hide (hb2.withB i true)
  have cf := (show w.frozen? ⟨g2, k, none⟩ = false from hf2)
  have cb := World.block_lt_of_cell? _ _ hc2
  clear hask hk hk2 hi hj hO hO2 hyl hle hn2 hf hf2 h hb hb2
  go_enter Try.func28, Try.ntmps28
  go_wp2_with (first
    | (go_at_call 32; refine HA.out.mono ?_; rintro e w2 ⟨rfl, hE2⟩; have ct2 := hE2.cell ct; have cd2 := hE2.cell cd; have cc2 := hE2.cell hc; have ccd2 := hE2.cell hc2)
    | (go_at_call 33; with_reducible refine (HH.out _ hE2).mono ?_; rintro e w3 ⟨rfl, rfl⟩)
    | (go_at_call 33; with_reducible refine (HG.out _ hE2).mono ?_; rintro e w3 ⟨rfl, rfl⟩))
  go_region_with ((go_at_call 34; refine (HW.out _ hE2.drew).mono ?_; rintro e w3 ⟨A3, c3, rfl, hO3, hE3⟩; have ct3 := (hE2.drew.trans hE3).cell cd; have cc3 := (hE2.drew.trans hE3).cell hc2; have cf3 := ((hE2.drew.trans hE3).frozen cb).trans cf))
  all_goals
    go_wp2
    go_ret
    exact ⟨rfl, put_row HT.out (hE2.drew.trans hE3) hO3 (by rw [if_pos (by omega), Int.toNat_natCast]) HB2.out (Nat.le_trans hB hE2.size)⟩
end
end Go.Proofs.Ytillhbbeghbfeaa
