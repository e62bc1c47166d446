/- The statements on sectors of bits. -/
import Derived.Test.YthfkacgehdfciaaGroupW
import Derived.Test.YthfkacgehdfciaaSum
namespace Go.Proofs.Ythfkacgehdfciaa
set_option linter.unusedVariables false
open Go.RowKit

theorem ownB (a : Addr) (n c : Nat) : (Value.slice (some a) n c).ownBlock = some a.block := rfl
theorem drewExt {w w' : World} (h : ∃ k, w' = w.drewN k) : Ext w w' := by
  obtain ⟨k, rfl⟩ := h
  exact (Ext.refl _).drewN _
theorem lay_len (x y : List Nat) (hx : x.length ≤ 4) (hy : y.length ≤ 12) : (sealOf 71 (gB x y)).length = 128 := sealOf_len (by rw [gB_len hx]; omega)
theorem Bytes.lit2 {a b : Nat} (ha : a < 256) (hb : b < 256) : Bytes [a, b] := Bytes.cons ha (Bytes.cons hb Bytes.nil)
set_option maxRecDepth 100000 in
set_option maxHeartbeats 1000000 in
theorem law11_awake (w : World) : Calls Try.prog 40 #[] w fun e w' => e = .returned (.bool true) ∧ Ext w w' := by
  have s1 : Sl ((w.alloc (.cells #[.int .u8 1] 5)).alloc (.cells #[.int .u8 0, .int .u8 3] 5)) (some ⟨w.heap.size, 0, none⟩) 1 1 (by8 [1]) :=
    (Sl.lit w #[.int .u8 1] 5 1 rfl (by omega) (by simp [Value.oneCell'])).ext ((Ext.refl _).alloc _)
  have s2 : Sl ((w.alloc (.cells #[.int .u8 1] 5)).alloc (.cells #[.int .u8 0, .int .u8 3] 5)) (some ⟨w.heap.size + 1, 0, none⟩) 2 2 (by8 [0, 3]) := by
    have := Sl.lit (w.alloc (.cells #[.int .u8 1] 5)) #[.int .u8 0, .int .u8 3] 5 2 rfl (by omega) (by simp [Value.oneCell'])
    simp at this
    exact this
  have hE0 : Ext w ((w.alloc (.cells #[.int .u8 1] 5)).alloc (.cells #[.int .u8 0, .int .u8 3] 5)) := ((Ext.refl w).alloc _).alloc _
  have b1 : Bytes [1] := Bytes.cons (by omega) Bytes.nil
  have b2 : Bytes [0, 3] := Bytes.lit2 (by omega) (by omega)
  have bS : Bytes (sealOf 71 (gB [1] [0, 3])) := Bytes.sealOf (by omega) (Bytes.gB b1 b2)
  have hg : gOk (sealOf 71 (gB [1] [0, 3])) 8 16 := (g_lay_ok (by simp) (by simp) 8 16).2 ⟨fun k hk => hasB_far (by simp; omega), fun k hk => hasB_far (by simp; omega)⟩
  have HG := hide hg
  have HR := hide (g_lay_read (x := [1]) (y := [0, 3]) (n := 8) (m := 16) rfl rfl (by omega) (by omega))
  clear hg
  go_enter Try.func40, Try.ntmps40
  go_wp2_with fail
  refine (group_Lay _ _ 1 1 2 2 [1] [0, 3] _ s1 s2 b1 b2 (by omega) (by omega) (by omega) (by omega)).mono ?_
  rintro e w3 ⟨g3, c3, rfl, hO3, hE3⟩
  go_wp2_with fail
  refine (group_Read _ _ _ _ 8 16 _ hO3.sl bS (by omega) (by omega) (by omega) (by omega)).mono ?_
  rintro e w4 ⟨hR, hE4⟩
  obtain ⟨A4, c4, A5, c5, B5, rfl, o4, o5, _, _⟩ := hR.ok HG.out
  clear hR
  rw [HR.out.1] at o4
  rw [HR.out.2] at o5
  go_wp2_with fail
  refine (group_Read_arg _ _ _ 3 16 _ (by unfold gIn; omega)).mono ?_
  rintro e w5 ⟨rfl, rfl⟩
  go_wp2_with fail
  refine (SameBytes _ _ _ _ _ _ [1] [1] _ (o4.sl.ext ((Ext.refl _).alloc _)) (Sl.lit w4 #[.int .u8 1] 5 1 rfl (by omega) (by simp [Value.oneCell'])) b1 b1).mono ?_
  rintro e w5 ⟨rfl, j5⟩
  have hE5 := ((Ext.refl w4).alloc _).trans (drewExt j5)
  clear j5
  rw [decide_eq_true rfl]
  go_wp2_with fail
  refine (SameBytes _ _ _ _ _ _ [0, 3] [0, 3] _ (o5.sl.ext (hE5.trans ((Ext.refl _).alloc _))) (Sl.lit w5 #[.int .u8 0, .int .u8 3] 5 2 rfl (by omega) (by simp [Value.oneCell'])) b2 b2).mono ?_
  rintro e w6 ⟨rfl, j6⟩
  have hE6 := ((Ext.refl w5).alloc _).trans (drewExt j6)
  clear j6
  rw [decide_eq_true rfl]
  go_wp2
  go_ret
  exact ⟨rfl, hE0.trans (hE3.trans (hE4.trans (hE5.trans hE6)))⟩

theorem lend_sl {w : World} {g n : Nat} {xs : List Nat} {B e : Nat} (hL : Own w B e (some ⟨g, 0, none⟩) (n + 3) (n + 3) (by8 (xs ++ [119, 119, 119]))) (hl : xs.length = n) : Sl w (some ⟨g, 0, none⟩) n (n + 3) (by8 xs) := by
  have := hL.sl.pre (m := n) (by omega)
  rw [by8_take, List.take_append_of_le_length (by omega), List.take_of_length_le (by omega)] at this
  exact this

set_option maxRecDepth 100000 in
set_option maxHeartbeats 2000000 in
theorem law_GroupTells (w : World) (A1 : Option Addr) (n1 c1 : Nat) (xs : List Nat) (h1 : Sl w A1 n1 c1 (by8 xs)) (hb1 : Bytes xs) (A2 : Option Addr) (n2 c2 : Nat) (ys : List Nat) (h2 : Sl w A2 n2 c2 (by8 ys)) (hb2 : Bytes ys)
    (A3 : Option Addr) (n3 c3 : Nat) (zs : List Nat) (h3 : Sl w A3 n3 c3 (by8 zs)) (hb3 : Bytes zs) (N : Int) (_a1 : -9223372036854775808 ≤ N) (_b1 : N ≤ 9223372036854775807) (M : Int) (_a2 : -9223372036854775808 ≤ M) (_b2 : M ≤ 9223372036854775807) :
    Calls Try.prog 12 #[.slice A1 n1 c1, .slice A2 n2 c2, .slice A3 n3 c3, .int .i64 N, .int .i64 M] w fun e w' => e = .returned (.bool true) ∧ Ext w w' := by
  have HX := hide (show xs.length = n1 by have := h1.len; rwa [by8_len] at this)
  have HY := hide (show ys.length = n2 by have := h2.len; rwa [by8_len] at this)
  have HZ := hide (show zs.length = n3 by have := h3.len; rwa [by8_len] at this)
  clear _a1 _b1 _a2 _b2
  by_cases l1 : (20 : Int) < n1
  · go_enter Try.func12, Try.ntmps12
    go_wp2_with (go_at_call 40; refine (law11_awake _).mono ?_; rintro e w2 ⟨rfl, hE2⟩)
    go_ret
    exact ⟨rfl, hE2⟩
  by_cases l2 : (20 : Int) < n2
  · go_enter Try.func12, Try.ntmps12
    go_wp2_with (go_at_call 40; refine (law11_awake _).mono ?_; rintro e w2 ⟨rfl, hE2⟩)
    go_ret
    exact ⟨rfl, hE2⟩
  by_cases l3 : (200 : Int) < n3
  · go_enter Try.func12, Try.ntmps12
    go_wp2_with (go_at_call 40; refine (law11_awake _).mono ?_; rintro e w2 ⟨rfl, hE2⟩)
    go_ret
    exact ⟨rfl, hE2⟩
  go_enter Try.func12, Try.ntmps12
  go_wp2_with fail
  refine (LendBytes _ _ _ _ _ h1 (by omega)).mono ?_
  rintro e w1 ⟨g1, rfl, hP1, hE1⟩
  go_wp2_with fail
  refine (LendBytes _ _ _ _ _ (h2.ext hE1) (by omega)).mono ?_
  rintro e w2 ⟨g2, rfl, hQ2, hE2⟩
  go_wp2_with fail
  refine (LendBytes _ _ _ _ _ (h3.ext (hE1.trans hE2)) (by omega)).mono ?_
  rintro e w3 ⟨g3, rfl, hR3, hE3⟩
  have hF3 : Ext w w3 := hE1.trans (hE2.trans hE3)
  have hP3 := hP1.ext (hE2.trans hE3)
  have hQ3 := hQ2.ext hE3
  go_wp2_with fail
  refine (group_Lay_any _ _ _ _ _ _ _ _ _ (lend_sl hP3 HX.out) (lend_sl hQ3 HY.out) hb1 hb2).mono ?_
  rintro e w4 ⟨A4, m4, c4, rfl, hm4, hO4, hE4⟩
  go_wp2_with fail
  refine (refgroup_Lay_any _ _ _ _ _ _ _ _ _ (h1.ext (hF3.trans hE4)) (h2.ext (hF3.trans hE4)) hb1 hb2).mono ?_
  rintro e w5 ⟨A5, m5, c5, rfl, hm5, hO5, hE5⟩
  have hF5 := hE4.trans hE5
  go_wp2_with fail
  refine (group_Read_any _ _ _ _ _ _ _ ((lend_sl hR3 HZ.out).ext hF5) hb3).mono ?_
  rintro e w6 ⟨A6, n6, c6, A7, n7, c7, B7, rfl, ⟨hn6, hn7⟩, hO6, hO7, ⟨hB7, hB7'⟩, hd, hE6⟩
  have hF6 := hF5.trans hE6
  go_wp2_with fail
  refine (refgroup_Read_any _ _ _ _ _ _ _ (h3.ext (hF3.trans hF6)) hb3).mono ?_
  rintro e w7 ⟨A8, n8, c8, A9, n9, c9, B9, rfl, ⟨hn8, hn9⟩, hO8, hO9, _, _, hE7⟩
  have hF7 := hF6.trans hE7
  go_wp2_with fail
  refine (SameBytes _ _ _ _ _ _ _ _ _ (hO4.ext (hE5.trans (hE6.trans hE7))).sl (hO5.ext (hE6.trans hE7)).sl (Bytes.gL hb1 hb2) (Bytes.gL hb1 hb2)).mono ?_
  rintro e w8 ⟨rfl, j8⟩
  have hE8 := drewExt j8
  clear j8
  rw [decide_eq_true (rfl : gL xs ys = gL xs ys)]
  go_wp2_with fail
  refine (SameBytes _ _ _ _ _ _ _ _ _ (hO6.ext (hE7.trans hE8)).sl (hO8.ext hE8).sl (Bytes.gXL hb3 N M) (Bytes.gXL hb3 N M)).mono ?_
  rintro e w9 ⟨rfl, j9⟩
  have hE9 := drewExt j9
  clear j9
  rw [decide_eq_true (rfl : gXL zs N M = gXL zs N M)]
  go_wp2_with fail
  refine (SameBytes _ _ _ _ _ _ _ _ _ (hO7.ext (hE7.trans (hE8.trans hE9))).sl (hO9.ext (hE8.trans hE9)).sl (Bytes.gYL hb3 N M) (Bytes.gYL hb3 N M)).mono ?_
  rintro e w10 ⟨rfl, j10⟩
  have hE10 := drewExt j10
  clear j10
  rw [decide_eq_true (rfl : gYL zs N M = gYL zs N M)]
  have hK := hE7.trans (hE8.trans (hE9.trans hE10))
  have hX := (hO4.ext (hE5.trans (hE6.trans hK)))
  have hU := hO6.ext hK
  have hV := hO7.ext hK
  have hF10 := hF6.trans hK
  have s34 := hE4.size
  have s45 := hE5.size
  have s56 := hE6.size
  have s6k := hK.size
  go_wp2_with fail
  refine (OverBytes _ _ _ _ _ _ hX (by omega) (by omega)).mono ?_
  rintro e w11 ⟨rfl, hG11⟩
  have x4 := fun k hk => (hO4.block k hk)
  have hU11 := hU.kept hG11 (by intro a ha he; have h1 := x4 _ he.symm; have h2 := hU.block a.block (by rw [ha]; exact ownB _ _ _); omega)
  have hV11 := hV.kept hG11 (by intro a ha he; have h1 := x4 _ he.symm; have h2 := hV.block a.block (by rw [ha]; exact ownB _ _ _); omega)
  have hF11 : Ext w3 w11 := hF10.grown hG11 (fun q hq => (x4 q hq).1)
  have s11 := hG11.size
  go_wp2_with fail
  refine (OverBytes _ _ _ _ _ _ hU11 (by omega) (by omega)).mono ?_
  rintro e w12 ⟨rfl, hG12⟩
  have hV12 := hV11.kept hG12 (by intro a ha he; have h1 := hd _ he.symm; have h2 := hV.block a.block (by rw [ha]; exact ownB _ _ _); omega)
  have hF12 : Ext w3 w12 := hF11.grown hG12 (fun q hq => by have := (hO6.block q hq).1; omega)
  have s12 := hG12.size
  go_wp2_with fail
  refine (OverBytes _ _ _ _ _ _ hV12 (by omega) (by omega)).mono ?_
  rintro e w13 ⟨rfl, hG13⟩
  have hF13 : Ext w3 w13 := hF12.grown hG13 (fun q hq => by have := (hV.block q hq).1; omega)
  go_wp2_with fail
  refine (KeptBytes _ _ _ _ _ _ _ _ _ (hP3.ext hF13).sl HX.out (by omega) (h1.ext (hF3.trans hF13)) hb1 hb1).mono ?_
  rintro e w14 ⟨rfl, j14⟩
  have hE14 := drewExt j14
  clear j14
  rw [decide_eq_true (rfl : xs = xs)]
  go_wp2_with fail
  refine (KeptBytes _ _ _ _ _ _ _ _ _ (hQ3.ext (hF13.trans hE14)).sl HY.out (by omega) (h2.ext (hF3.trans (hF13.trans hE14))) hb2 hb2).mono ?_
  rintro e w15 ⟨rfl, j15⟩
  have hE15 := drewExt j15
  clear j15
  rw [decide_eq_true (rfl : ys = ys)]
  go_wp2_with fail
  refine (KeptBytes _ _ _ _ _ _ _ _ _ (hR3.ext (hF13.trans (hE14.trans hE15))).sl HZ.out (by omega) (h3.ext (hF3.trans (hF13.trans (hE14.trans hE15)))) hb3 hb3).mono ?_
  rintro e w16 ⟨rfl, j16⟩
  have hE16 := drewExt j16
  clear j16
  rw [decide_eq_true (rfl : zs = zs)]
  go_wp2_with fail
  refine (law11_awake _).mono ?_
  rintro e w17 ⟨rfl, hE17⟩
  go_wp2
  go_ret
  exact ⟨rfl, hF3.trans (hF13.trans (hE14.trans (hE15.trans (hE16.trans hE17))))⟩
end Go.Proofs.Ythfkacgehdfciaa
