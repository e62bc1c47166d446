/- The statements on superblocks. -/
import Derived.Test.YthfkacgehdfciaaSuperW
import Derived.Test.YthfkacgehdfciaaSum
namespace Go.Proofs.Ythfkacgehdfciaa
open Go.RowKit

theorem eq_geo (a b c a' b' c' : Int) (w : World) : (Op.equalIn 10000 46 (.agg (i64s (geo a b c)).toArray) (.agg (i64s (geo a' b' c')).toArray)).run Try.prog w = .ok (decide (geo a b c = geo a' b' c')) w := by
  have e : (Op.equalIn 10000 46 (.agg (i64s (geo a b c)).toArray) (.agg (i64s (geo a' b' c')).toArray)).run Try.prog w = .ok (a == a' && (b == b' && c == c')) w := by
    have hu := Try.underlying3
    show (Op.equalIn 10000 46 (.agg #[.int .i64 a, .int .i64 b, .int .i64 c]) (.agg #[.int .i64 a', .int .i64 b', .int .i64 c'])).run Try.prog w = _
    go_simp
    by_cases h1 : a = a' <;> by_cases h2 : b = b' <;> by_cases h3 : c = c' <;> simp [h1, h2, h3]
  rw [e]
  congr 1
  rw [Bool.eq_iff_iff]
  simp [geo_inj]
theorem geo114 : mayG 1 4 16 := by unfold mayG; omega
set_option maxRecDepth 100000 in
set_option maxHeartbeats 1000000 in
theorem law6_awake (w : World) : Calls Try.prog 35 #[] w fun e w' => e = .returned (.bool true) ∧ Ext w w' := by
  have HL := hide (sup_lay geo114 true)
  have HB := hide (sup_back geo114 true)
  have hno : kindOf [] ≠ 83 := by decide
  have HN := hide (sup_no (xs := []) (fun h => hno h.1))
  have hq : ∀ w1, (Op.equalIn 10000 46 (.agg (i64s (geo 1 4 16)).toArray) (.agg (i64s (geo 1 4 16)).toArray)).run Try.prog w1 = .ok true w1 := fun w1 => by rw [eq_geo, decide_eq_true rfl]
  clear hno
  have hb : Bytes (sealOf 83 (supB 1 4 16 true)) := Bytes.sealOf (by omega) (Bytes.supB _ _ _ _)
  have hln : (sealOf 83 (supB 1 4 16 true)).length = 128 := sealOf_len (by rw [supB_len]; omega)
  go_enter Try.func35, Try.ntmps35
  go_wp2_with (first
    | (with_reducible refine ag_alloc (o := ⟨some 1, _, _, _, _, _⟩) rfl 46 rfl _ 3 zero_geo rfl (by omega) (i64s_one _) w.heap.size (Nat.le_refl _) ?_; intro w1 hR1 hE1 hz1)
    | (with_reducible refine ag_store (o := ⟨none, _, _, _, _, _⟩) rfl 46 (.tmp 1) (.tmp 10) rfl w.heap.size 3 w.heap.size 46 _ (i64s (geo 1 4 16)) rfl (by kernel_rfl) hR1 rfl (i64s_one _) info_geo ?_; intro w2 hR2 hG2
       have hE2 : Ext w w2 := hE1.grown hG2 (by simp))
    | (with_reducible refine ag_load (o := ⟨some 12, _, _, _, _, _⟩) rfl 46 (.tmp 1) rfl w.heap.size 3 w.heap.size 46 _ rfl hR2 agg_geo info_geo ?_))
  refine (super_Lay 1 4 16 true _).mono ?_
  rintro e w3 ⟨A3, n3, c3, rfl, hn3, hO3, hE3⟩
  rw [HL.out.2]
  rw [HL.out.1] at hO3
  obtain rfl : n3 = 128 := by have := hO3.len; rw [by8_len, hln] at this; omega
  go_wp2_with fail
  refine (super_Read _ _ _ _ _ hO3.sl hb).mono ?_
  rintro e w4 ⟨rfl, hE4⟩
  rw [HB.out.2.1, HB.out.2.2.1, HB.out.2.2.2]
  have hR4 := hR2.ext (hE3.trans hE4)
  go_wp2_with (first
    | (with_reducible refine ag_alloc (o := ⟨some 4, _, _, _, _, _⟩) rfl 46 rfl _ 3 zero_geo rfl (by omega) (i64s_one _) w4.heap.size (Nat.le_refl _) ?_; intro w5 hT5 hE5 hz5)
    | (with_reducible refine ag_store (o := ⟨none, _, _, _, _, _⟩) rfl 46 (.tmp 4) (.tmp 19) rfl w4.heap.size 3 w4.heap.size 46 _ _ rfl rfl hT5 rfl (i64s_one _) info_geo ?_; intro w6 hT6 hG6
       have hE6 : Ext w4 w6 := hE5.grown hG6 (by simp)))
  refine (super_Read none 0 0 [] _ (Sl.nilS _) Bytes.nil).mono ?_
  rintro e w7 ⟨rfl, hE7⟩
  rw [HN.out.1, HN.out.2.1, HN.out.2.2]
  go_wp2_with (first
    | (with_reducible refine ag_alloc (o := ⟨some 7, _, _, _, _, _⟩) rfl 46 rfl _ 3 zero_geo rfl (by omega) (i64s_one _) w7.heap.size (Nat.le_refl _) ?_; intro w8 hV8 hE8 hz8)
    | (with_reducible refine ag_store (o := ⟨none, _, _, _, _, _⟩) rfl 46 (.tmp 7) (.tmp 24) rfl w7.heap.size 3 w7.heap.size 46 _ _ rfl rfl hV8 rfl (i64s_one _) info_geo ?_; intro w9 hV9 hG9
       have hE9 : Ext w7 w9 := hE8.grown hG9 (by simp)
       have hT9 := hT6.ext (hE7.trans hE9)
       have hR9 := hR4.ext (hE6.trans (hE7.trans hE9)))
    | (with_reducible refine ag_load (o := ⟨some 35, _, _, _, _, _⟩) ?k35 46 (.tmp 4) rfl w4.heap.size 3 w4.heap.size 46 _ rfl hT9 agg_geo info_geo ?_; case k35 => go_simp)
    | (with_reducible refine ag_load (o := ⟨some 36, _, _, _, _, _⟩) ?k36 46 (.tmp 1) rfl w.heap.size 3 w.heap.size 46 _ rfl hR9 agg_geo info_geo ?_; case k36 => go_simp))
  go_ret
  exact ⟨rfl, hE2.trans (hE3.trans (hE4.trans (hE6.trans (hE7.trans hE9))))⟩

set_option maxRecDepth 100000 in
set_option maxHeartbeats 2000000 in
theorem law_SuperTells (w : World) (ps : List Int) (hl : ps.length = 3) (_hp : ∀ p ∈ ps, -9223372036854775808 ≤ p ∧ p ≤ 9223372036854775807) (o : Bool) (A : Option Addr) (n c : Nat) (xs : List Nat) (h : Sl w A n c (by8 xs)) (hb : Bytes xs) :
    Calls Try.prog 9 #[.agg (i64s ps).toArray, .bool o, .slice A n c] w fun e w' => e = .returned (.bool true) ∧ Ext w w' := by
  obtain ⟨p, q, r, rfl⟩ := geo_of hl
  clear _hp hl
  have hxl : xs.length = n := by have := h.len; rwa [by8_len] at this
  have HX := hide hxl
  clear hxl
  by_cases hn : (200 : Int) < n
  · go_enter Try.func9, Try.ntmps9
    go_wp2_with (first
      | (with_reducible refine ag_box (o := ⟨some 3, _, _, _, _, _⟩) rfl 46 _ rfl _ 3 rfl rfl (by omega) (i64s_one (geo p q r)) w.heap.size (Nat.le_refl _) ?_; intro w1 hB1 hE1 hz1)
      | (go_at_call 35; refine (law6_awake _).mono ?_; rintro e w2 ⟨rfl, hE2⟩))
    go_ret
    exact ⟨rfl, hE1.trans hE2⟩
  go_enter Try.func9, Try.ntmps9
  go_wp2_with (with_reducible refine ag_box (o := ⟨some 3, _, _, _, _, _⟩) rfl 46 _ rfl _ 3 rfl rfl (by omega) (i64s_one (geo p q r)) w.heap.size (Nat.le_refl _) ?_; intro w0 hB0 hE0 hz0)
  refine (LendBytes _ _ _ _ _ (h.ext hE0) (by omega)).mono ?_
  rintro e w1 ⟨g1, rfl, hL1, hE1⟩
  have hF1 : Ext w w1 := hE0.trans hE1
  have hS1 : Sl w1 (some ⟨g1, 0, none⟩) n (n + 3) (by8 xs) := by
    have := hL1.sl.pre (m := n) (by omega)
    rw [by8_take, List.take_append_of_le_length (by rw [HX.out]; omega), List.take_of_length_le (by rw [HX.out]; omega)] at this
    exact this
  go_wp2_with (with_reducible refine ag_load (o := ⟨some 26, _, _, _, _, _⟩) rfl 46 (.tmp 3) rfl w.heap.size 3 w.heap.size 46 _ rfl (hB0.ext hE1) agg_geo info_geo ?_)
  refine (super_Lay p q r o _).mono ?_
  rintro e w2 ⟨A2, n2, c2, rfl, hn2, hO2, hE2⟩
  go_wp2_with (with_reducible refine ag_load (o := ⟨some 32, _, _, _, _, _⟩) rfl 46 (.tmp 3) rfl w.heap.size 3 w.heap.size 46 _ rfl (hB0.ext (hE1.trans hE2)) agg_geo info_geo ?_)
  refine (refsuper_Lay p q r o _).mono ?_
  rintro e w3 ⟨A3, n3, c3, rfl, hn3, hO3, hE3⟩
  have hF3 : Ext w1 w3 := hE2.trans hE3
  go_wp2_with fail
  refine (super_Read _ _ _ _ _ (hS1.ext hF3) hb).mono ?_
  rintro e w4 ⟨rfl, hE4⟩
  go_wp2_with (first
    | (with_reducible refine ag_alloc (o := ⟨some 12, _, _, _, _, _⟩) rfl 46 rfl _ 3 zero_geo rfl (by omega) (i64s_one _) w4.heap.size (Nat.le_refl _) ?_; intro w5 hU5 hE5 hz5)
    | (with_reducible refine ag_store (o := ⟨none, _, _, _, _, _⟩) rfl 46 (.tmp 12) (.tmp 40) rfl w4.heap.size 3 w4.heap.size 46 _ _ rfl rfl hU5 (by rw [i64s_len, supG_len]) (i64s_one _) info_geo ?_; intro w6 hU6 hG6
       have hE6 : Ext w4 w6 := hE5.grown hG6 (by simp)))
  have hF6 : Ext w1 w6 := hF3.trans (hE4.trans hE6)
  refine (refsuper_Read _ _ _ _ _ (h.ext (hF1.trans hF6)) hb).mono ?_
  rintro e w7 ⟨rfl, hE7⟩
  go_wp2_with (first
    | (with_reducible refine ag_alloc (o := ⟨some 15, _, _, _, _, _⟩) rfl 46 rfl _ 3 zero_geo rfl (by omega) (i64s_one _) w7.heap.size (Nat.le_refl _) ?_; intro w8 hV8 hE8 hz8)
    | (with_reducible refine ag_store (o := ⟨none, _, _, _, _, _⟩) rfl 46 (.tmp 15) (.tmp 46) rfl w7.heap.size 3 w7.heap.size 46 _ _ rfl rfl hV8 (by rw [i64s_len, supG_len]) (i64s_one _) info_geo ?_; intro w9 hV9 hG9
       have hE9 : Ext w7 w9 := hE8.grown hG9 (by simp)))
  have hF9 : Ext w1 w9 := hF6.trans (hE7.trans hE9)
  have hX9 := hO2.ext (hE3.trans (hE4.trans (hE6.trans (hE7.trans hE9))))
  have hY9 := hO3.ext (hE4.trans (hE6.trans (hE7.trans hE9)))
  have hU9 := hU6.ext (hE7.trans hE9)
  refine (SameBytes _ _ _ _ _ _ _ _ _ hX9.sl hY9.sl (Bytes.supL p q r o) (Bytes.supL p q r o)).mono ?_
  rintro e w10 ⟨rfl, j10, hw10⟩
  have hE10 : Ext w9 w10 := by rw [hw10]; exact (Ext.refl _).drewN _
  clear hw10
  rw [decide_eq_true (rfl : supL p q r o = supL p q r o)]
  have hU10 := hU9.ext hE10
  have hV10 := hV9.ext hE10
  have hX10 := hX9.ext hE10
  have hF10 := hF9.trans hE10
  have hq : ∀ w1, (Op.equalIn 10000 46 (.agg (i64s (supG xs)).toArray) (.agg (i64s (supG xs)).toArray)).run Try.prog w1 = .ok true w1 := by
    obtain ⟨x, y, z, hg⟩ := geo_of (supG_len xs)
    intro w1
    rw [hg, eq_geo, decide_eq_true rfl]
  clear hO2 hO3 hU5 hU6 hV8 hV9 hX9 hY9 hU9 hG6 hG9 hE5 hE8 hz5 hz8 hS1
  go_wp2_with (first
    | (with_reducible refine ag_load (o := ⟨some 58, _, _, _, _, _⟩) ?k58 46 (.tmp 12) rfl w4.heap.size 3 w4.heap.size 46 _ rfl hU10 agg_geo info_geo ?_; case k58 => go_simp)
    | (with_reducible refine ag_load (o := ⟨some 59, _, _, _, _, _⟩) ?k59 46 (.tmp 15) rfl w7.heap.size 3 w7.heap.size 46 _ rfl hV10 agg_geo info_geo ?_; case k59 => go_simp))
  refine (OverBytes _ _ _ _ _ _ hX10 (by have := hF10.size; omega) (by omega)).mono ?_
  rintro e w15 ⟨rfl, hG15⟩
  have hD15 : Ext w1 w15 := hF10.grown hG15 (fun q hq => (hX10.block q hq).1)
  have hL15 := hL1.ext hD15
  go_wp2_with fail
  refine (KeptBytes _ _ _ _ _ _ _ _ _ hL15.sl HX.out (by omega) (h.ext (hF1.trans hD15)) hb hb).mono ?_
  rintro e w16 ⟨rfl, j16, hw16⟩
  have hD16 : Ext w15 w16 := by rw [hw16]; exact (Ext.refl _).drewN _
  clear hw16
  rw [decide_eq_true (rfl : xs = xs)]
  go_wp2_with (go_at_call 35; refine (law6_awake _).mono ?_; rintro e w17 ⟨rfl, hE17⟩)
  go_ret
  exact ⟨rfl, hF1.trans (hD15.trans (hD16.trans hE17))⟩

set_option maxRecDepth 100000 in
set_option maxHeartbeats 2000000 in
theorem law_SuperBack (w : World) (z1 : Int) (_a1 : -9223372036854775808 ≤ z1) (_b1 : z1 ≤ 9223372036854775807) (z2 : Int) (_a2 : -9223372036854775808 ≤ z2) (_b2 : z2 ≤ 9223372036854775807) (z3 : Int) (_a3 : -9223372036854775808 ≤ z3) (_b3 : z3 ≤ 9223372036854775807)
    (o : Bool) (z : Int) (_a4 : -9223372036854775808 ≤ z) (_b4 : z ≤ 9223372036854775807) (y : Nat) (hy : y < 256) :
    Calls Try.prog 10 #[.int .i64 z1, .int .i64 z2, .int .i64 z3, .bool o, .int .i64 z, .int .u8 y] w fun e w' => e = .returned (.bool true) ∧ Ext w w' := by
  go_enter Try.func10, Try.ntmps10
  go_wp2_with fail
  refine (Low z1 _ 8 _ rfl (by omega) (by omega)).mono ?_
  rintro e w1 ⟨rfl, rfl⟩
  have hp := low_lt z1 (n := 8) (by omega)
  generalize low z1 8 = p at *
  go_wp2_with fail
  refine (Low z2 _ 8 _ rfl (by omega) (by omega)).mono ?_
  rintro e w1 ⟨rfl, rfl⟩
  have hq := low_lt z2 (n := 8) (by omega)
  generalize low z2 8 = q at *
  go_wp2_with fail
  refine (Low z3 _ 81 _ rfl (by omega) (by omega)).mono ?_
  rintro e w1 ⟨rfl, rfl⟩
  have hr := low_lt z3 (n := 81) (by omega)
  generalize low z3 81 = r at *
  have hm : mayG (1 + (p : Int)) (4 + 4 * (q : Int)) (16 + (r : Int)) := by unfold mayG; omega
  have HM := hide hm
  have HL := hide (sup_lay hm o)
  have HB := hide (sup_back hm o)
  have hq1 : ∀ w1, (Op.equalIn 10000 46 (.agg (i64s (geo (1 + (p : Int)) (4 + 4 * (q : Int)) (16 + (r : Int)))).toArray) (.agg (i64s (geo (1 + (p : Int)) (4 + 4 * (q : Int)) (16 + (r : Int)))).toArray)).run Try.prog w1 = .ok true w1 := fun w1 => by rw [eq_geo, decide_eq_true rfl]
  clear hm
  go_wp2_with (first
    | (with_reducible refine ag_alloc (o := ⟨some 13, _, _, _, _, _⟩) rfl 46 rfl _ 3 zero_geo rfl (by omega) (i64s_one _) w.heap.size (Nat.le_refl _) ?_; intro w1 hR1 hE1 hz1)
    | (with_reducible refine ag_store (o := ⟨none, _, _, _, _, _⟩) rfl 46 (.tmp 13) (.tmp 32) rfl w.heap.size 3 w.heap.size 46 _ (i64s (geo (1 + (p : Int)) (4 + 4 * (q : Int)) (16 + (r : Int)))) rfl (by kernel_rfl) hR1 rfl (i64s_one _) info_geo ?_; intro w2 hR2 hG2
       have hE2 : Ext w w2 := hE1.grown hG2 (by simp))
    | (with_reducible refine ag_load (o := ⟨some 34, _, _, _, _, _⟩) rfl 46 (.tmp 13) rfl w.heap.size 3 w.heap.size 46 _ rfl hR2 agg_geo info_geo ?_))
  refine (super_Lay (1 + (p : Int)) (4 + 4 * (q : Int)) (16 + (r : Int)) o _).mono ?_
  rintro e w3 ⟨A3, n3, c3, rfl, hn3, hO3, hE3⟩
  rw [HL.out.2]
  rw [HL.out.1] at hO3
  have hln : (sealOf 83 (supB (1 + (p : Int)) (4 + 4 * (q : Int)) (16 + (r : Int)) o)).length = 128 := sealOf_len (by rw [supB_len]; omega)
  obtain rfl : n3 = 128 := by have := hO3.len; rw [by8_len, hln] at this; omega
  have HLN := hide hln
  clear hln
  have hbs : Bytes (sealOf 83 (supB (1 + (p : Int)) (4 + 4 * (q : Int)) (16 + (r : Int)) o)) := Bytes.sealOf (by omega) (Bytes.supB _ _ _ _)
  have HK := hide HB.out.1.1
  go_wp2_with fail
  refine (super_Read _ _ _ _ _ hO3.sl hbs).mono ?_
  rintro e w4 ⟨rfl, hE4⟩
  rw [HB.out.2.1, HB.out.2.2.1, HB.out.2.2.2]
  go_wp2_with (first
    | (with_reducible refine ag_alloc (o := ⟨some 16, _, _, _, _, _⟩) rfl 46 rfl _ 3 zero_geo rfl (by omega) (i64s_one _) w4.heap.size (Nat.le_refl _) ?_; intro w5 hT5 hE5 hz5)
    | (with_reducible refine ag_store (o := ⟨none, _, _, _, _, _⟩) rfl 46 (.tmp 16) (.tmp 49) rfl w4.heap.size 3 w4.heap.size 46 _ _ rfl rfl hT5 rfl (i64s_one _) info_geo ?_; intro w6 hT6 hG6
       have hE6 : Ext w4 w6 := hE5.grown hG6 (by simp)))
  refine (Low z _ 128 _ rfl (by omega) (by omega)).mono ?_
  rintro e w7 ⟨rfl, rfl⟩
  have ha := low_lt z (n := 128) (by omega)
  generalize low z 128 = a at *
  have hO6 := hO3.ext (hE4.trans hE6)
  have hR6 := hR2.ext (hE3.trans (hE4.trans hE6))
  have hE0 : Ext w w6 := hE2.trans (hE3.trans (hE4.trans hE6))
  have hs2 := hE2.size
  have hs3 := hE3.size
  have hs4 := hE4.size
  obtain ⟨g3, rfl, hg3, hg3'⟩ := hO3.head (by have := hO3.sl.nc; omega)
  obtain ⟨_, _, x, hA, hx, hc, hx2⟩ := hO6.sl.at8 hbs (k := a) (by omega)
  simp at hA
  obtain ⟨rfl, rfl⟩ := hA
  simp only [Nat.zero_add] at hc
  have hf := hO6.frozenAt a
  have hst := hO6.store a (.int .u8 ((x8 x y : Nat) : Int)) rfl
  rw [by8_set] at hst
  have hE8 : Ext w (w6.setCell ⟨g3, a, none⟩ (.int .u8 ((x8 x y : Nat) : Int))) := hE0.setCell (by simp; omega) _
  have hw2 : w.heap.size < w2.heap.size := by have := (hR2.block w.heap.size rfl).2; omega
  have hR8 := hR6.kept (hO6.1.stored a (.int .u8 ((x8 x y : Nat) : Int))).2 (by intro b hb he; simp at hb; subst hb; simp at he; omega)
  have hT8 := hT6.kept (hO6.1.stored a (.int .u8 ((x8 x y : Nat) : Int))).2 (by intro b hb he; simp at hb; subst hb; simp at he; omega)
  have hbx := bits_x8 x y
  have hset : y = 0 → (sealOf 83 (supB (1 + (p : Int)) (4 + 4 * (q : Int)) (16 + (r : Int)) o)).set a (x8 x y) = (sealOf 83 (supB (1 + (p : Int)) (4 + 4 * (q : Int)) (16 + (r : Int)) o)) := by
    intro hy0
    rw [(x8_ne hx2 hy).2 hy0]
    apply List.ext_getElem?
    intro i
    rw [List.getElem?_set]
    split
    · rename_i h; subst h
      split
      · exact hx.out.symm
      · rename_i h; rw [List.getElem?_eq_none (by omega)]
    · rfl
  have hflip : y ≠ 0 → kindOf ((sealOf 83 (supB (1 + (p : Int)) (4 + 4 * (q : Int)) (16 + (r : Int)) o)).set a (x8 x y)) = 0 := fun hy0 =>
    kind_flip hbs (by rw [HK.out]; omega) hx.out (x8_lt x y) (fun h => hy0 ((x8_ne hx2 hy).1 h.symm))
  have HS := hide hset
  have HF := hide hflip
  clear hset hflip hw2 hs2 hs3 hs4 hg3 hg3'
  go_wp2_with fail
  by_cases hy0 : y = 0
  · rw [HS.out hy0] at hst
    subst hy0
    refine (super_Read _ _ _ _ _ hst.sl hbs).mono ?_
    rintro e w9 ⟨rfl, hE9⟩
    rw [HB.out.2.1, HB.out.2.2.1, HB.out.2.2.2]
    go_wp2_with (first
      | (with_reducible refine ag_alloc (o := ⟨some 19, _, _, _, _, _⟩) rfl 46 rfl _ 3 zero_geo rfl (by omega) (i64s_one _) w9.heap.size (Nat.le_refl _) ?_; intro w10 hV10 hE10 hz10)
      | (with_reducible refine ag_store (o := ⟨none, _, _, _, _, _⟩) rfl 46 (.tmp 19) (.tmp 63) rfl w9.heap.size 3 w9.heap.size 46 _ _ rfl rfl hV10 rfl (i64s_one _) info_geo ?_; intro w11 hV11 hG11
         have hE11 : Ext w9 w11 := hE10.grown hG11 (by simp)
         have hT11 := hT8.ext (hE9.trans hE11)
         have hR11 := hR8.ext (hE9.trans hE11))
      | (with_reducible refine ag_load (o := ⟨some 69, _, _, _, _, _⟩) rfl 46 (.tmp 16) rfl w4.heap.size 3 w4.heap.size 46 _ rfl hT11 agg_geo info_geo ?_)
      | (with_reducible refine ag_load (o := ⟨some 70, _, _, _, _, _⟩) rfl 46 (.tmp 13) rfl w.heap.size 3 w.heap.size 46 _ rfl hR11 agg_geo info_geo ?_)
      | (go_at_call 35; refine (law6_awake _).mono ?_; rintro e w12 ⟨rfl, hE12⟩))
    go_ret
    exact ⟨rfl, hE8.trans (hE9.trans (hE11.trans hE12))⟩
  · have hyI : ((y : Int) == 0) = false := by simp; omega
    have hno : kindOf ((sealOf 83 (supB (1 + (p : Int)) (4 + 4 * (q : Int)) (16 + (r : Int)) o)).set a (x8 x y)) ≠ 83 := by rw [HF.out hy0]; omega
    obtain ⟨r1, r2, r3⟩ := sup_no (fun h => hno h.1)
    clear hno
    refine (super_Read _ _ _ _ _ hst.sl (hbs.set _ (x8_lt x y))).mono ?_
    rintro e w9 ⟨rfl, hE9⟩
    rw [r1, r2, r3]
    clear r1 r2 r3
    go_wp2_with (first
      | (with_reducible refine ag_alloc (o := ⟨some 19, _, _, _, _, _⟩) rfl 46 rfl _ 3 zero_geo rfl (by omega) (i64s_one _) w9.heap.size (Nat.le_refl _) ?_; intro w10 hV10 hE10 hz10)
      | (with_reducible refine ag_store (o := ⟨none, _, _, _, _, _⟩) rfl 46 (.tmp 19) (.tmp 63) rfl w9.heap.size 3 w9.heap.size 46 _ _ rfl rfl hV10 rfl (i64s_one _) info_geo ?_; intro w11 hV11 hG11
         have hE11 : Ext w9 w11 := hE10.grown hG11 (by simp)
         have hT11 := hT8.ext (hE9.trans hE11)
         have hR11 := hR8.ext (hE9.trans hE11))
      | (with_reducible refine ag_load (o := ⟨some 69, _, _, _, _, _⟩) rfl 46 (.tmp 16) rfl w4.heap.size 3 w4.heap.size 46 _ rfl hT11 agg_geo info_geo ?_)
      | (with_reducible refine ag_load (o := ⟨some 70, _, _, _, _, _⟩) rfl 46 (.tmp 13) rfl w.heap.size 3 w.heap.size 46 _ rfl hR11 agg_geo info_geo ?_)
      | (go_at_call 35; refine (law6_awake _).mono ?_; rintro e w12 ⟨rfl, hE12⟩))
    go_ret
    exact ⟨rfl, hE8.trans (hE9.trans (hE11.trans hE12))⟩

set_option maxRecDepth 100000 in
set_option maxHeartbeats 2000000 in
theorem law_SuperApart (w : World) (ps : List Int) (hl : ps.length = 3) (_hp : ∀ p ∈ ps, -9223372036854775808 ≤ p ∧ p ≤ 9223372036854775807) (qs : List Int) (hl2 : qs.length = 3) (_hq : ∀ p ∈ qs, -9223372036854775808 ≤ p ∧ p ≤ 9223372036854775807) (o o' : Bool) :
    Calls Try.prog 11 #[.agg (i64s ps).toArray, .agg (i64s qs).toArray, .bool o, .bool o'] w fun e w' => e = .returned (.bool true) ∧ Ext w w' := by
  obtain ⟨a, b, c, rfl⟩ := geo_of hl
  obtain ⟨a', b', c', rfl⟩ := geo_of hl2
  clear _hp _hq hl hl2
  go_enter Try.func11, Try.ntmps11
  go_wp2_with (first
    | (with_reducible refine ag_box (o := ⟨some 4, _, _, _, _, _⟩) rfl 46 _ rfl _ 3 rfl rfl (by omega) (i64s_one (geo a b c)) w.heap.size (Nat.le_refl _) ?_; intro w0 hB0 hE0 hz0)
    | (with_reducible refine ag_box (o := ⟨some 5, _, _, _, _, _⟩) rfl 46 _ rfl _ 3 rfl rfl (by omega) (i64s_one (geo a' b' c')) w0.heap.size (Nat.le_refl _) ?_; intro w1 hC1 hE1 hz1)
    | (with_reducible refine ag_load (o := ⟨some 17, _, _, _, _, _⟩) rfl 46 (.tmp 4) rfl w.heap.size 3 w.heap.size 46 _ rfl (hB0.ext hE1) agg_geo info_geo ?_))
  refine (super_Lay a b c o _).mono ?_
  rintro e w2 ⟨A2, n2, c2, rfl, hn2, hO2, hE2⟩
  go_wp2_with (with_reducible refine ag_load (o := ⟨some 23, _, _, _, _, _⟩) rfl 46 (.tmp 5) rfl w0.heap.size 3 w0.heap.size 46 _ rfl (hC1.ext hE2) agg_geo info_geo ?_)
  refine (super_Lay a' b' c' o' _).mono ?_
  rintro e w3 ⟨A3, n3, c3, rfl, hn3, hO3, hE3⟩
  have hl2' := hO2.len
  have hl3' := hO3.len
  rw [by8_len] at hl2' hl3'
  have hF3 : Ext w w3 := hE0.trans (hE1.trans (hE2.trans hE3))
  by_cases hok : mayG a b c
  case neg =>
    obtain ⟨e2, e1⟩ := sup_bad hok o
    rw [e1]
    rw [e2] at hl2'
    obtain rfl : n2 = 0 := by simpa using hl2'.symm
    by_cases hok2 : mayG a' b' c'
    · obtain ⟨e4, e3⟩ := sup_lay hok2 o'
      rw [e3]
      clear e1 e2 e3 e4 hl2' hl3' hok hok2
      go_wp2_with (go_at_call 35; refine (law6_awake _).mono ?_; rintro e w4 ⟨rfl, hE4⟩)
      go_ret
      exact ⟨rfl, hF3.trans hE4⟩
    · obtain ⟨e4, e3⟩ := sup_bad hok2 o'
      rw [e3]
      rw [e4] at hl3'
      obtain rfl : n3 = 0 := by simpa using hl3'.symm
      clear e1 e2 e3 e4 hl2' hl3' hok hok2
      go_wp2_with (go_at_call 35; refine (law6_awake _).mono ?_; rintro e w4 ⟨rfl, hE4⟩)
      go_ret
      exact ⟨rfl, hF3.trans hE4⟩
  case pos =>
  obtain ⟨e2, e1⟩ := sup_lay hok o
  rw [e1]
  by_cases hok2 : mayG a' b' c'
  case neg =>
    obtain ⟨e4, e3⟩ := sup_bad hok2 o'
    rw [e3]
    rw [e4] at hl3'
    obtain rfl : n3 = 0 := by simpa using hl3'.symm
    clear e1 e2 e3 e4 hl2' hl3' hok hok2
    go_wp2_with (go_at_call 35; refine (law6_awake _).mono ?_; rintro e w4 ⟨rfl, hE4⟩)
    go_ret
    exact ⟨rfl, hF3.trans hE4⟩
  case pos =>
  obtain ⟨e4, e3⟩ := sup_lay hok2 o'
  rw [e3]
  rw [e2] at hO2
  rw [e4] at hO3
  have HB := hide (sup_back hok o)
  have hbs : Bytes (sealOf 83 (supB a b c o)) := Bytes.sealOf (by omega) (Bytes.supB _ _ _ _)
  have hbs2 : Bytes (sealOf 83 (supB a' b' c' o')) := Bytes.sealOf (by omega) (Bytes.supB _ _ _ _)
  have HI := hide (sup_alike (o := o) (o' := o') hok hok2)
  clear e1 e2 e3 e4 hok hok2 hl2' hl3'
  go_wp2_with fail
  refine (super_Read _ _ _ _ _ (hO2.ext hE3).sl hbs).mono ?_
  rintro e w4 ⟨rfl, hE4⟩
  rw [HB.out.2.1, HB.out.2.2.1, HB.out.2.2.2]
  go_wp2_with (first
    | (with_reducible refine ag_alloc (o := ⟨some 13, _, _, _, _, _⟩) rfl 46 rfl _ 3 zero_geo rfl (by omega) (i64s_one _) w4.heap.size (Nat.le_refl _) ?_; intro w5 hT5 hE5 hz5)
    | (with_reducible refine ag_store (o := ⟨none, _, _, _, _, _⟩) rfl 46 (.tmp 13) (.tmp 56) rfl w4.heap.size 3 w4.heap.size 46 _ _ rfl rfl hT5 rfl (i64s_one _) info_geo ?_; intro w6 hT6 hG6
       have hE6 : Ext w4 w6 := hE5.grown hG6 (by simp)))
  have hF6 : Ext w w6 := hF3.trans (hE4.trans hE6)
  have hB6 := hB0.ext (hE1.trans (hE2.trans (hE3.trans (hE4.trans hE6))))
  have hC6 := hC1.ext (hE2.trans (hE3.trans (hE4.trans hE6)))
  have hX6 := hO2.ext (hE3.trans (hE4.trans hE6))
  have hY6 := hO3.ext (hE4.trans hE6)
  have hu : Try.prog.underlying 46 = some (.struct _) := Try.underlying46
  have hi1 : (Try.prog.info? 46).map (·.size) = some (i64s (geo a b c)).length := info_geo
  have hi2 : (Try.prog.info? 46).map (·.size) = some (i64s (geo a' b' c')).length := info_geo
  have keepS : ∀ w', Ext w6 w' → w'.rangeAt w.heap.size 0 (i64s (geo a b c)) ∧ w'.rangeAt w0.heap.size 0 (i64s (geo a' b' c')) ∧ w'.rangeAt w4.heap.size 0 (i64s (geo a b c)) := fun w' hE => ⟨(hB6.ext hE).range, (hC6.ext hE).range, (hT6.ext hE).range⟩
  have hq1 : ∀ w1, (Op.equalIn 10000 46 (.agg (i64s (geo a b c)).toArray) (.agg (i64s (geo a b c)).toArray)).run Try.prog w1 = .ok true w1 := fun w1 => by rw [eq_geo, decide_eq_true rfl]
  have hq2 : ∀ w1, (Op.equalIn 10000 46 (.agg (i64s (geo a b c)).toArray) (.agg (i64s (geo a' b' c')).toArray)).run Try.prog w1 = .ok (decide (geo a b c = geo a' b' c')) w1 := fun w1 => eq_geo _ _ _ _ _ _ w1
  have hsame : decide (sealOf 83 (supB a b c o) = sealOf 83 (supB a' b' c' o')) = (decide (geo a b c = geo a' b' c') && (o == o')) := by
    rw [Bool.eq_iff_iff]
    simp [HI.out]
  have HS := hide hsame
  clear hsame
  generalize decide (geo a b c = geo a' b' c') = bg at hq2 HS
  cases bg
  · have HSf : Hid (decide (sealOf 83 (supB a b c o) = sealOf 83 (supB a' b' c' o')) = false) := HS
    refine wp_region_held_drew (S := fun w' => w'.rangeAt w.heap.size 0 (i64s (geo a b c)) ∧ w'.rangeAt w0.heap.size 0 (i64s (geo a' b' c')) ∧ w'.rangeAt w4.heap.size 0 (i64s (geo a b c))) (by kernel_rfl) (keepS _ (Ext.drew (Ext.refl _))) (fun hHeld => ?_)
    refine held_take 0 rfl (by kernel_rfl) (by kernel_rfl) (by kernel_rfl) (fun _ _ _ _ h => h) (by rfl) ?_ ?_ (by assumption) ?_
    rotate_left
    · (intro wx hSx; (try dsimp only at hSx); go_simp)
      all_goals with_reducible rfl
    (try simp only [Act.put, List.setIfInBounds_toArray, List.set_cons_zero, List.set_cons_succ])
    refine held_take 1 rfl (by kernel_rfl) (by kernel_rfl) (by kernel_rfl) (fun _ _ _ _ h => h) (by rfl) ?_ ?_ (by assumption) ?_
    rotate_left
    · (intro wx hSx; (try dsimp only at hSx); go_simp)
      all_goals with_reducible rfl
    (try simp only [Act.put, List.setIfInBounds_toArray, List.set_cons_zero, List.set_cons_succ])
    refine held_load 3 rfl (by kernel_rfl) (by kernel_rfl) (by kernel_rfl) (fun _ _ _ _ h => h) (by rfl) 46 (.tmp 4) rfl w.heap.size (i64s (geo a b c)) _ rfl (fun wx hSx => hSx.1) hu rfl hi1 (by assumption) ?_
    (try simp only [Act.put, List.setIfInBounds_toArray, List.set_cons_zero, List.set_cons_succ])
    refine held_load 4 rfl (by kernel_rfl) (by kernel_rfl) (by kernel_rfl) (fun _ _ _ _ h => h) (by rfl) 46 (.tmp 5) rfl w0.heap.size (i64s (geo a' b' c')) _ rfl (fun wx hSx => hSx.2.1) hu rfl hi2 (by assumption) ?_
    (try simp only [Act.put, List.setIfInBounds_toArray, List.set_cons_zero, List.set_cons_succ])
    refine held_take 5 rfl (by kernel_rfl) (by kernel_rfl) (by kernel_rfl) (fun _ _ _ _ h => h) (by rfl) ?_ ?_ (by assumption) ?_
    rotate_left
    · (intro wx hSx; (try dsimp only at hSx); go_simp)
      all_goals with_reducible rfl
    (try simp only [Act.put, List.setIfInBounds_toArray, List.set_cons_zero, List.set_cons_succ])
    refine held_call 2 rfl (by kernel_rfl) (fun K hK => ?_)
    go_simp
    go_at_call 21
    refine (SameBytes _ _ _ _ _ _ _ _ _ (hX6.ext (Ext.drew (Ext.refl _))).sl (hY6.ext (Ext.drew (Ext.refl _))).sl hbs hbs2).mono ?_
    rintro e w7 ⟨rfl, j7, hw7⟩
    have hE7 : Ext w6 w7 := by rw [hw7]; exact (Ext.drew (Ext.refl _)).drewN _
    clear hw7
    rw [HSf.out]
    go_wp2_with fail
    refine hK.out _ _ (keepS _ hE7) (fun hHeld => ?_)
    clear hK K
    (try simp only [Act.put, List.setIfInBounds_toArray, List.set_cons_zero, List.set_cons_succ])
    refine held_take 6 rfl (by kernel_rfl) (by kernel_rfl) (by kernel_rfl) (fun _ _ _ _ h => h) (by rfl) ?_ ?_ (by assumption) ?_
    rotate_left
    · (intro wx hSx; (try dsimp only at hSx); go_simp)
      all_goals with_reducible rfl
    (try simp only [Act.put, List.setIfInBounds_toArray, List.set_cons_zero, List.set_cons_succ])
    refine held_skip 7 rfl (by kernel_rfl) (by kernel_rfl) (by kernel_rfl) (fun _ _ _ _ h => h) (by rfl) (by assumption) ?_
    (try simp only [Act.put, List.setIfInBounds_toArray, List.set_cons_zero, List.set_cons_succ])
    refine held_skip 8 rfl (by kernel_rfl) (by kernel_rfl) (by kernel_rfl) (fun _ _ _ _ h => h) (by rfl) (by assumption) ?_
    (try simp only [Act.put, List.setIfInBounds_toArray, List.set_cons_zero, List.set_cons_succ])
    refine held_skip 9 rfl (by kernel_rfl) (by kernel_rfl) (by kernel_rfl) (fun _ _ _ _ h => h) (by rfl) (by assumption) ?_
    (try simp only [Act.put, List.setIfInBounds_toArray, List.set_cons_zero, List.set_cons_succ])
    refine held_take 10 rfl (by kernel_rfl) (by kernel_rfl) (by kernel_rfl) (fun _ _ _ _ h => h) (by rfl) ?_ ?_ (by assumption) ?_
    rotate_left
    · (intro wx hSx; (try dsimp only at hSx); go_simp)
      all_goals with_reducible rfl
    (try simp only [Act.put, List.setIfInBounds_toArray, List.set_cons_zero, List.set_cons_succ])
    refine held_take 11 rfl (by kernel_rfl) (by kernel_rfl) (by kernel_rfl) (fun _ _ _ _ h => h) (by rfl) ?_ ?_ (by assumption) ?_
    rotate_left
    · (intro wx hSx; (try dsimp only at hSx); go_simp)
      all_goals with_reducible rfl
    (try simp only [Act.put, List.setIfInBounds_toArray, List.set_cons_zero, List.set_cons_succ])
    refine held_take 12 rfl (by kernel_rfl) (by kernel_rfl) (by kernel_rfl) (fun _ _ _ _ h => h) (by rfl) ?_ ?_ (by assumption) ?_
    rotate_left
    · (intro wx hSx; (try dsimp only at hSx); go_simp)
      all_goals with_reducible rfl
    (try simp only [Act.put, List.setIfInBounds_toArray, List.set_cons_zero, List.set_cons_succ])
    refine held_load 13 rfl (by kernel_rfl) (by kernel_rfl) (by kernel_rfl) (fun _ _ _ _ h => h) (by rfl) 46 (.tmp 13) rfl w4.heap.size (i64s (geo a b c)) _ rfl (fun wx hSx => hSx.2.2) hu rfl hi1 (by assumption) ?_
    (try simp only [Act.put, List.setIfInBounds_toArray, List.set_cons_zero, List.set_cons_succ])
    refine held_load 14 rfl (by kernel_rfl) (by kernel_rfl) (by kernel_rfl) (fun _ _ _ _ h => h) (by rfl) 46 (.tmp 4) rfl w.heap.size (i64s (geo a b c)) _ rfl (fun wx hSx => hSx.1) hu rfl hi1 (by assumption) ?_
    (try simp only [Act.put, List.setIfInBounds_toArray, List.set_cons_zero, List.set_cons_succ])
    refine held_take 15 rfl (by kernel_rfl) (by kernel_rfl) (by kernel_rfl) (fun _ _ _ _ h => h) (by rfl) ?_ ?_ (by assumption) ?_
    rotate_left
    · (intro wx hSx; (try dsimp only at hSx); go_simp)
      all_goals with_reducible rfl
    (try simp only [Act.put, List.setIfInBounds_toArray, List.set_cons_zero, List.set_cons_succ])
    refine held_take 16 rfl (by kernel_rfl) (by kernel_rfl) (by kernel_rfl) (fun _ _ _ _ h => h) (by rfl) ?_ ?_ (by assumption) ?_
    rotate_left
    · (intro wx hSx; (try dsimp only at hSx); go_simp)
      all_goals with_reducible rfl
    (try simp only [Act.put, List.setIfInBounds_toArray, List.set_cons_zero, List.set_cons_succ])
    refine held_take 17 rfl (by kernel_rfl) (by kernel_rfl) (by kernel_rfl) (fun _ _ _ _ h => h) (by rfl) ?_ ?_ (by assumption) ?_
    rotate_left
    · (intro wx hSx; (try dsimp only at hSx); go_simp)
      all_goals with_reducible rfl
    (try simp only [Act.put, List.setIfInBounds_toArray, List.set_cons_zero, List.set_cons_succ])
    refine held_take 18 rfl (by kernel_rfl) (by kernel_rfl) (by kernel_rfl) (fun _ _ _ _ h => h) (by rfl) ?_ ?_ (by assumption) ?_
    rotate_left
    · (intro wx hSx; (try dsimp only at hSx); go_simp)
      all_goals with_reducible rfl
    (try simp only [Act.put, List.setIfInBounds_toArray, List.set_cons_zero, List.set_cons_succ])
    refine held_take 19 rfl (by kernel_rfl) (by kernel_rfl) (by kernel_rfl) (fun _ _ _ _ h => h) (by rfl) ?_ ?_ (by assumption) ?_
    rotate_left
    · (intro wx hSx; (try dsimp only at hSx); go_simp)
      all_goals with_reducible rfl
    (try simp only [Act.put, List.setIfInBounds_toArray, List.set_cons_zero, List.set_cons_succ])
    refine held_take 20 rfl (by kernel_rfl) (by kernel_rfl) (by kernel_rfl) (fun _ _ _ _ h => h) (by rfl) ?_ ?_ (by assumption) ?_
    rotate_left
    · (intro wx hSx; (try dsimp only at hSx); go_simp)
      all_goals with_reducible rfl
    (try simp only [Act.put, List.setIfInBounds_toArray, List.set_cons_zero, List.set_cons_succ])
    refine held_take 21 rfl (by kernel_rfl) (by kernel_rfl) (by kernel_rfl) (fun _ _ _ _ h => h) (by rfl) ?_ ?_ (by assumption) ?_
    rotate_left
    · (intro wx hSx; (try dsimp only at hSx); go_simp)
      all_goals with_reducible rfl
    (try simp only [Act.put, List.setIfInBounds_toArray, List.set_cons_zero, List.set_cons_succ])
    refine held_take 22 rfl (by kernel_rfl) (by kernel_rfl) (by kernel_rfl) (fun _ _ _ _ h => h) (by rfl) ?_ ?_ (by assumption) ?_
    rotate_left
    · (intro wx hSx; (try dsimp only at hSx); go_simp)
      all_goals with_reducible rfl
    (try simp only [Act.put, List.setIfInBounds_toArray, List.set_cons_zero, List.set_cons_succ])
    refine held_take 23 rfl (by kernel_rfl) (by kernel_rfl) (by kernel_rfl) (fun _ _ _ _ h => h) (by rfl) ?_ ?_ (by assumption) ?_
    rotate_left
    · (intro wx hSx; (try dsimp only at hSx); go_simp)
      all_goals with_reducible rfl
    (try simp only [Act.put, List.setIfInBounds_toArray, List.set_cons_zero, List.set_cons_succ])
    refine held_take 24 rfl (by kernel_rfl) (by kernel_rfl) (by kernel_rfl) (fun _ _ _ _ h => h) (by rfl) ?_ ?_ (by assumption) ?_
    rotate_left
    · (intro wx hSx; (try dsimp only at hSx); go_simp)
      all_goals with_reducible rfl
    (try simp only [Act.put, List.setIfInBounds_toArray, List.set_cons_zero, List.set_cons_succ])
    refine held_take 25 rfl (by kernel_rfl) (by kernel_rfl) (by kernel_rfl) (fun _ _ _ _ h => h) (by rfl) ?_ ?_ (by assumption) ?_
    rotate_left
    · (intro wx hSx; (try dsimp only at hSx); go_simp)
      all_goals with_reducible rfl
    (try simp only [Act.put, List.setIfInBounds_toArray, List.set_cons_zero, List.set_cons_succ])
    refine held_take 26 rfl (by kernel_rfl) (by kernel_rfl) (by kernel_rfl) (fun _ _ _ _ h => h) (by rfl) ?_ ?_ (by assumption) ?_
    rotate_left
    · (intro wx hSx; (try dsimp only at hSx); go_simp)
      all_goals with_reducible rfl
    (try simp only [Act.put, List.setIfInBounds_toArray, List.set_cons_zero, List.set_cons_succ])
    refine held_call 27 rfl (by kernel_rfl) (fun K hK => ?_)
    go_simp
    go_at_call 35
    refine (law6_awake _).mono ?_
    rintro e w8 ⟨rfl, hE8⟩
    go_wp2_with fail
    refine hK.out _ _ (keepS _ (hE7.trans hE8)) (fun hHeld => ?_)
    clear hK K
    (try simp only [Act.put, List.setIfInBounds_toArray, List.set_cons_zero, List.set_cons_succ])
    refine held_take 28 rfl (by kernel_rfl) (by kernel_rfl) (by kernel_rfl) (fun _ _ _ _ h => h) (by rfl) ?_ ?_ (by assumption) ?_
    rotate_left
    · (intro wx hSx; (try dsimp only at hSx); go_simp)
      all_goals with_reducible rfl
    (try simp only [Act.put, List.setIfInBounds_toArray, List.set_cons_zero, List.set_cons_succ])
    refine held_take 29 rfl (by kernel_rfl) (by kernel_rfl) (by kernel_rfl) (fun _ _ _ _ h => h) (by rfl) ?_ ?_ (by assumption) ?_
    rotate_left
    · (intro wx hSx; (try dsimp only at hSx); go_simp)
      all_goals with_reducible rfl
    (try simp only [Act.put, List.setIfInBounds_toArray, List.set_cons_zero, List.set_cons_succ])
    refine wpAnyH_done (by kernel_rfl) ?_ _
    clear hHeld
    go_wp2
    go_ret
    exact ⟨rfl, hF6.trans (hE7.trans hE8)⟩
  · have HSt : Hid (decide (sealOf 83 (supB a b c o) = sealOf 83 (supB a' b' c' o')) = (o == o')) := HS
    refine wp_region_held_drew (S := fun w' => w'.rangeAt w.heap.size 0 (i64s (geo a b c)) ∧ w'.rangeAt w0.heap.size 0 (i64s (geo a' b' c')) ∧ w'.rangeAt w4.heap.size 0 (i64s (geo a b c))) (by kernel_rfl) (keepS _ (Ext.drew (Ext.refl _))) (fun hHeld => ?_)
    refine held_take 0 rfl (by kernel_rfl) (by kernel_rfl) (by kernel_rfl) (fun _ _ _ _ h => h) (by rfl) ?_ ?_ (by assumption) ?_
    rotate_left
    · (intro wx hSx; (try dsimp only at hSx); go_simp)
      all_goals with_reducible rfl
    (try simp only [Act.put, List.setIfInBounds_toArray, List.set_cons_zero, List.set_cons_succ])
    refine held_take 1 rfl (by kernel_rfl) (by kernel_rfl) (by kernel_rfl) (fun _ _ _ _ h => h) (by rfl) ?_ ?_ (by assumption) ?_
    rotate_left
    · (intro wx hSx; (try dsimp only at hSx); go_simp)
      all_goals with_reducible rfl
    (try simp only [Act.put, List.setIfInBounds_toArray, List.set_cons_zero, List.set_cons_succ])
    refine held_load 3 rfl (by kernel_rfl) (by kernel_rfl) (by kernel_rfl) (fun _ _ _ _ h => h) (by rfl) 46 (.tmp 4) rfl w.heap.size (i64s (geo a b c)) _ rfl (fun wx hSx => hSx.1) hu rfl hi1 (by assumption) ?_
    (try simp only [Act.put, List.setIfInBounds_toArray, List.set_cons_zero, List.set_cons_succ])
    refine held_load 4 rfl (by kernel_rfl) (by kernel_rfl) (by kernel_rfl) (fun _ _ _ _ h => h) (by rfl) 46 (.tmp 5) rfl w0.heap.size (i64s (geo a' b' c')) _ rfl (fun wx hSx => hSx.2.1) hu rfl hi2 (by assumption) ?_
    (try simp only [Act.put, List.setIfInBounds_toArray, List.set_cons_zero, List.set_cons_succ])
    refine held_take 5 rfl (by kernel_rfl) (by kernel_rfl) (by kernel_rfl) (fun _ _ _ _ h => h) (by rfl) ?_ ?_ (by assumption) ?_
    rotate_left
    · (intro wx hSx; (try dsimp only at hSx); go_simp)
      all_goals with_reducible rfl
    (try simp only [Act.put, List.setIfInBounds_toArray, List.set_cons_zero, List.set_cons_succ])
    refine held_call 2 rfl (by kernel_rfl) (fun K hK => ?_)
    go_simp
    go_at_call 21
    refine (SameBytes _ _ _ _ _ _ _ _ _ (hX6.ext (Ext.drew (Ext.refl _))).sl (hY6.ext (Ext.drew (Ext.refl _))).sl hbs hbs2).mono ?_
    rintro e w7 ⟨rfl, j7, hw7⟩
    have hE7 : Ext w6 w7 := by rw [hw7]; exact (Ext.drew (Ext.refl _)).drewN _
    clear hw7
    rw [HSt.out]
    go_wp2_with fail
    refine hK.out _ _ (keepS _ hE7) (fun hHeld => ?_)
    clear hK K
    (try simp only [Act.put, List.setIfInBounds_toArray, List.set_cons_zero, List.set_cons_succ])
    refine held_take 6 rfl (by kernel_rfl) (by kernel_rfl) (by kernel_rfl) (fun _ _ _ _ h => h) (by rfl) ?_ ?_ (by assumption) ?_
    rotate_left
    · (intro wx hSx; (try dsimp only at hSx); go_simp)
      all_goals with_reducible rfl
    (try simp only [Act.put, List.setIfInBounds_toArray, List.set_cons_zero, List.set_cons_succ])
    refine held_take 7 rfl (by kernel_rfl) (by kernel_rfl) (by kernel_rfl) (fun _ _ _ _ h => h) (by rfl) ?_ ?_ (by assumption) ?_
    rotate_left
    · (intro wx hSx; (try dsimp only at hSx); go_simp)
      all_goals with_reducible rfl
    (try simp only [Act.put, List.setIfInBounds_toArray, List.set_cons_zero, List.set_cons_succ])
    refine held_take 8 rfl (by kernel_rfl) (by kernel_rfl) (by kernel_rfl) (fun _ _ _ _ h => h) (by rfl) ?_ ?_ (by assumption) ?_
    rotate_left
    · (intro wx hSx; (try dsimp only at hSx); go_simp)
      all_goals with_reducible rfl
    (try simp only [Act.put, List.setIfInBounds_toArray, List.set_cons_zero, List.set_cons_succ])
    refine held_take 9 rfl (by kernel_rfl) (by kernel_rfl) (by kernel_rfl) (fun _ _ _ _ h => h) (by rfl) ?_ ?_ (by assumption) ?_
    rotate_left
    · (intro wx hSx; (try dsimp only at hSx); go_simp)
      all_goals with_reducible rfl
    (try simp only [Act.put, List.setIfInBounds_toArray, List.set_cons_zero, List.set_cons_succ])
    refine held_take 10 rfl (by kernel_rfl) (by kernel_rfl) (by kernel_rfl) (fun _ _ _ _ h => h) (by rfl) ?_ ?_ (by assumption) ?_
    rotate_left
    · (intro wx hSx; (try dsimp only at hSx); go_simp)
      all_goals with_reducible rfl
    (try simp only [Act.put, List.setIfInBounds_toArray, List.set_cons_zero, List.set_cons_succ])
    refine held_take 11 rfl (by kernel_rfl) (by kernel_rfl) (by kernel_rfl) (fun _ _ _ _ h => h) (by rfl) ?_ ?_ (by assumption) ?_
    rotate_left
    · (intro wx hSx; (try dsimp only at hSx); go_simp)
      all_goals with_reducible rfl
    (try simp only [Act.put, List.setIfInBounds_toArray, List.set_cons_zero, List.set_cons_succ])
    refine held_take 12 rfl (by kernel_rfl) (by kernel_rfl) (by kernel_rfl) (fun _ _ _ _ h => h) (by rfl) ?_ ?_ (by assumption) ?_
    rotate_left
    · (intro wx hSx; (try dsimp only at hSx); go_simp)
      all_goals with_reducible rfl
    (try simp only [Act.put, List.setIfInBounds_toArray, List.set_cons_zero, List.set_cons_succ])
    refine held_load 13 rfl (by kernel_rfl) (by kernel_rfl) (by kernel_rfl) (fun _ _ _ _ h => h) (by rfl) 46 (.tmp 13) rfl w4.heap.size (i64s (geo a b c)) _ rfl (fun wx hSx => hSx.2.2) hu rfl hi1 (by assumption) ?_
    (try simp only [Act.put, List.setIfInBounds_toArray, List.set_cons_zero, List.set_cons_succ])
    refine held_load 14 rfl (by kernel_rfl) (by kernel_rfl) (by kernel_rfl) (fun _ _ _ _ h => h) (by rfl) 46 (.tmp 4) rfl w.heap.size (i64s (geo a b c)) _ rfl (fun wx hSx => hSx.1) hu rfl hi1 (by assumption) ?_
    (try simp only [Act.put, List.setIfInBounds_toArray, List.set_cons_zero, List.set_cons_succ])
    refine held_take 15 rfl (by kernel_rfl) (by kernel_rfl) (by kernel_rfl) (fun _ _ _ _ h => h) (by rfl) ?_ ?_ (by assumption) ?_
    rotate_left
    · (intro wx hSx; (try dsimp only at hSx); go_simp)
      all_goals with_reducible rfl
    (try simp only [Act.put, List.setIfInBounds_toArray, List.set_cons_zero, List.set_cons_succ])
    refine held_take 16 rfl (by kernel_rfl) (by kernel_rfl) (by kernel_rfl) (fun _ _ _ _ h => h) (by rfl) ?_ ?_ (by assumption) ?_
    rotate_left
    · (intro wx hSx; (try dsimp only at hSx); go_simp)
      all_goals with_reducible rfl
    (try simp only [Act.put, List.setIfInBounds_toArray, List.set_cons_zero, List.set_cons_succ])
    refine held_take 17 rfl (by kernel_rfl) (by kernel_rfl) (by kernel_rfl) (fun _ _ _ _ h => h) (by rfl) ?_ ?_ (by assumption) ?_
    rotate_left
    · (intro wx hSx; (try dsimp only at hSx); go_simp)
      all_goals with_reducible rfl
    (try simp only [Act.put, List.setIfInBounds_toArray, List.set_cons_zero, List.set_cons_succ])
    refine held_take 18 rfl (by kernel_rfl) (by kernel_rfl) (by kernel_rfl) (fun _ _ _ _ h => h) (by rfl) ?_ ?_ (by assumption) ?_
    rotate_left
    · (intro wx hSx; (try dsimp only at hSx); go_simp)
      all_goals with_reducible rfl
    (try simp only [Act.put, List.setIfInBounds_toArray, List.set_cons_zero, List.set_cons_succ])
    refine held_take 19 rfl (by kernel_rfl) (by kernel_rfl) (by kernel_rfl) (fun _ _ _ _ h => h) (by rfl) ?_ ?_ (by assumption) ?_
    rotate_left
    · (intro wx hSx; (try dsimp only at hSx); go_simp)
      all_goals with_reducible rfl
    (try simp only [Act.put, List.setIfInBounds_toArray, List.set_cons_zero, List.set_cons_succ])
    refine held_take 20 rfl (by kernel_rfl) (by kernel_rfl) (by kernel_rfl) (fun _ _ _ _ h => h) (by rfl) ?_ ?_ (by assumption) ?_
    rotate_left
    · (intro wx hSx; (try dsimp only at hSx); go_simp)
      all_goals with_reducible rfl
    (try simp only [Act.put, List.setIfInBounds_toArray, List.set_cons_zero, List.set_cons_succ])
    refine held_take 21 rfl (by kernel_rfl) (by kernel_rfl) (by kernel_rfl) (fun _ _ _ _ h => h) (by rfl) ?_ ?_ (by assumption) ?_
    rotate_left
    · (intro wx hSx; (try dsimp only at hSx); go_simp)
      all_goals with_reducible rfl
    (try simp only [Act.put, List.setIfInBounds_toArray, List.set_cons_zero, List.set_cons_succ])
    refine held_take 22 rfl (by kernel_rfl) (by kernel_rfl) (by kernel_rfl) (fun _ _ _ _ h => h) (by rfl) ?_ ?_ (by assumption) ?_
    rotate_left
    · (intro wx hSx; (try dsimp only at hSx); go_simp)
      all_goals with_reducible rfl
    (try simp only [Act.put, List.setIfInBounds_toArray, List.set_cons_zero, List.set_cons_succ])
    refine held_take 23 rfl (by kernel_rfl) (by kernel_rfl) (by kernel_rfl) (fun _ _ _ _ h => h) (by rfl) ?_ ?_ (by assumption) ?_
    rotate_left
    · (intro wx hSx; (try dsimp only at hSx); go_simp)
      all_goals with_reducible rfl
    (try simp only [Act.put, List.setIfInBounds_toArray, List.set_cons_zero, List.set_cons_succ])
    refine held_take 24 rfl (by kernel_rfl) (by kernel_rfl) (by kernel_rfl) (fun _ _ _ _ h => h) (by rfl) ?_ ?_ (by assumption) ?_
    rotate_left
    · (intro wx hSx; (try dsimp only at hSx); go_simp)
      all_goals with_reducible rfl
    (try simp only [Act.put, List.setIfInBounds_toArray, List.set_cons_zero, List.set_cons_succ])
    refine held_take 25 rfl (by kernel_rfl) (by kernel_rfl) (by kernel_rfl) (fun _ _ _ _ h => h) (by rfl) ?_ ?_ (by assumption) ?_
    rotate_left
    · (intro wx hSx; (try dsimp only at hSx); go_simp)
      all_goals with_reducible rfl
    (try simp only [Act.put, List.setIfInBounds_toArray, List.set_cons_zero, List.set_cons_succ])
    refine held_take 26 rfl (by kernel_rfl) (by kernel_rfl) (by kernel_rfl) (fun _ _ _ _ h => h) (by rfl) ?_ ?_ (by assumption) ?_
    rotate_left
    · (intro wx hSx; (try dsimp only at hSx); go_simp)
      all_goals with_reducible rfl
    (try simp only [Act.put, List.setIfInBounds_toArray, List.set_cons_zero, List.set_cons_succ])
    refine held_call 27 rfl (by kernel_rfl) (fun K hK => ?_)
    go_simp
    go_at_call 35
    refine (law6_awake _).mono ?_
    rintro e w8 ⟨rfl, hE8⟩
    go_wp2_with fail
    refine hK.out _ _ (keepS _ (hE7.trans hE8)) (fun hHeld => ?_)
    clear hK K
    (try simp only [Act.put, List.setIfInBounds_toArray, List.set_cons_zero, List.set_cons_succ])
    refine held_take 28 rfl (by kernel_rfl) (by kernel_rfl) (by kernel_rfl) (fun _ _ _ _ h => h) (by rfl) ?_ ?_ (by assumption) ?_
    rotate_left
    · (intro wx hSx; (try dsimp only at hSx); go_simp)
      all_goals with_reducible rfl
    (try simp only [Act.put, List.setIfInBounds_toArray, List.set_cons_zero, List.set_cons_succ])
    refine held_take 29 rfl (by kernel_rfl) (by kernel_rfl) (by kernel_rfl) (fun _ _ _ _ h => h) (by rfl) ?_ ?_ (by assumption) ?_
    rotate_left
    · (intro wx hSx; (try dsimp only at hSx); go_simp)
      all_goals with_reducible rfl
    (try simp only [Act.put, List.setIfInBounds_toArray, List.set_cons_zero, List.set_cons_succ])
    refine wpAnyH_done (by kernel_rfl) ?_ _
    clear hHeld
    go_wp2
    go_ret
    exact ⟨rfl, hF6.trans (hE7.trans hE8)⟩
end Go.Proofs.Ythfkacgehdfciaa
