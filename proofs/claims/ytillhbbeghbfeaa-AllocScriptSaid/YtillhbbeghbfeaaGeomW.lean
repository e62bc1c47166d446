/- Contracts of where things stand on a disk. -/
import Derived.Test.YtillhbbeghbfeaaGeoP
import Derived.Test.YtillhbbeghbfeaaFlat
namespace Go.Proofs.Ytillhbbeghbfeaa
set_option linter.unusedVariables false
open Go.RowKit

theorem wrapI (x : Int) (h : -9223372036854775808 ≤ x ∧ x ≤ 9223372036854775807) : IntKind.i64.wrap x = x := IntWalk.i64_in _ h

set_option maxHeartbeats 400000 in
theorem geom_long (a b c : Int) (hm : mayG a b c) (w : World) : Calls Try.prog 53 #[.agg (i64s (geo a b c)).toArray] w fun e w' => e = .returned (.int .i64 (lenG b c)) ∧ Ext w w' := by
  have hm' := hm
  unfold mayG at hm'
  obtain ⟨_, ⟨i1, i2⟩, _, i3, i4⟩ := hm'
  have HM := hide hm
  clear hm
  obtain ⟨q, rfl⟩ := Int.eq_ofNat_of_zero_le (show 0 ≤ b by omega)
  go_enter Try.func53, Try.ntmps53
  go_wp2_with (first
    | (with_reducible refine ag_box rfl 24 (.tmp 0) rfl _ 3 rfl rfl (by omega) (i64s_one (geo a q c)) w.heap.size (Nat.le_refl _) ?_; intro w1 hB1 hE1 hz1
       obtain ⟨c0, c1, c2⟩ := Own.geo hB1))
  go_ret
  exact ⟨ret_int (by unfold lenG; rfl), hE1⟩

set_option maxRecDepth 100000 in
set_option maxHeartbeats 1000000 in
theorem geom_Sectors (a b c : Int) (w : World) : Calls Try.prog 23 #[.agg (i64s (geo a b c)).toArray] w fun e w' => e = .returned (.int .i64 (secG a b c)) ∧ Ext w w' := by
  go_enter Try.func23, Try.ntmps23
  go_wp2_with (first
    | (with_reducible refine ag_box rfl 24 (.tmp 0) rfl _ 3 rfl rfl (by omega) (i64s_one (geo a b c)) w.heap.size (Nat.le_refl _) ?_; intro w1 hB1 hE1 hz1)
    | (with_reducible refine ag_load rfl 24 _ rfl w.heap.size 3 w.heap.size 24 _ rfl (hB1) agg_geo info_geo ?_))
  refine (May a b c _).mono ?_
  rintro e w2 ⟨rfl, hE2⟩
  by_cases hm : mayG a b c
  case neg =>
    rw [decide_eq_false hm]
    have HS := hide (secG_no hm)
    clear hm
    go_wp2
    go_ret
    exact ⟨ret_int HS.out.symm, hE1.trans hE2⟩
  rw [decide_eq_true hm]
  have HS := hide (secG_yes hm)
  obtain ⟨l1, l2⟩ := lenG_bd hm
  obtain ⟨m1, m2⟩ := mul_bd8 (k := a) (L := lenG b c) (by unfold mayG at hm; omega) (by unfold mayG at hm; omega) (by omega) (by omega)
  have hL := fun w => geom_long a b c hm w
  obtain ⟨c0, c1, c2⟩ := Own.geo (hB1.ext hE2)
  clear hm
  generalize lenG b c = L at *
  have e1 := wrapI (a * L) (by omega)
  have e2 := wrapI (2 + a * L) (by omega)
  go_wp2_with fail
  go_region_held3 (fun w' => w'.cell? ⟨w.heap.size, 0, none⟩ = some (.int .i64 a) ∧ w'.cell? ⟨w.heap.size, 1, none⟩ = some (.int .i64 b) ∧ w'.cell? ⟨w.heap.size, 2, none⟩ = some (.int .i64 c)) (first | go_keep | (exact ⟨hE4.cell (by assumption), hE4.cell (by assumption), hE4.cell (by assumption)⟩))
    ((go_at_call 53; refine (hL _).mono ?_; rintro e w4 ⟨rfl, hE4⟩))
  go_wp2
  go_ret
  exact ⟨ret_int HS.out.symm, hE1.trans (hE2.trans ((Ext.drew (Ext.refl _)).trans hE4))⟩

set_option maxRecDepth 100000 in
set_option maxHeartbeats 1000000 in
theorem geom_Inodes (a b c : Int) (w : World) : Calls Try.prog 22 #[.agg (i64s (geo a b c)).toArray] w fun e w' => e = .returned (.int .i64 (inosG a b c)) ∧ Ext w w' := by
  go_enter Try.func22, Try.ntmps22
  go_wp2_with (first
    | (with_reducible refine ag_box rfl 24 (.tmp 0) rfl _ 3 rfl rfl (by omega) (i64s_one (geo a b c)) w.heap.size (Nat.le_refl _) ?_; intro w1 hB1 hE1 hz1)
    | (with_reducible refine ag_load rfl 24 _ rfl w.heap.size 3 w.heap.size 24 _ rfl (hB1) agg_geo info_geo ?_))
  refine (May a b c _).mono ?_
  rintro e w2 ⟨rfl, hE2⟩
  by_cases hm : mayG a b c
  case neg =>
    rw [decide_eq_false hm]
    have HS := hide (inosG_no hm)
    clear hm
    go_wp2
    go_ret
    exact ⟨ret_int HS.out.symm, hE1.trans hE2⟩
  rw [decide_eq_true hm]
  obtain ⟨m1, m2⟩ := inosG_bd a b c
  rw [inosG_yes hm] at m1 m2
  have HS := hide (inosG_yes hm)
  obtain ⟨c0, c1, c2⟩ := Own.geo (hB1.ext hE2)
  clear hm
  have e1 := wrapI (a * b) (by omega)
  go_wp2
  go_ret
  exact ⟨ret_int HS.out.symm, hE1.trans hE2⟩

set_option maxRecDepth 100000 in
set_option maxHeartbeats 1000000 in
theorem geom_Blocks (a b c : Int) (w : World) : Calls Try.prog 24 #[.agg (i64s (geo a b c)).toArray] w fun e w' => e = .returned (.int .i64 (blosG a b c)) ∧ Ext w w' := by
  go_enter Try.func24, Try.ntmps24
  go_wp2_with (first
    | (with_reducible refine ag_box rfl 24 (.tmp 0) rfl _ 3 rfl rfl (by omega) (i64s_one (geo a b c)) w.heap.size (Nat.le_refl _) ?_; intro w1 hB1 hE1 hz1)
    | (with_reducible refine ag_load rfl 24 _ rfl w.heap.size 3 w.heap.size 24 _ rfl (hB1) agg_geo info_geo ?_))
  refine (May a b c _).mono ?_
  rintro e w2 ⟨rfl, hE2⟩
  by_cases hm : mayG a b c
  case neg =>
    rw [decide_eq_false hm]
    have HS := hide (blosG_no hm)
    clear hm
    go_wp2
    go_ret
    exact ⟨ret_int HS.out.symm, hE1.trans hE2⟩
  rw [decide_eq_true hm]
  obtain ⟨m1, m2⟩ := blosG_bd a b c
  rw [blosG_yes hm] at m1 m2
  have HS := hide (blosG_yes hm)
  obtain ⟨c0, c1, c2⟩ := Own.geo (hB1.ext hE2)
  clear hm
  have e1 := wrapI (a * c) (by omega)
  go_wp2
  go_ret
  exact ⟨ret_int HS.out.symm, hE1.trans hE2⟩

set_option maxRecDepth 100000 in
set_option maxHeartbeats 1000000 in
theorem geom_Group (a b c k : Int) (w : World) : Calls Try.prog 35 #[.agg (i64s (geo a b c)).toArray, .int .i64 k] w fun e w' => e = .returned (.int .i64 (grpG a b c k)) ∧ Ext w w' := by
  have hg : ∀ h : ¬ (0 ≤ k ∧ k < a), grpG a b c k = -1 := fun h => if_neg (fun h' => h h'.2)
  go_enter Try.func35, Try.ntmps35
  go_wp2_with (first
    | (with_reducible refine ag_box rfl 24 (.tmp 0) rfl _ 3 rfl rfl (by omega) (i64s_one (geo a b c)) w.heap.size (Nat.le_refl _) ?_; intro w1 hB1 hE1 hz1)
    | (with_reducible refine ag_load rfl 24 _ rfl w.heap.size 3 w.heap.size 24 _ rfl (hB1) agg_geo info_geo ?_))
  refine (May a b c _).mono ?_
  rintro e w2 ⟨rfl, hE2⟩
  by_cases hm : mayG a b c
  case neg =>
    rw [decide_eq_false hm]
    have HS := hide (show grpG a b c k = -1 from if_neg (fun h => hm h.1))
    clear hm hg
    go_wp2
    go_ret
    exact ⟨ret_int HS.out.symm, hE1.trans hE2⟩
  rw [decide_eq_true hm]
  have hB2 := hB1.ext hE2
  obtain ⟨c0, c1, c2⟩ := Own.geo hB2
  have hF2 := hE1.trans hE2
  have i1 : 1 ≤ a := by unfold mayG at hm; omega
  have i2 : a ≤ 8 := by unfold mayG at hm; omega
  have HM := hide hm
  have HG := hide hg
  clear hm hg
  go_wp2_with fail
  refine (Between _ _ _ _).mono ?_
  rintro e w3 ⟨rfl, rfl⟩
  by_cases hk : 0 ≤ k ∧ k < a
  case neg =>
    rw [decide_eq_false (by omega)]
    have HS := hide (HG.out hk)
    clear hk
    go_wp2
    go_ret
    exact ⟨ret_int HS.out.symm, hF2⟩
  rw [decide_eq_true (by omega)]
  have hm := HM.out
  have HS := hide (grpG_yes hm hk.1 hk.2)
  obtain ⟨l1, l2⟩ := lenG_bd hm
  obtain ⟨m1, m2⟩ := mul_bd8 (k := k) (L := lenG b c) (by omega) (by unfold mayG at hm; omega) (by omega) (by omega)
  have hL := fun w => geom_long a b c hm w
  generalize lenG b c = L at *
  have e1 := wrapI (k * L) (by omega)
  clear hm hk
  go_wp2_with (with_reducible refine ag_load rfl 24 _ rfl w.heap.size 3 w.heap.size 24 _ rfl (hB2) agg_geo info_geo ?_)
  refine (hL _).mono ?_
  rintro e w4 ⟨rfl, hE4⟩
  go_wp2
  go_ret
  exact ⟨ret_int HS.out.symm, hF2.trans hE4⟩

set_option maxRecDepth 100000 in
set_option maxHeartbeats 1000000 in
theorem geom_First (a b c k : Int) (w : World) : Calls Try.prog 10 #[.agg (i64s (geo a b c)).toArray, .int .i64 k] w fun e w' => e = .returned (.int .i64 (fstG a b c k)) ∧ Ext w w' := by
  by_cases hk : mayG a b c ∧ 0 ≤ k ∧ k < a
  case neg =>
    have hg : grpG a b c k = -1 := if_neg hk
    have HS := hide (show fstG a b c k = -1 from if_neg hk)
    have hG := fun w => geom_Group a b c k w
    rw [hg] at hG
    clear hg hk
    go_enter Try.func10, Try.ntmps10
    go_wp2_with (first
      | (with_reducible refine ag_box rfl 24 (.tmp 0) rfl _ 3 rfl rfl (by omega) (i64s_one (geo a b c)) w.heap.size (Nat.le_refl _) ?_; intro w1 hB1 hE1 hz1)
      | (with_reducible refine ag_load rfl 24 _ rfl w.heap.size 3 w.heap.size 24 _ rfl (hB1) agg_geo info_geo ?_))
    refine (hG _).mono ?_
    rintro e w2 ⟨rfl, hE2⟩
    go_wp2
    go_ret
    exact ⟨ret_int HS.out.symm, hE1.trans hE2⟩
  obtain ⟨hm, hk0, hk1⟩ := hk
  have hb1 := grpG_bd a b c k
  have hb2 : ¬ grpG a b c k < 0 := fun h => grpG_neg.1 h ⟨hm, hk0, hk1⟩
  have hs : fstG a b c k = grpG a b c k + 1 + b / 4 := by rw [fstG_yes hm hk0 hk1, grpG_yes hm hk0 hk1]
  have hG := fun w => geom_Group a b c k w
  have i1 : 4 ≤ b := by unfold mayG at hm; omega
  have i2 : b ≤ 32 := by unfold mayG at hm; omega
  have HS := hide hs
  clear hs hm hk0 hk1
  generalize grpG a b c k = G at *
  obtain ⟨g1, g2⟩ := hb1
  have e1 := wrapI (G + 1) (by omega)
  have e2 := wrapI (b / 4) (by omega)
  have e3 := wrapI (G + 1 + b / 4) (by omega)
  have e4 : b.tdiv 4 = b / 4 := Int.tdiv_eq_ediv_of_nonneg (by omega)
  go_enter Try.func10, Try.ntmps10
  go_wp2_with (first
    | (with_reducible refine ag_box rfl 24 (.tmp 0) rfl _ 3 rfl rfl (by omega) (i64s_one (geo a b c)) w.heap.size (Nat.le_refl _) ?_; intro w1 hB1 hE1 hz1)
    | (with_reducible refine ag_load rfl 24 _ rfl w.heap.size 3 w.heap.size 24 _ rfl (hB1) agg_geo info_geo ?_))
  refine (hG _).mono ?_
  rintro e w2 ⟨rfl, hE2⟩
  obtain ⟨c0, c1, c2⟩ := Own.geo (hB1.ext hE2)
  go_wp2_with fail
  go_region_held3 (fun w' => w'.cell? ⟨w.heap.size, 0, none⟩ = some (.int .i64 a) ∧ w'.cell? ⟨w.heap.size, 1, none⟩ = some (.int .i64 b) ∧ w'.cell? ⟨w.heap.size, 2, none⟩ = some (.int .i64 c)) (first | go_keep | (exact ⟨hE4.cell (by assumption), hE4.cell (by assumption), hE4.cell (by assumption)⟩))
    ((go_at_call 35; refine (hG _).mono ?_; rintro e w4 ⟨rfl, hE4⟩))
  clear e1 e2 e3 e4
  go_wp2
  go_ret
  exact ⟨ret_int HS.out.symm, hE1.trans (hE2.trans ((Ext.drew (Ext.refl _)).trans hE4))⟩

set_option maxRecDepth 100000 in
set_option maxHeartbeats 1000000 in
theorem geom_OfInode (a b c n : Int) (w : World) (hn1 : -9223372036854775808 ≤ n) : Calls Try.prog 58 #[.agg (i64s (geo a b c)).toArray, .int .i64 n] w fun e w' => e = .returned (.tuple #[.int .i64 (oinK a b c n), .int .i64 (oinI a b c n)]) ∧ Ext w w' := by
  obtain ⟨j1, j2⟩ := inosG_bd a b c
  have hI := fun w => geom_Inodes a b c w
  by_cases hn : 1 ≤ n ∧ n ≤ inosG a b c
  case neg =>
    have HK := hide (show oinK a b c n = -1 from if_neg hn)
    have HI := hide (show oinI a b c n = -1 from if_neg hn)
    have hd := decide_eq_false hn
    generalize inosG a b c = I at *
    clear hn
    go_enter Try.func58, Try.ntmps58
    go_wp2_with (first
      | (with_reducible refine ag_box rfl 24 (.tmp 0) rfl _ 3 rfl rfl (by omega) (i64s_one (geo a b c)) w.heap.size (Nat.le_refl _) ?_; intro w1 hB1 hE1 hz1)
      | (with_reducible refine ag_load rfl 24 _ rfl w.heap.size 3 w.heap.size 24 _ rfl (hB1) agg_geo info_geo ?_)
      | (go_at_call 22; refine (hI _).mono ?_; rintro e w2 ⟨rfl, hE2⟩)
      | (go_at_call 55; refine (Between _ _ _ _).mono ?_; rintro e w3 ⟨rfl, rfl⟩; rw [hd]))
    go_ret2
    rw [HK.out, HI.out]
    exact ⟨rfl, hE1.trans hE2⟩
  have hd := decide_eq_true hn
  have ⟨hm, q1, q2, q3, q4⟩ := oin_lt hn
  have i1 : 4 ≤ b := by unfold mayG at hm; omega
  have i2 : b ≤ 32 := by unfold mayG at hm; omega
  have i3 : (n - 1) / b < 8 := by unfold mayG at hm; omega
  have HK := hide (show oinK a b c n = (n - 1) / b from if_pos hn)
  have HI := hide (show oinI a b c n = (n - 1) % b from if_pos hn)
  have n1 : 1 ≤ n := hn.1
  have n2 : n ≤ inosG a b c := hn.2
  have e1 := wrapI (n - 1) (by omega)
  have e2 : (n - 1).tdiv b = (n - 1) / b := Int.tdiv_eq_ediv_of_nonneg (by omega)
  have e3 : (n - 1).tmod b = (n - 1) % b := Int.tmod_eq_emod_of_nonneg (by omega)
  have e4 := wrapI ((n - 1) / b) (by omega)
  have e5 : (b == 0) = false := by simp; omega
  have e6 : ¬ b = 0 := by omega
  have e7 := wrapI ((n - 1) % b) (by omega)
  generalize inosG a b c = I at *
  clear hm hn
  go_enter Try.func58, Try.ntmps58
  go_wp2_with (first
    | (with_reducible refine ag_box rfl 24 (.tmp 0) rfl _ 3 rfl rfl (by omega) (i64s_one (geo a b c)) w.heap.size (Nat.le_refl _) ?_; intro w1 hB1 hE1 hz1)
    | (with_reducible refine ag_load rfl 24 _ rfl w.heap.size 3 w.heap.size 24 _ rfl (hB1) agg_geo info_geo ?_)
    | (go_at_call 22; refine (hI _).mono ?_; rintro e w2 ⟨rfl, hE2⟩)
    | (go_at_call 55; refine (Between _ _ _ _).mono ?_; rintro e w3 ⟨rfl, rfl⟩; rw [hd]))
  obtain ⟨c0, c1, c2⟩ := Own.geo (hB1.ext hE2)
  clear hd
  go_quiet (fail)
  clear e1 e2 e3 e4 e5 e6 e7
  go_wp2
  go_ret2
  rw [HK.out, HI.out]
  exact ⟨rfl, (hE1.trans hE2).drewN _⟩


set_option maxHeartbeats 400000 in
theorem ref5_long (a b c : Int) (hm : mayG a b c) (w : World) : Calls Try.prog 63 #[.agg (i64s (geo a b c)).toArray] w fun e w' => e = .returned (.int .i64 (lenG b c)) ∧ Ext w w' := by
  have hm' := hm
  unfold mayG at hm'
  obtain ⟨_, ⟨i1, i2⟩, _, i3, i4⟩ := hm'
  have HM := hide hm
  clear hm
  obtain ⟨q, rfl⟩ := Int.eq_ofNat_of_zero_le (show 0 ≤ b by omega)
  go_enter Try.func63, Try.ntmps63
  go_wp2_with (first
    | (with_reducible refine ag_box rfl 24 (.tmp 0) rfl _ 3 rfl rfl (by omega) (i64s_one (geo a q c)) w.heap.size (Nat.le_refl _) ?_; intro w1 hB1 hE1 hz1
       obtain ⟨c0, c1, c2⟩ := Own.geo hB1))
  go_ret
  exact ⟨ret_int (by unfold lenG; rfl), hE1⟩

set_option maxRecDepth 100000 in
set_option maxHeartbeats 1000000 in
theorem ref5_Sectors (a b c : Int) (w : World) : Calls Try.prog 42 #[.agg (i64s (geo a b c)).toArray] w fun e w' => e = .returned (.int .i64 (secG a b c)) ∧ Ext w w' := by
  go_enter Try.func42, Try.ntmps42
  go_wp2_with (first
    | (with_reducible refine ag_box rfl 24 (.tmp 0) rfl _ 3 rfl rfl (by omega) (i64s_one (geo a b c)) w.heap.size (Nat.le_refl _) ?_; intro w1 hB1 hE1 hz1)
    | (with_reducible refine ag_load rfl 24 _ rfl w.heap.size 3 w.heap.size 24 _ rfl (hB1) agg_geo info_geo ?_))
  refine (refMay a b c _).mono ?_
  rintro e w2 ⟨rfl, hE2⟩
  by_cases hm : mayG a b c
  case neg =>
    rw [decide_eq_false hm]
    have HS := hide (secG_no hm)
    clear hm
    go_wp2
    go_ret
    exact ⟨ret_int HS.out.symm, hE1.trans hE2⟩
  rw [decide_eq_true hm]
  have HS := hide (secG_yes hm)
  obtain ⟨l1, l2⟩ := lenG_bd hm
  obtain ⟨m1, m2⟩ := mul_bd8 (k := a) (L := lenG b c) (by unfold mayG at hm; omega) (by unfold mayG at hm; omega) (by omega) (by omega)
  have hL := fun w => ref5_long a b c hm w
  obtain ⟨c0, c1, c2⟩ := Own.geo (hB1.ext hE2)
  clear hm
  generalize lenG b c = L at *
  have e1 := wrapI (a * L) (by omega)
  have e2 := wrapI (2 + a * L) (by omega)
  go_wp2_with fail
  go_region_held3 (fun w' => w'.cell? ⟨w.heap.size, 0, none⟩ = some (.int .i64 a) ∧ w'.cell? ⟨w.heap.size, 1, none⟩ = some (.int .i64 b) ∧ w'.cell? ⟨w.heap.size, 2, none⟩ = some (.int .i64 c)) (first | go_keep | (exact ⟨hE4.cell (by assumption), hE4.cell (by assumption), hE4.cell (by assumption)⟩))
    ((go_at_call 63; refine (hL _).mono ?_; rintro e w4 ⟨rfl, hE4⟩))
  go_wp2
  go_ret
  exact ⟨ret_int HS.out.symm, hE1.trans (hE2.trans ((Ext.drew (Ext.refl _)).trans hE4))⟩

set_option maxRecDepth 100000 in
set_option maxHeartbeats 1000000 in
theorem ref5_Inodes (a b c : Int) (w : World) : Calls Try.prog 41 #[.agg (i64s (geo a b c)).toArray] w fun e w' => e = .returned (.int .i64 (inosG a b c)) ∧ Ext w w' := by
  go_enter Try.func41, Try.ntmps41
  go_wp2_with (first
    | (with_reducible refine ag_box rfl 24 (.tmp 0) rfl _ 3 rfl rfl (by omega) (i64s_one (geo a b c)) w.heap.size (Nat.le_refl _) ?_; intro w1 hB1 hE1 hz1)
    | (with_reducible refine ag_load rfl 24 _ rfl w.heap.size 3 w.heap.size 24 _ rfl (hB1) agg_geo info_geo ?_))
  refine (refMay a b c _).mono ?_
  rintro e w2 ⟨rfl, hE2⟩
  by_cases hm : mayG a b c
  case neg =>
    rw [decide_eq_false hm]
    have HS := hide (inosG_no hm)
    clear hm
    go_wp2
    go_ret
    exact ⟨ret_int HS.out.symm, hE1.trans hE2⟩
  rw [decide_eq_true hm]
  obtain ⟨m1, m2⟩ := inosG_bd a b c
  rw [inosG_yes hm] at m1 m2
  have HS := hide (inosG_yes hm)
  obtain ⟨c0, c1, c2⟩ := Own.geo (hB1.ext hE2)
  clear hm
  have e1 := wrapI (a * b) (by omega)
  go_wp2
  go_ret
  exact ⟨ret_int HS.out.symm, hE1.trans hE2⟩


set_option maxRecDepth 100000 in
set_option maxHeartbeats 1000000 in
theorem ref5_Group (a b c k : Int) (w : World) : Calls Try.prog 66 #[.agg (i64s (geo a b c)).toArray, .int .i64 k] w fun e w' => e = .returned (.int .i64 (grpG a b c k)) ∧ Ext w w' := by
  have hg : ∀ h : ¬ (0 ≤ k ∧ k < a), grpG a b c k = -1 := fun h => if_neg (fun h' => h h'.2)
  go_enter Try.func66, Try.ntmps66
  go_wp2_with (first
    | (with_reducible refine ag_box rfl 24 (.tmp 0) rfl _ 3 rfl rfl (by omega) (i64s_one (geo a b c)) w.heap.size (Nat.le_refl _) ?_; intro w1 hB1 hE1 hz1)
    | (with_reducible refine ag_load rfl 24 _ rfl w.heap.size 3 w.heap.size 24 _ rfl (hB1) agg_geo info_geo ?_))
  refine (refMay a b c _).mono ?_
  rintro e w2 ⟨rfl, hE2⟩
  by_cases hm : mayG a b c
  case neg =>
    rw [decide_eq_false hm]
    have HS := hide (show grpG a b c k = -1 from if_neg (fun h => hm h.1))
    clear hm hg
    go_wp2
    go_ret
    exact ⟨ret_int HS.out.symm, hE1.trans hE2⟩
  rw [decide_eq_true hm]
  have hB2 := hB1.ext hE2
  obtain ⟨c0, c1, c2⟩ := Own.geo hB2
  have hF2 := hE1.trans hE2
  have i1 : 1 ≤ a := by unfold mayG at hm; omega
  have i2 : a ≤ 8 := by unfold mayG at hm; omega
  by_cases hk0 : k < 0
  · have HS := hide (hg (by omega))
    clear hm hg
    go_wp2
    go_ret
    exact ⟨ret_int HS.out.symm, hF2⟩
  by_cases hk1 : a ≤ k
  · have HS := hide (hg (by omega))
    clear hm hg
    go_wp2
    go_ret
    exact ⟨ret_int HS.out.symm, hF2⟩
  have hk : 0 ≤ k ∧ k < a := by omega
  have HS := hide (grpG_yes hm hk.1 hk.2)
  obtain ⟨l1, l2⟩ := lenG_bd hm
  obtain ⟨m1, m2⟩ := mul_bd8 (k := k) (L := lenG b c) (by omega) (by unfold mayG at hm; omega) (by omega) (by omega)
  have hL := fun w => ref5_long a b c hm w
  generalize lenG b c = L at *
  have e1 := wrapI (k * L) (by omega)
  clear hm hk hg
  go_wp2_with (with_reducible refine ag_load rfl 24 _ rfl w.heap.size 3 w.heap.size 24 _ rfl (hB2) agg_geo info_geo ?_)
  refine (hL _).mono ?_
  rintro e w4 ⟨rfl, hE4⟩
  go_wp2
  go_ret
  exact ⟨ret_int HS.out.symm, hF2.trans hE4⟩

set_option maxRecDepth 100000 in
set_option maxHeartbeats 1000000 in
theorem ref5_First (a b c k : Int) (w : World) : Calls Try.prog 51 #[.agg (i64s (geo a b c)).toArray, .int .i64 k] w fun e w' => e = .returned (.int .i64 (fstG a b c k)) ∧ Ext w w' := by
  by_cases hk : mayG a b c ∧ 0 ≤ k ∧ k < a
  case neg =>
    have hg : grpG a b c k = -1 := if_neg hk
    have HS := hide (show fstG a b c k = -1 from if_neg hk)
    have hG := fun w => ref5_Group a b c k w
    rw [hg] at hG
    clear hg hk
    go_enter Try.func51, Try.ntmps51
    go_wp2_with (first
      | (with_reducible refine ag_box rfl 24 (.tmp 0) rfl _ 3 rfl rfl (by omega) (i64s_one (geo a b c)) w.heap.size (Nat.le_refl _) ?_; intro w1 hB1 hE1 hz1)
      | (with_reducible refine ag_load rfl 24 _ rfl w.heap.size 3 w.heap.size 24 _ rfl (hB1) agg_geo info_geo ?_))
    refine (hG _).mono ?_
    rintro e w2 ⟨rfl, hE2⟩
    go_wp2
    go_ret
    exact ⟨ret_int HS.out.symm, hE1.trans hE2⟩
  obtain ⟨hm, hk0, hk1⟩ := hk
  have hb1 := grpG_bd a b c k
  have hb2 : ¬ grpG a b c k < 0 := fun h => grpG_neg.1 h ⟨hm, hk0, hk1⟩
  have hs : fstG a b c k = grpG a b c k + 1 + b / 4 := by rw [fstG_yes hm hk0 hk1, grpG_yes hm hk0 hk1]
  have hG := fun w => ref5_Group a b c k w
  have i1 : 4 ≤ b := by unfold mayG at hm; omega
  have i2 : b ≤ 32 := by unfold mayG at hm; omega
  have HS := hide hs
  clear hs hm hk0 hk1
  generalize grpG a b c k = G at *
  obtain ⟨g1, g2⟩ := hb1
  have e1 := wrapI (G + 1) (by omega)
  have e2 := wrapI (b / 4) (by omega)
  have e3 := wrapI (G + 1 + b / 4) (by omega)
  have e4 : b.tdiv 4 = b / 4 := Int.tdiv_eq_ediv_of_nonneg (by omega)
  go_enter Try.func51, Try.ntmps51
  go_wp2_with (first
    | (with_reducible refine ag_box rfl 24 (.tmp 0) rfl _ 3 rfl rfl (by omega) (i64s_one (geo a b c)) w.heap.size (Nat.le_refl _) ?_; intro w1 hB1 hE1 hz1)
    | (with_reducible refine ag_load rfl 24 _ rfl w.heap.size 3 w.heap.size 24 _ rfl (hB1) agg_geo info_geo ?_))
  refine (hG _).mono ?_
  rintro e w2 ⟨rfl, hE2⟩
  obtain ⟨c0, c1, c2⟩ := Own.geo (hB1.ext hE2)
  go_wp2_with fail
  go_region_held3 (fun w' => w'.cell? ⟨w.heap.size, 0, none⟩ = some (.int .i64 a) ∧ w'.cell? ⟨w.heap.size, 1, none⟩ = some (.int .i64 b) ∧ w'.cell? ⟨w.heap.size, 2, none⟩ = some (.int .i64 c)) (first | go_keep | (exact ⟨hE4.cell (by assumption), hE4.cell (by assumption), hE4.cell (by assumption)⟩))
    ((go_at_call 66; refine (hG _).mono ?_; rintro e w4 ⟨rfl, hE4⟩))
  clear e1 e2 e3 e4
  go_wp2
  go_ret
  exact ⟨ret_int HS.out.symm, hE1.trans (hE2.trans ((Ext.drew (Ext.refl _)).trans hE4))⟩

set_option maxRecDepth 100000 in
set_option maxHeartbeats 1000000 in
theorem ref5_OfInode (a b c n : Int) (w : World) (hn1 : -9223372036854775808 ≤ n) : Calls Try.prog 71 #[.agg (i64s (geo a b c)).toArray, .int .i64 n] w fun e w' => e = .returned (.tuple #[.int .i64 (oinK a b c n), .int .i64 (oinI a b c n)]) ∧ Ext w w' := by
  obtain ⟨j1, j2⟩ := inosG_bd a b c
  have hI := fun w => ref5_Inodes a b c w
  by_cases hl : n < 1
  · have HK := hide (show oinK a b c n = -1 from if_neg (by omega))
    have HI := hide (show oinI a b c n = -1 from if_neg (by omega))
    generalize inosG a b c = I at *
    go_enter Try.func71, Try.ntmps71
    go_wp2_with (first
      | (with_reducible refine ag_box rfl 24 (.tmp 0) rfl _ 3 rfl rfl (by omega) (i64s_one (geo a b c)) w.heap.size (Nat.le_refl _) ?_; intro w1 hB1 hE1 hz1)
      | (with_reducible refine ag_load rfl 24 _ rfl w.heap.size 3 w.heap.size 24 _ rfl (hB1) agg_geo info_geo ?_))
    go_ret2
    rw [HK.out, HI.out]
    exact ⟨rfl, hE1⟩
  by_cases hg : inosG a b c < n
  · have HK := hide (show oinK a b c n = -1 from if_neg (by omega))
    have HI := hide (show oinI a b c n = -1 from if_neg (by omega))
    generalize inosG a b c = I at *
    go_enter Try.func71, Try.ntmps71
    go_wp2_with (first
      | (with_reducible refine ag_box rfl 24 (.tmp 0) rfl _ 3 rfl rfl (by omega) (i64s_one (geo a b c)) w.heap.size (Nat.le_refl _) ?_; intro w1 hB1 hE1 hz1)
      | (with_reducible refine ag_load ?kw 24 _ rfl w.heap.size 3 w.heap.size 24 _ rfl hB1 agg_geo info_geo ?_; case kw => go_simp)
      | (go_at_call 41; refine (hI _).mono ?_; rintro e w2 ⟨rfl, hE2⟩))
    go_ret2
    rw [HK.out, HI.out]
    exact ⟨rfl, hE1.trans hE2⟩
  have hn : 1 ≤ n ∧ n ≤ inosG a b c := by omega
  have ⟨hm, q1, q2, q3, q4⟩ := oin_lt hn
  have i1 : 4 ≤ b := by unfold mayG at hm; omega
  have i2 : b ≤ 32 := by unfold mayG at hm; omega
  have i3 : (n - 1) / b < 8 := by unfold mayG at hm; omega
  have HK := hide (show oinK a b c n = (n - 1) / b from if_pos hn)
  have HI := hide (show oinI a b c n = (n - 1) % b from if_pos hn)
  have n1 : 1 ≤ n := hn.1
  have n2 : n ≤ inosG a b c := hn.2
  have e1 := wrapI (n - 1) (by omega)
  have e2 : (n - 1).tdiv b = (n - 1) / b := Int.tdiv_eq_ediv_of_nonneg (by omega)
  have e3 : (n - 1).tmod b = (n - 1) % b := Int.tmod_eq_emod_of_nonneg (by omega)
  have e4 := wrapI ((n - 1) / b) (by omega)
  have e5 : (b == 0) = false := by simp; omega
  have e6 : ¬ b = 0 := by omega
  have e7 := wrapI ((n - 1) % b) (by omega)
  generalize inosG a b c = I at *
  clear hm hn
  go_enter Try.func71, Try.ntmps71
  go_wp2_with (first
    | (with_reducible refine ag_box rfl 24 (.tmp 0) rfl _ 3 rfl rfl (by omega) (i64s_one (geo a b c)) w.heap.size (Nat.le_refl _) ?_; intro w1 hB1 hE1 hz1)
    | (with_reducible refine ag_load ?kw2 24 _ rfl w.heap.size 3 w.heap.size 24 _ rfl hB1 agg_geo info_geo ?_; case kw2 => go_simp)
    | (go_at_call 41; refine (hI _).mono ?_; rintro e w2 ⟨rfl, hE2⟩))
  obtain ⟨c0, c1, c2⟩ := Own.geo (hB1.ext hE2)
  go_quiet (fail)
  clear e1 e2 e3 e4 e5 e6 e7
  go_wp2
  go_ret2
  rw [HK.out, HI.out]
  exact ⟨rfl, (hE1.trans hE2).drewN _⟩


set_option maxRecDepth 100000 in
set_option maxHeartbeats 1000000 in
theorem geom_OfBlock (a b c s : Int) (w : World) : Calls Try.prog 26 #[.agg (i64s (geo a b c)).toArray, .int .i64 s] w fun e w' => e = .returned (.tuple #[.int .i64 (oblK a b c s), .int .i64 (oblI a b c s)]) ∧ Ext w w' := by
  have hS := fun w => geom_Sectors a b c w
  obtain ⟨j1, j2⟩ := secG_bd a b c
  by_cases h1 : 2 ≤ s ∧ s ≤ secG a b c - 1
  case neg =>
    have hno := isB_not (a := a) (b := b) (c := c) (s := s) (fun h => h1 ⟨h.1, by have := h.2.1; omega⟩)
    have HK := hide hno
    have hd := decide_eq_false h1
    generalize secG a b c = S at *
    clear h1 hno
    go_enter Try.func26, Try.ntmps26
    go_wp2_with (first
      | (with_reducible refine ag_box rfl 24 (.tmp 0) rfl _ 3 rfl rfl (by omega) (i64s_one (geo a b c)) w.heap.size (Nat.le_refl _) ?_; intro w1 hB1 hE1 hz1)
      | (with_reducible refine ag_load rfl 24 _ rfl w.heap.size 3 w.heap.size 24 _ rfl (hB1) agg_geo info_geo ?_)
      | (go_at_call 23; refine (hS _).mono ?_; rintro e w2 ⟨rfl, hE2⟩)
      | (go_at_call 55; refine (Between _ _ _ _).mono ?_; rintro e w3 ⟨rfl, rfl⟩; rw [hd]))
    go_ret2
    rw [HK.out.1, HK.out.2]
    exact ⟨rfl, hE1.trans hE2⟩
  have hm : mayG a b c := by
    by_cases hm : mayG a b c
    · exact hm
    · rw [secG_no hm] at h1; omega
  have hd := decide_eq_true h1
  have hL := fun w => geom_long a b c hm w
  obtain ⟨l1, l2⟩ := lenG_bd hm
  obtain ⟨k0, k1⟩ := quot_lt (s := s) (a := a) (L := lenG b c) (by omega) (by omega) (by have := secG_yes hm; omega)
  have i8 : (s - 2) / lenG b c < 8 := by unfold mayG at hm; omega
  have hF := fun w => geom_First a b c ((s - 2) / lenG b c) w
  obtain ⟨f1, f2⟩ := fstG_bd a b c ((s - 2) / lenG b c)
  obtain ⟨n1, n2⟩ := h1
  by_cases hb : isB a b c s
  · have hnn : ¬ s < fstG a b c ((s - 2) / lenG b c) := by have := hb.2.2; omega
    have HK := hide (show oblK a b c s = (s - 2) / lenG b c from if_pos hb)
    have HI := hide (show oblI a b c s = s - fstG a b c ((s - 2) / lenG b c) from if_pos hb)
    clear hb hm
    generalize secG a b c = S at *
    have e2 : (s - 2).tdiv (lenG b c) = (s - 2) / lenG b c := Int.tdiv_eq_ediv_of_nonneg (by omega)
    generalize fstG a b c ((s - 2) / lenG b c) = F at *
    generalize lenG b c = L at *
    have e5 : (L == 0) = false := by simp; omega
    have e6 : ¬ L = 0 := by omega
    go_enter Try.func26, Try.ntmps26
    go_wp2_with (first
      | (with_reducible refine ag_box rfl 24 (.tmp 0) rfl _ 3 rfl rfl (by omega) (i64s_one (geo a b c)) w.heap.size (Nat.le_refl _) ?_; intro w1 hB1 hE1 hz1)
      | (with_reducible refine ag_load rfl 24 _ rfl w.heap.size 3 w.heap.size 24 _ rfl (hB1) agg_geo info_geo ?_)
      | (go_at_call 23; refine (hS _).mono ?_; rintro e w2 ⟨rfl, hE2⟩)
      | (go_at_call 55; refine (Between _ _ _ _).mono ?_; rintro e w3 ⟨rfl, rfl⟩; rw [hd])
      | (with_reducible refine ag_load rfl 24 _ rfl w.heap.size 3 w.heap.size 24 _ rfl (hB1.ext hE2) agg_geo info_geo ?_)
      | (go_at_call 53; refine (hL _).mono ?_; rintro e w4 ⟨rfl, hE4⟩)
      | (with_reducible refine ag_load rfl 24 _ rfl w.heap.size 3 w.heap.size 24 _ rfl (hB1.ext (hE2.trans hE4)) agg_geo info_geo ?_)
      | (go_at_call 10; refine (hF _).mono ?_; rintro e w5 ⟨rfl, hE5⟩))
    go_ret2
    rw [HK.out, HI.out]
    exact ⟨rfl, hE1.trans (hE2.trans (hE4.trans hE5))⟩
  · have hnn : s < fstG a b c ((s - 2) / lenG b c) := by
      by_cases hh : s < fstG a b c ((s - 2) / lenG b c)
      · exact hh
      · exact absurd ⟨n1, by omega, by omega⟩ hb
    have HK := hide (isB_not hb)
    clear hb hm
    generalize secG a b c = S at *
    have e2 : (s - 2).tdiv (lenG b c) = (s - 2) / lenG b c := Int.tdiv_eq_ediv_of_nonneg (by omega)
    generalize fstG a b c ((s - 2) / lenG b c) = F at *
    generalize lenG b c = L at *
    have e5 : (L == 0) = false := by simp; omega
    have e6 : ¬ L = 0 := by omega
    go_enter Try.func26, Try.ntmps26
    go_wp2_with (first
      | (with_reducible refine ag_box rfl 24 (.tmp 0) rfl _ 3 rfl rfl (by omega) (i64s_one (geo a b c)) w.heap.size (Nat.le_refl _) ?_; intro w1 hB1 hE1 hz1)
      | (with_reducible refine ag_load rfl 24 _ rfl w.heap.size 3 w.heap.size 24 _ rfl (hB1) agg_geo info_geo ?_)
      | (go_at_call 23; refine (hS _).mono ?_; rintro e w2 ⟨rfl, hE2⟩)
      | (go_at_call 55; refine (Between _ _ _ _).mono ?_; rintro e w3 ⟨rfl, rfl⟩; rw [hd])
      | (with_reducible refine ag_load rfl 24 _ rfl w.heap.size 3 w.heap.size 24 _ rfl (hB1.ext hE2) agg_geo info_geo ?_)
      | (go_at_call 53; refine (hL _).mono ?_; rintro e w4 ⟨rfl, hE4⟩)
      | (with_reducible refine ag_load rfl 24 _ rfl w.heap.size 3 w.heap.size 24 _ rfl (hB1.ext (hE2.trans hE4)) agg_geo info_geo ?_)
      | (go_at_call 10; refine (hF _).mono ?_; rintro e w5 ⟨rfl, hE5⟩))
    go_ret2
    rw [HK.out.1, HK.out.2]
    exact ⟨rfl, hE1.trans (hE2.trans (hE4.trans hE5))⟩

set_option maxRecDepth 100000 in
set_option maxHeartbeats 1000000 in
theorem ref5_OfBlock (a b c s : Int) (w : World) : Calls Try.prog 72 #[.agg (i64s (geo a b c)).toArray, .int .i64 s] w fun e w' => e = .returned (.tuple #[.int .i64 (oblK a b c s), .int .i64 (oblI a b c s)]) ∧ Ext w w' := by
  have hF := fun k w => ref5_First a b c k w
  have hFb := fun k => fstG_bd a b c k
  have HFB := hide hFb
  clear hFb
  by_cases hm : mayG a b c
  case neg =>
    have HK := hide (isB_not (a := a) (b := b) (c := c) (s := s) (fun h => by have h1 := h.2.1; have h2 := h.1; rw [secG_no hm] at h1; omega))
    have hd := decide_eq_false hm
    clear hm
    go_enter Try.func72, Try.ntmps72
    go_wp2_with (with_reducible refine ag_box rfl 24 (.tmp 0) rfl _ 3 rfl rfl (by omega) (i64s_one (geo a b c)) w.heap.size (Nat.le_refl _) ?_; intro w1 hB1 hE1 hz1)
    go_loopw [6] (fun i wr => i = .int .i64 0 ∧ Ext w1 wr) (fun _ _ => 0)
    case atStart => exact ⟨rfl, Ext.refl _⟩
    case round =>
      obtain ⟨rfl, hE⟩ := hrel
      go_wp2_with (first
        | (with_reducible refine ag_load rfl 24 _ rfl w.heap.size 3 w.heap.size 24 _ rfl (hB1.ext hE) agg_geo info_geo ?_)
        | (go_at_call 40; refine (refMay a b c _).mono ?_; rintro e w2 ⟨rfl, hE2⟩; rw [hd]))
      go_ret2
      rw [HK.out.1, HK.out.2]
      exact ⟨rfl, hE1.trans (hE.trans hE2)⟩
  have hd := decide_eq_true hm
  have i1 : 1 ≤ a := by unfold mayG at hm; omega
  have i2 : a ≤ 8 := by unfold mayG at hm; omega
  have i3 : 16 ≤ c := by unfold mayG at hm; omega
  have i4 : c ≤ 96 := by unfold mayG at hm; omega
  have HM := hide hm
  clear hm
  go_enter Try.func72, Try.ntmps72
  go_wp2_with (with_reducible refine ag_box rfl 24 (.tmp 0) rfl _ 3 rfl rfl (by omega) (i64s_one (geo a b c)) w.heap.size (Nat.le_refl _) ?_; intro w1 hB1 hE1 hz1)
  go_loopw [6] (fun i wr => ∃ k : Nat, (k : Int) ≤ a ∧ i = .int .i64 k ∧ Hid (∀ j : Int, 0 ≤ j → j < k → ¬ (fstG a b c j ≤ s ∧ s < fstG a b c j + c)) ∧ Ext w1 wr) (fun i _ => a.toNat - (intOf i).toNat)
  case atStart => exact ⟨0, by omega, rfl, fun j h1 h2 => by omega, Ext.refl _⟩
  case round =>
    obtain ⟨k, hk, rfl, hno, hE⟩ := hrel
    by_cases hlt : a ≤ (k : Int)
    · have hnb : ¬ isB a b c s := by
        intro h
        obtain ⟨j, _, j0, j1, j2, j3⟩ := isB_iff.1 h
        exact hno.out j j0 (by omega) ⟨j2, j3⟩
      have HK := hide (isB_not hnb)
      clear hnb
      go_wp2_with (first
        | (with_reducible refine ag_load rfl 24 _ rfl w.heap.size 3 w.heap.size 24 _ rfl (hB1.ext hE) agg_geo info_geo ?_)
        | (go_at_call 40; refine (refMay a b c _).mono ?_; rintro e w2 ⟨rfl, hE2⟩; rw [hd]; obtain ⟨c0, c1, c2⟩ := Own.geo (hB1.ext (hE.trans hE2))))
      go_ret2
      rw [HK.out.1, HK.out.2]
      exact ⟨rfl, hE1.trans (hE.trans hE2)⟩
    have hlt' : (k : Int) < a := by omega
    have hFk := fun w => hF k w
    obtain ⟨f1, f2⟩ := HFB.out k
    by_cases hs1 : s < fstG a b c k
    · have hst : Hid (∀ j : Int, 0 ≤ j → j < ((k + 1 : Nat) : Int) → ¬ (fstG a b c j ≤ s ∧ s < fstG a b c j + c)) := by
        intro j h1 h2
        by_cases hj : j < k
        · exact hno.out j h1 hj
        · obtain rfl : j = k := by omega
          omega
      clear hno
      generalize fstG a b c k = F at *
      go_wp2_with (first
        | (with_reducible refine ag_load rfl 24 _ rfl w.heap.size 3 w.heap.size 24 _ rfl (hB1.ext hE) agg_geo info_geo ?_)
        | (go_at_call 40; refine (refMay a b c _).mono ?_; rintro e w2 ⟨rfl, hE2⟩; rw [hd]; obtain ⟨c0, c1, c2⟩ := Own.geo (hB1.ext (hE.trans hE2))))
      have d1 : ∀ x : Int, x = F → (x ≤ s) = False := fun x hx => by subst hx; exact eq_false (by omega)
      have d2 : ∀ x : Int, x = F → (s ≥ x) = False := fun x hx => by subst hx; exact eq_false (by omega)
      refine wp_region_held_drew (S := (fun w' => w'.cell? ⟨w.heap.size, 0, none⟩ = some (.int .i64 a) ∧ w'.cell? ⟨w.heap.size, 1, none⟩ = some (.int .i64 b) ∧ w'.cell? ⟨w.heap.size, 2, none⟩ = some (.int .i64 c))) (by kernel_rfl) ⟨c0, c1, c2⟩ (fun hHeld => ?_)
      refine held_take 0 rfl (by kernel_rfl) (by kernel_rfl) (by kernel_rfl) (fun _ _ _ _ h => h) (by rfl) ?_ ?_ (by assumption) ?_
      rotate_left
      · (intro wx hSx; (try dsimp only at hSx); go_simp)
        all_goals with_reducible rfl
      (try simp only [Act.put, List.setIfInBounds_toArray, List.set_cons_zero, List.set_cons_succ])
      refine held_take 1 rfl (by kernel_rfl) (by kernel_rfl) (by kernel_rfl) (fun _ _ _ _ h => h) (by rfl) ?_ ?_ (by assumption) ?_
      rotate_left
      · (intro wx hSx; (try dsimp only at hSx); go_simp)
        all_goals with_reducible rfl
      (try simp only [Act.put, List.setIfInBounds_toArray, List.set_cons_zero, List.set_cons_succ])
      refine held_take 2 rfl (by kernel_rfl) (by kernel_rfl) (by kernel_rfl) (fun _ _ _ _ h => h) (by rfl) ?_ ?_ (by assumption) ?_
      rotate_left
      · (intro wx hSx; (try dsimp only at hSx); go_simp)
        all_goals with_reducible rfl
      (try simp only [Act.put, List.setIfInBounds_toArray, List.set_cons_zero, List.set_cons_succ])
      refine held_call 3 rfl (by kernel_rfl) (fun K hK => ?_)
      go_simp
      go_at_call 51
      refine (hFk _).mono ?_
      rintro e w4 ⟨rfl, hE4⟩
      go_wp2_with fail
      have hE4' := (Ext.drew (Ext.refl w2)).trans hE4
      refine hK.out _ _ ⟨hE4'.cell c0, hE4'.cell c1, hE4'.cell c2⟩ (fun hHeld => ?_)
      clear hK K
      (try simp only [Act.put, List.setIfInBounds_toArray, List.set_cons_zero, List.set_cons_succ])
      refine held_take 4 rfl (by kernel_rfl) (by kernel_rfl) (by kernel_rfl) (fun _ _ _ _ h => h) (by rfl) ?_ ?_ (by assumption) ?_
      rotate_left
      · (intro wx hSx; (try dsimp only at hSx); go_simp)
        all_goals with_reducible rfl
      (try simp only [Act.put, List.setIfInBounds_toArray, List.set_cons_zero, List.set_cons_succ])
      refine held_take 5 rfl (by kernel_rfl) (by kernel_rfl) (by kernel_rfl) (fun _ _ _ _ h => h) (by rfl) ?_ ?_ (by assumption) ?_
      rotate_left
      · (intro wx hSx; (try dsimp only at hSx); go_simp)
        all_goals with_reducible rfl
      (try simp only [Act.put, List.setIfInBounds_toArray, List.set_cons_zero, List.set_cons_succ])
      refine held_skip 6 rfl (by kernel_rfl) (by kernel_rfl) (by kernel_rfl) (fun _ _ _ _ h => h) (by rfl) (by assumption) ?_
      (try simp only [Act.put, List.setIfInBounds_toArray, List.set_cons_zero, List.set_cons_succ])
      refine held_skip 7 rfl (by kernel_rfl) (by kernel_rfl) (by kernel_rfl) (fun _ _ _ _ h => h) (by rfl) (by assumption) ?_
      (try simp only [Act.put, List.setIfInBounds_toArray, List.set_cons_zero, List.set_cons_succ])
      refine held_skip 8 rfl (by kernel_rfl) (by kernel_rfl) (by kernel_rfl) (fun _ _ _ _ h => h) (by rfl) (by assumption) ?_
      (try simp only [Act.put, List.setIfInBounds_toArray, List.set_cons_zero, List.set_cons_succ])
      refine held_skip 9 rfl (by kernel_rfl) (by kernel_rfl) (by kernel_rfl) (fun _ _ _ _ h => h) (by rfl) (by assumption) ?_
      (try simp only [Act.put, List.setIfInBounds_toArray, List.set_cons_zero, List.set_cons_succ])
      refine held_skip 10 rfl (by kernel_rfl) (by kernel_rfl) (by kernel_rfl) (fun _ _ _ _ h => h) (by rfl) (by assumption) ?_
      (try simp only [Act.put, List.setIfInBounds_toArray, List.set_cons_zero, List.set_cons_succ])
      refine held_skip 11 rfl (by kernel_rfl) (by kernel_rfl) (by kernel_rfl) (fun _ _ _ _ h => h) (by rfl) (by assumption) ?_
      (try simp only [Act.put, List.setIfInBounds_toArray, List.set_cons_zero, List.set_cons_succ])
      refine held_skip 12 rfl (by kernel_rfl) (by kernel_rfl) (by kernel_rfl) (fun _ _ _ _ h => h) (by rfl) (by assumption) ?_
      (try simp only [Act.put, List.setIfInBounds_toArray, List.set_cons_zero, List.set_cons_succ])
      refine held_skip 13 rfl (by kernel_rfl) (by kernel_rfl) (by kernel_rfl) (fun _ _ _ _ h => h) (by rfl) (by assumption) ?_
      (try simp only [Act.put, List.setIfInBounds_toArray, List.set_cons_zero, List.set_cons_succ])
      refine held_take 14 rfl (by kernel_rfl) (by kernel_rfl) (by kernel_rfl) (fun _ _ _ _ h => h) (by rfl) ?_ ?_ (by assumption) ?_
      rotate_left
      · (intro wx hSx; (try dsimp only at hSx); go_simp)
        all_goals with_reducible rfl
      (try simp only [Act.put, List.setIfInBounds_toArray, List.set_cons_zero, List.set_cons_succ])
      refine wpAnyH_done (by kernel_rfl) ?_ _
      clear hHeld
      go_wp2
      go_roundw
      case rel => exact ⟨k + 1, by omega, by go_num, hst, hE.trans (hE2.trans hE4')⟩
      case measure => simp [intOf]; omega
    have hs1' : fstG a b c k ≤ s := by omega
    have e1 := wrapI (fstG a b c k + c) (by omega)
    by_cases hs2 : s < fstG a b c k + c
    · have HK := hide (isB_of HM.out (by omega) hlt' hs1' hs2)
      clear hno
      generalize fstG a b c k = F at *
      go_wp2_with (first
        | (with_reducible refine ag_load rfl 24 _ rfl w.heap.size 3 w.heap.size 24 _ rfl (hB1.ext hE) agg_geo info_geo ?_)
        | (go_at_call 40; refine (refMay a b c _).mono ?_; rintro e w2 ⟨rfl, hE2⟩; rw [hd]; obtain ⟨c0, c1, c2⟩ := Own.geo (hB1.ext (hE.trans hE2))))
      go_region_held3 (fun w' => w'.cell? ⟨w.heap.size, 0, none⟩ = some (.int .i64 a) ∧ w'.cell? ⟨w.heap.size, 1, none⟩ = some (.int .i64 b) ∧ w'.cell? ⟨w.heap.size, 2, none⟩ = some (.int .i64 c)) (first | go_keep | (exact ⟨hE4.cell (by assumption), hE4.cell (by assumption), hE4.cell (by assumption)⟩) | (exact ⟨(hE4.trans hE5).cell (by assumption), (hE4.trans hE5).cell (by assumption), (hE4.trans hE5).cell (by assumption)⟩))
        ((go_at_call 51; first | (have hx := hE4; refine (hFk _).mono ?_; rintro e w5 ⟨rfl, hE5⟩) | (refine (hFk _).mono ?_; rintro e w4 ⟨rfl, hE4⟩)))
      have hG5 := (Ext.drew (Ext.refl w2)).trans (hE4.trans hE5)
      clear e1
      go_wp2_with (first
        | (with_reducible refine ag_load rfl 24 _ rfl w.heap.size 3 w.heap.size 24 _ rfl (hB1.ext (hE.trans (hE2.trans hG5))) agg_geo info_geo ?_)
        | (go_at_call 51; refine (hFk _).mono ?_; rintro e w6 ⟨rfl, hE6⟩))
      go_ret2
      rw [HK.out.1, HK.out.2]
      exact ⟨rfl, hE1.trans (hE.trans (hE2.trans (hG5.trans hE6)))⟩
    have hst : Hid (∀ j : Int, 0 ≤ j → j < ((k + 1 : Nat) : Int) → ¬ (fstG a b c j ≤ s ∧ s < fstG a b c j + c)) := by
      intro j h1 h2
      by_cases hj : j < k
      · exact hno.out j h1 hj
      · obtain rfl : j = k := by omega
        omega
    clear hno
    generalize fstG a b c k = F at *
    go_wp2_with (first
      | (with_reducible refine ag_load rfl 24 _ rfl w.heap.size 3 w.heap.size 24 _ rfl (hB1.ext hE) agg_geo info_geo ?_)
      | (go_at_call 40; refine (refMay a b c _).mono ?_; rintro e w2 ⟨rfl, hE2⟩; rw [hd]; obtain ⟨c0, c1, c2⟩ := Own.geo (hB1.ext (hE.trans hE2))))
    go_region_held3 (fun w' => w'.cell? ⟨w.heap.size, 0, none⟩ = some (.int .i64 a) ∧ w'.cell? ⟨w.heap.size, 1, none⟩ = some (.int .i64 b) ∧ w'.cell? ⟨w.heap.size, 2, none⟩ = some (.int .i64 c)) (first | go_keep | (exact ⟨hE4.cell (by assumption), hE4.cell (by assumption), hE4.cell (by assumption)⟩) | (exact ⟨(hE4.trans hE5).cell (by assumption), (hE4.trans hE5).cell (by assumption), (hE4.trans hE5).cell (by assumption)⟩))
      ((go_at_call 51; first | (have hx := hE4; refine (hFk _).mono ?_; rintro e w5 ⟨rfl, hE5⟩) | (refine (hFk _).mono ?_; rintro e w4 ⟨rfl, hE4⟩)))
    have hG5 := (Ext.drew (Ext.refl w2)).trans (hE4.trans hE5)
    clear e1
    go_wp2
    go_roundw
    case rel => exact ⟨k + 1, by omega, by go_num, hst, hE.trans (hE2.trans hG5)⟩
    case measure => simp [intOf]; omega
end Go.Proofs.Ytillhbbeghbfeaa
