/- The statements on where things stand on a disk. -/
import Derived.Test.YthbdnaogjmnagaaGeomW
namespace Go.Proofs.Ythbdnaogjmnagaa
set_option linter.unusedVariables false
open Go.RowKit

theorem geo2 : (secG 2 4 16 = 38 ∧ grpG 2 4 16 1 = 20 ∧ fstG 2 4 16 0 = 4 ∧ inosG 2 4 16 = 8 ∧ blosG 2 4 16 = 32) ∧ (inoS 2 4 16 5 = 21 ∧ inoA 2 4 16 5 = 0 ∧ oblK 2 4 16 22 = 1 ∧ oblI 2 4 16 22 = 0) ∧ decide (mayG 2 4 16) = true := by
  have hm : mayG 2 4 16 := by unfold mayG; omega
  refine ⟨⟨?_, ?_, ?_, ?_, ?_⟩, ⟨?_, ?_, ?_, ?_⟩, decide_eq_true hm⟩
  · rw [secG_yes hm]; unfold lenG; omega
  · rw [grpG_yes hm (by omega) (by omega)]; unfold lenG; omega
  · rw [fstG_yes hm (by omega) (by omega)]; unfold lenG; omega
  · rw [inosG_yes hm]; omega
  · rw [blosG_yes hm]; omega
  · unfold inoS; rw [if_pos (by rw [inosG_yes hm]; omega)]; rw [grpG_yes hm (by omega) (by omega)]; unfold lenG; omega
  · unfold inoA; rw [if_pos (by rw [inosG_yes hm]; omega)]; omega
  · exact (isB_of (k := 1) hm (by omega) (by omega) (by rw [fstG_yes hm (by omega) (by omega)]; unfold lenG; omega) (by rw [fstG_yes hm (by omega) (by omega)]; unfold lenG; omega)).1
  · rw [(isB_of (k := 1) hm (by omega) (by omega) (by rw [fstG_yes hm (by omega) (by omega)]; unfold lenG; omega) (by rw [fstG_yes hm (by omega) (by omega)]; unfold lenG; omega)).2, fstG_yes hm (by omega) (by omega)]; unfold lenG; omega
set_option maxRecDepth 100000 in
set_option maxHeartbeats 1000000 in
theorem law5_awake (w : World) : Calls Try.prog 32 #[] w fun e w' => e = .returned (.bool true) ∧ Ext w w' := by
  obtain ⟨⟨v1, v2, v3, v4, v5⟩, ⟨v6, v7, v8, v9⟩, v10⟩ := geo2
  have x1 := fun w => geom_Sectors 2 4 16 w
  have x2 := fun w => geom_Group 2 4 16 1 w
  have x3 := fun w => geom_First 2 4 16 0 w
  have x4 := fun w => geom_Inodes 2 4 16 w
  have x5 := fun w => geom_Blocks 2 4 16 w
  have x6 := fun w => geom_Inode 2 4 16 5 w (by omega)
  have x8 := fun w => geom_OfBlock 2 4 16 22 w
  have x10 := fun w => May 2 4 16 w
  rw [v1] at x1; rw [v2] at x2; rw [v3] at x3; rw [v4] at x4; rw [v5] at x5; rw [v6, v7] at x6; rw [v8, v9] at x8; rw [v10] at x10
  clear v1 v2 v3 v4 v5 v6 v7 v8 v9 v10
  have hF := Ext.refl w
  go_enter Try.func32, Try.ntmps32
  go_wp2_with (first
    | (with_reducible refine ag_alloc (o := ⟨some 1, _, _, _, _, _⟩) rfl 23 rfl _ 3 zero_geo rfl (by omega) (i64s_one _) w.heap.size (Nat.le_refl _) ?_; intro w1 hR1 hE1 hz1)
    | (with_reducible refine ag_store (o := ⟨none, _, _, _, _, _⟩) rfl 23 (.tmp 1) (.tmp 6) rfl w.heap.size 3 w.heap.size 23 _ (i64s (geo 2 4 16)) rfl (by kernel_rfl) hR1 rfl (i64s_one _) info_geo ?_; intro w2 hB hG2
       replace hF : Ext w w2 := hE1.grown hG2 (by simp))
    | (with_reducible refine ag_load rfl 23 _ rfl w.heap.size 3 w.heap.size 23 _ rfl hB agg_geo info_geo ?_)
    | (go_at_call 14; refine (x6 _).mono ?_; rintro e w' ⟨rfl, hE⟩; replace hB := hB.ext hE; replace hF := hF.trans hE; clear hE)
    | (go_at_call 18; refine (x8 _).mono ?_; rintro e w' ⟨rfl, hE⟩; replace hB := hB.ext hE; replace hF := hF.trans hE; clear hE)
    | (go_at_call 22; refine (x1 _).mono ?_; rintro e w' ⟨rfl, hE⟩; replace hB := hB.ext hE; replace hF := hF.trans hE; clear hE)
    | (go_at_call 20; refine (x10 _).mono ?_; rintro e w' ⟨rfl, hE⟩; replace hB := hB.ext hE; replace hF := hF.trans hE; clear hE)
    | (go_at_call 28; refine (x2 _).mono ?_; rintro e w' ⟨rfl, hE⟩; replace hB := hB.ext hE; replace hF := hF.trans hE; clear hE)
    | (go_at_call 30; refine (x3 _).mono ?_; rintro e w' ⟨rfl, hE⟩; replace hB := hB.ext hE; replace hF := hF.trans hE; clear hE)
    | (go_at_call 24; refine (x4 _).mono ?_; rintro e w' ⟨rfl, hE⟩; replace hB := hB.ext hE; replace hF := hF.trans hE; clear hE)
    | (go_at_call 26; refine (x5 _).mono ?_; rintro e w' ⟨rfl, hE⟩; replace hB := hB.ext hE; replace hF := hF.trans hE; clear hE))
  go_ret
  exact ⟨rfl, hF⟩

set_option maxRecDepth 100000 in
set_option maxHeartbeats 2000000 in
theorem law_GeomTells (w : World) (ps : List Int) (hl : ps.length = 3) (_hp : ∀ p ∈ ps, -9223372036854775808 ≤ p ∧ p ≤ 9223372036854775807) (k : Int) (_k1 : -9223372036854775808 ≤ k) (_k2 : k ≤ 9223372036854775807) (n : Int) (hn : -9223372036854775808 ≤ n) (_n2 : n ≤ 9223372036854775807)
    (s : Int) (_s1 : -9223372036854775808 ≤ s) (_s2 : s ≤ 9223372036854775807) :
    Calls Try.prog 3 #[.agg (i64s ps).toArray, .int .i64 k, .int .i64 n, .int .i64 s] w fun e w' => e = .returned (.bool true) ∧ Ext w w' := by
  obtain ⟨a, b, c, rfl⟩ := geo_of hl
  clear _hp hl _k1 _k2 _n2 _s1 _s2
  have hF := Ext.refl w
  go_enter Try.func3, Try.ntmps3
  go_wp2_with (first
    | (with_reducible refine ag_box rfl 23 (.tmp 0) rfl _ 3 rfl rfl (by omega) (i64s_one (geo a b c)) w.heap.size (Nat.le_refl _) ?_; intro w1 hB hE1 hz1; replace hF := hF.trans hE1)
    | (with_reducible refine ag_load rfl 23 _ rfl w.heap.size 3 w.heap.size 23 _ rfl hB agg_geo info_geo ?_)
    | (go_at_call 14; refine (geom_Inode a b c n _ hn).mono ?_; rintro e w' ⟨rfl, hE⟩; replace hB := hB.ext hE; replace hF := hF.trans hE; clear hE)
    | (go_at_call 16; refine (geom_OfInode a b c n _ hn).mono ?_; rintro e w' ⟨rfl, hE⟩; replace hB := hB.ext hE; replace hF := hF.trans hE; clear hE)
    | (go_at_call 18; refine (geom_OfBlock a b c s _).mono ?_; rintro e w' ⟨rfl, hE⟩; replace hB := hB.ext hE; replace hF := hF.trans hE; clear hE)
    | (go_at_call 22; refine (geom_Sectors a b c _).mono ?_; rintro e w' ⟨rfl, hE⟩; replace hB := hB.ext hE; replace hF := hF.trans hE; clear hE)
    | (go_at_call 24; refine (geom_Inodes a b c _).mono ?_; rintro e w' ⟨rfl, hE⟩; replace hB := hB.ext hE; replace hF := hF.trans hE; clear hE)
    | (go_at_call 26; refine (geom_Blocks a b c _).mono ?_; rintro e w' ⟨rfl, hE⟩; replace hB := hB.ext hE; replace hF := hF.trans hE; clear hE)
    | (go_at_call 28; refine (geom_Group a b c k _).mono ?_; rintro e w' ⟨rfl, hE⟩; replace hB := hB.ext hE; replace hF := hF.trans hE; clear hE)
    | (go_at_call 30; refine (geom_First a b c k _).mono ?_; rintro e w' ⟨rfl, hE⟩; replace hB := hB.ext hE; replace hF := hF.trans hE; clear hE)
    | (go_at_call 20; refine (May a b c _).mono ?_; rintro e w' ⟨rfl, hE⟩; replace hB := hB.ext hE; replace hF := hF.trans hE; clear hE)
    | (go_at_call 15; refine (ref5_Inode a b c n _ hn).mono ?_; rintro e w' ⟨rfl, hE⟩; replace hB := hB.ext hE; replace hF := hF.trans hE; clear hE)
    | (go_at_call 17; refine (ref5_OfInode a b c n _ hn).mono ?_; rintro e w' ⟨rfl, hE⟩; replace hB := hB.ext hE; replace hF := hF.trans hE; clear hE)
    | (go_at_call 19; refine (ref5_OfBlock a b c s _).mono ?_; rintro e w' ⟨rfl, hE⟩; replace hB := hB.ext hE; replace hF := hF.trans hE; clear hE)
    | (go_at_call 23; refine (ref5_Sectors a b c _).mono ?_; rintro e w' ⟨rfl, hE⟩; replace hB := hB.ext hE; replace hF := hF.trans hE; clear hE)
    | (go_at_call 25; refine (ref5_Inodes a b c _).mono ?_; rintro e w' ⟨rfl, hE⟩; replace hB := hB.ext hE; replace hF := hF.trans hE; clear hE)
    | (go_at_call 27; refine (ref5_Blocks a b c _).mono ?_; rintro e w' ⟨rfl, hE⟩; replace hB := hB.ext hE; replace hF := hF.trans hE; clear hE)
    | (go_at_call 29; refine (ref5_Group a b c k _).mono ?_; rintro e w' ⟨rfl, hE⟩; replace hB := hB.ext hE; replace hF := hF.trans hE; clear hE)
    | (go_at_call 31; refine (ref5_First a b c k _).mono ?_; rintro e w' ⟨rfl, hE⟩; replace hB := hB.ext hE; replace hF := hF.trans hE; clear hE)
    | (go_at_call 21; refine (refMay a b c _).mono ?_; rintro e w' ⟨rfl, hE⟩; replace hB := hB.ext hE; replace hF := hF.trans hE; clear hE))
  obtain ⟨c0, c1, c2⟩ := Own.geo hB
  have hC0 := (Ext.drew (Ext.refl _)).cell c0
  have hC1 := (Ext.drew (Ext.refl _)).cell c1
  have hC2 := (Ext.drew (Ext.refl _)).cell c2
  replace hF := hF.trans (Ext.drew (Ext.refl _))
  clear hB
  simp only [List.append_eq, List.cons_append, List.nil_append]
  go_region_held3 (fun w' => w'.cell? ⟨w.heap.size, 0, none⟩ = some (.int .i64 a) ∧ w'.cell? ⟨w.heap.size, 1, none⟩ = some (.int .i64 b) ∧ w'.cell? ⟨w.heap.size, 2, none⟩ = some (.int .i64 c)) (exact ⟨hC0, hC1, hC2⟩) (first
    | (go_at_call 22; refine (geom_Sectors a b c _).mono ?_; rintro e w' ⟨rfl, hE⟩; replace hC0 := hE.cell hC0; replace hC1 := hE.cell hC1; replace hC2 := hE.cell hC2; replace hF := hF.trans hE; clear hE)
    | (go_at_call 24; refine (geom_Inodes a b c _).mono ?_; rintro e w' ⟨rfl, hE⟩; replace hC0 := hE.cell hC0; replace hC1 := hE.cell hC1; replace hC2 := hE.cell hC2; replace hF := hF.trans hE; clear hE)
    | (go_at_call 26; refine (geom_Blocks a b c _).mono ?_; rintro e w' ⟨rfl, hE⟩; replace hC0 := hE.cell hC0; replace hC1 := hE.cell hC1; replace hC2 := hE.cell hC2; replace hF := hF.trans hE; clear hE)
    | (go_at_call 28; refine (geom_Group a b c k _).mono ?_; rintro e w' ⟨rfl, hE⟩; replace hC0 := hE.cell hC0; replace hC1 := hE.cell hC1; replace hC2 := hE.cell hC2; replace hF := hF.trans hE; clear hE)
    | (go_at_call 30; refine (geom_First a b c k _).mono ?_; rintro e w' ⟨rfl, hE⟩; replace hC0 := hE.cell hC0; replace hC1 := hE.cell hC1; replace hC2 := hE.cell hC2; replace hF := hF.trans hE; clear hE)
    | (go_at_call 20; refine (May a b c _).mono ?_; rintro e w' ⟨rfl, hE⟩; replace hC0 := hE.cell hC0; replace hC1 := hE.cell hC1; replace hC2 := hE.cell hC2; replace hF := hF.trans hE; clear hE)
    | (go_at_call 23; refine (ref5_Sectors a b c _).mono ?_; rintro e w' ⟨rfl, hE⟩; replace hC0 := hE.cell hC0; replace hC1 := hE.cell hC1; replace hC2 := hE.cell hC2; replace hF := hF.trans hE; clear hE)
    | (go_at_call 25; refine (ref5_Inodes a b c _).mono ?_; rintro e w' ⟨rfl, hE⟩; replace hC0 := hE.cell hC0; replace hC1 := hE.cell hC1; replace hC2 := hE.cell hC2; replace hF := hF.trans hE; clear hE)
    | (go_at_call 27; refine (ref5_Blocks a b c _).mono ?_; rintro e w' ⟨rfl, hE⟩; replace hC0 := hE.cell hC0; replace hC1 := hE.cell hC1; replace hC2 := hE.cell hC2; replace hF := hF.trans hE; clear hE)
    | (go_at_call 29; refine (ref5_Group a b c k _).mono ?_; rintro e w' ⟨rfl, hE⟩; replace hC0 := hE.cell hC0; replace hC1 := hE.cell hC1; replace hC2 := hE.cell hC2; replace hF := hF.trans hE; clear hE)
    | (go_at_call 31; refine (ref5_First a b c k _).mono ?_; rintro e w' ⟨rfl, hE⟩; replace hC0 := hE.cell hC0; replace hC1 := hE.cell hC1; replace hC2 := hE.cell hC2; replace hF := hF.trans hE; clear hE)
    | (go_at_call 21; refine (refMay a b c _).mono ?_; rintro e w' ⟨rfl, hE⟩; replace hC0 := hE.cell hC0; replace hC1 := hE.cell hC1; replace hC2 := hE.cell hC2; replace hF := hF.trans hE; clear hE)
    | (go_at_call 32; refine (law5_awake _).mono ?_; rintro e w' ⟨rfl, hE⟩; replace hC0 := hE.cell hC0; replace hC1 := hE.cell hC1; replace hC2 := hE.cell hC2; replace hF := hF.trans hE; clear hE))
  go_wp2
  go_ret
  exact ⟨rfl, hF⟩
end Go.Proofs.Ythbdnaogjmnagaa
