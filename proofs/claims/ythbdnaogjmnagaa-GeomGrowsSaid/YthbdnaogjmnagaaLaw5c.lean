/- The third statement on where things stand on a disk. -/
import Derived.Test.YthbdnaogjmnagaaLaw5
import Derived.Test.YthbdnaogjmnagaaApart
import Derived.Deep.DeepCutAuto
namespace Go.Proofs.Ythbdnaogjmnagaa
set_option linter.unusedVariables false
open Go.RowKit

theorem boxG (w : World) (B : Nat) (hB : B ≤ w.heap.size) (h : Nat) (hh : h = w.heap.size) (a b c : Int) :
    Own (w.alloc (.cells #[.int .i64 a, .int .i64 b, .int .i64 c] 23)) B 23 (some ⟨h, 0, none⟩) 3 3 (i64s (geo a b c)) := by
  subst hh
  exact Own.made hB #[.int .i64 a, .int .i64 b, .int .i64 c] 3 (by simp [maxLen]) (Nat.le_refl _) rfl (by simp [Value.oneCell'])
theorem boxG3 (w : World) (h : Nat) (hz : w.heap.size = h + 1) (a b c : Int) (w3 : World)
    (hw : w3 = (((w.alloc (.cells #[.int .i64 a, .int .i64 b, .int .i64 c] 23)).alloc (.cells #[.int .i64 a, .int .i64 b, .int .i64 c] 23)).alloc (.cells #[.int .i64 a, .int .i64 b, .int .i64 c] 23)).drew) :
    Own w3 h 23 (some ⟨h + 1, 0, none⟩) 3 3 (i64s (geo a b c)) ∧ Own w3 h 23 (some ⟨h + 1 + 1, 0, none⟩) 3 3 (i64s (geo a b c)) ∧
    Own w3 h 23 (some ⟨h + 1 + 1 + 1, 0, none⟩) 3 3 (i64s (geo a b c)) ∧ Ext w w3 := by
  subst hw
  refine ⟨?_, ?_, ?_, (((Ext.refl w).alloc _).alloc _).alloc _ |>.drew⟩
  · exact (boxG w h (by omega) _ hz.symm a b c).ext ((((Ext.refl _).alloc _).alloc _).drew)
  · exact (boxG (w.alloc _) h (by simp; omega) _ (by simp; omega) a b c).ext (((Ext.refl _).alloc _).drew)
  · exact (boxG ((w.alloc _).alloc _) h (by simp; omega) _ (by simp; omega) a b c).ext ((Ext.refl _).drew)
structure GrowsG (a b c n : Int) : Prop where
  wide : secG a b (c + 1) = secG a b c + a
  many : secG a (b + 4) c = secG a b c + a
  tall : secG (a + 1) b c = secG a b c + (fstG a b c 0 - 2 + c)
  grp : grpG (a + 1) b c a = secG a b c
  ts : inoS (a + 1) b c n = inoS a b c n
  ta : inoA (a + 1) b c n = inoA a b c n
  ws : inoS a b (c + 1) n = inoS a b c n
  wa : inoA a b (c + 1) n = inoA a b c n
  inos : inosG (a + 1) b c = inosG a b c + b
  blos : blosG a b (c + 1) = blosG a b c + a
theorem growsG {a b c n : Int} (ha : 1 ≤ a ∧ a ≤ 7) (hb : 4 ≤ b ∧ b ≤ 28 ∧ b % 4 = 0) (hc : 16 ≤ c ∧ c ≤ 95) (hn : 1 ≤ n ∧ n ≤ b) : GrowsG a b c n := by
  have m0 : mayG a b c := by unfold mayG; omega
  have m1 : mayG a b (c + 1) := by unfold mayG; omega
  have m2 : mayG a (b + 4) c := by unfold mayG; omega
  have m3 : mayG (a + 1) b c := by unfold mayG; omega
  have q0 : (n - 1) / b = 0 := Int.ediv_eq_zero_of_lt (by omega) (by omega)
  have hin : ∀ k : Int, 1 ≤ k → b ≤ k * b := fun k hk => by
    have := Int.mul_le_mul_of_nonneg_right hk (show 0 ≤ b by omega)
    omega
  have i0 : 1 ≤ n ∧ n ≤ inosG a b c := by rw [inosG_yes m0]; have := hin a ha.1; omega
  have i1 : 1 ≤ n ∧ n ≤ inosG a b (c + 1) := by rw [inosG_yes m1]; have := hin a ha.1; omega
  have i3 : 1 ≤ n ∧ n ≤ inosG (a + 1) b c := by rw [inosG_yes m3]; have := hin (a + 1) (by omega); omega
  refine ⟨?_, ?_, ?_, ?_, ?_, ?_, ?_, ?_, ?_, ?_⟩
  · rw [secG_yes m0, secG_yes m1]; unfold lenG; simp only [Int.mul_add]; omega
  · rw [secG_yes m0, secG_yes m2]; unfold lenG; rw [show (b + 4) / 4 = b / 4 + 1 from by omega]; simp only [Int.mul_add]; omega
  · rw [secG_yes m0, secG_yes m3, fstG_yes m0 (by omega) (by omega)]; unfold lenG; rw [Int.add_mul]; omega
  · rw [secG_yes m0, grpG_yes m3 (by omega) (by omega)]
  · unfold inoS; rw [if_pos i3, if_pos i0, q0, grpG_yes m3 (by omega) (by omega), grpG_yes m0 (by omega) (by omega)]
  · unfold inoA; rw [if_pos i3, if_pos i0]
  · unfold inoS; rw [if_pos i1, if_pos i0, q0, grpG_yes m1 (by omega) (by omega), grpG_yes m0 (by omega) (by omega)]; omega
  · unfold inoA; rw [if_pos i1, if_pos i0]
  · rw [inosG_yes m0, inosG_yes m3, Int.add_mul]; omega
  · rw [blosG_yes m0, blosG_yes m1, Int.mul_add]; omega

set_option maxRecDepth 100000 in
set_option maxHeartbeats 4000000 in
theorem law_GeomGrows (w : World) (x : Int) (_x1 : -9223372036854775808 ≤ x) (_x2 : x ≤ 9223372036854775807) (y : Int) (_y1 : -9223372036854775808 ≤ y) (_y2 : y ≤ 9223372036854775807) (z : Int) (_z1 : -9223372036854775808 ≤ z) (_z2 : z ≤ 9223372036854775807) (u : Int) (_u1 : -9223372036854775808 ≤ u) (_u2 : u ≤ 9223372036854775807) :
    Calls Try.prog 5 #[.int .i64 x, .int .i64 y, .int .i64 z, .int .i64 u] w fun e w' => e = .returned (.bool true) ∧ Ext w w' := by
  clear _x1 _x2 _y1 _y2 _z1 _z2 _u1 _u2
  go_enter Try.func5, Try.ntmps5
  go_wp2_with fail
  refine (Low x _ 7 _ rfl (by omega) (by omega)).mono ?_
  rintro e w1 ⟨rfl, rfl⟩
  have hp := low_lt x (n := 7) (by omega)
  generalize low x 7 = p at *
  go_wp2_with fail
  refine (Low y _ 7 _ rfl (by omega) (by omega)).mono ?_
  rintro e w1 ⟨rfl, rfl⟩
  have hq := low_lt y (n := 7) (by omega)
  generalize low y 7 = q at *
  go_wp2_with fail
  refine (Low z _ 80 _ rfl (by omega) (by omega)).mono ?_
  rintro e w1 ⟨rfl, rfl⟩
  have hr := low_lt z (n := 80) (by omega)
  generalize low z 80 = r at *
  go_upto_region 2 with fail
  generalize hP : (1 : Int) + (p : Int) = a at *
  generalize hQ : (4 : Int) + 4 * (q : Int) = b at *
  generalize hR : (16 : Int) + (r : Int) = c at *
  have bd : (1 ≤ a ∧ a ≤ 7) ∧ (4 ≤ b ∧ b ≤ 28 ∧ b % 4 = 0) ∧ (16 ≤ c ∧ c ≤ 95) := by omega
  clear hP hQ hR hp hq hr
  have hB0 : Own (w.alloc (.cells #[.int .i64 a, .int .i64 b, .int .i64 c] 23)) w.heap.size 23 (some ⟨w.heap.size, 0, none⟩) 3 3 (i64s (geo a b c)) :=
    Own.made (Nat.le_refl _) #[.int .i64 a, .int .i64 b, .int .i64 c] 3 (by simp [maxLen]) (Nat.le_refl _) rfl (by simp [Value.oneCell'])
  have hE0 : Ext w (w.alloc (.cells #[.int .i64 a, .int .i64 b, .int .i64 c] 23)) := (Ext.refl w).alloc _
  have hz0 : (w.alloc (.cells #[.int .i64 a, .int .i64 b, .int .i64 c] 23)).heap.size = w.heap.size + 1 := by simp
  generalize w.alloc (.cells #[.int .i64 a, .int .i64 b, .int .i64 c] 23) = w0 at *
  go_cut [10, 11, 12] (fun s t v wc => ∃ g1 g2 g3 : Nat, s = .pointer (some ⟨g1, 0, none⟩) ∧ t = .pointer (some ⟨g2, 0, none⟩) ∧ v = .pointer (some ⟨g3, 0, none⟩) ∧
    Own wc w.heap.size 23 (some ⟨w.heap.size, 0, none⟩) 3 3 (i64s (geo a b c)) ∧ Own wc w.heap.size 23 (some ⟨g1, 0, none⟩) 3 3 (i64s (geo a b c)) ∧
    Own wc w.heap.size 23 (some ⟨g2, 0, none⟩) 3 3 (i64s (geo a b c)) ∧ Own wc w.heap.size 23 (some ⟨g3, 0, none⟩) 3 3 (i64s (geo a b c)) ∧
    (w.heap.size < g1 ∧ w.heap.size < g2 ∧ w.heap.size < g3 ∧ g1 ≠ g2 ∧ g1 ≠ g3 ∧ g2 ≠ g3) ∧ Ext w wc)
  case first =>
    obtain ⟨c0, c1, c2⟩ := Own.geo hB0
    have hW := boxG3 w0 w.heap.size hz0 a b c _ rfl
    obtain ⟨k1, k2, k3, k4⟩ := hW
    have k0 := hB0.ext k4
    have kE := hE0.trans k4
    go_region
    all_goals
      go_wp2_with fail
      go_meet
      exact ⟨_, _, _, rfl, rfl, rfl, k0, by assumption, by assumption, by assumption, by omega, kE⟩
  case rest =>
    obtain ⟨g1, g2, g3, rfl, rfl, rfl, o0, o1, o2, o3, ⟨d1, d2, d3, d4, d5, d6⟩, hE⟩ := hcut
    obtain ⟨⟨a1, a2⟩, ⟨b1, b2, b3⟩, ci1, ci2⟩ := bd
    obtain ⟨e0, e1, e2⟩ := Own.geo o1
    have fz := o1.frozenAt 2
    go_upto_region 4 with fail
    have n_o1 : Own (wc.setCell ⟨g1, 2, none⟩ (.int .i64 (c + 1))) w.heap.size 23 (some ⟨g1, 0, none⟩) 3 3 (i64s (geo a b (c + 1))) := o1.store 2 (.int .i64 (c + 1)) rfl
    have n_o0 := o0.other (g := g1) (by omega) 2 (.int .i64 (c + 1))
    have n_o2 := o2.other (g := g1) (by omega) 2 (.int .i64 (c + 1))
    have n_o3 := o3.other (g := g1) (by omega) 2 (.int .i64 (c + 1))
    have n_E := hE.setCell (p := ⟨g1, 2, none⟩) (o1.block g1 rfl).1 (.int .i64 (c + 1))
    clear e0 e1 e2 fz o0 o1 o2 o3 hE
    generalize wc.setCell ⟨g1, 2, none⟩ (.int .i64 (c + 1)) = wd at *
    obtain ⟨o0, o1, o2, o3, hE⟩ := And.intro n_o0 (And.intro n_o1 (And.intro n_o2 (And.intro n_o3 n_E)))
    clear n_o0 n_o1 n_o2 n_o3 n_E
    obtain ⟨e0, e1, e2⟩ := Own.geo o2
    have fz := o2.frozenAt 1
    go_upto_region 5 with fail
    have n_o2 : Own (wd.setCell ⟨g2, 1, none⟩ (.int .i64 (b + 4))) w.heap.size 23 (some ⟨g2, 0, none⟩) 3 3 (i64s (geo a (b + 4) c)) := o2.store 1 (.int .i64 (b + 4)) rfl
    have n_o0 := o0.other (g := g2) (by omega) 1 (.int .i64 (b + 4))
    have n_o1 := o1.other (g := g2) (by omega) 1 (.int .i64 (b + 4))
    have n_o3 := o3.other (g := g2) (by omega) 1 (.int .i64 (b + 4))
    have n_E := hE.setCell (p := ⟨g2, 1, none⟩) (o2.block g2 rfl).1 (.int .i64 (b + 4))
    clear e0 e1 e2 fz o0 o1 o2 o3 hE
    generalize wd.setCell ⟨g2, 1, none⟩ (.int .i64 (b + 4)) = we at *
    obtain ⟨o0, o1, o2, o3, hE⟩ := And.intro n_o0 (And.intro n_o1 (And.intro n_o2 (And.intro n_o3 n_E)))
    clear n_o0 n_o1 n_o2 n_o3 n_E
    obtain ⟨e0, e1, e2⟩ := Own.geo o3
    have fz := o3.frozenAt 0
    go_upto_region 6 with fail
    have n_o3 : Own (we.setCell ⟨g3, 0, none⟩ (.int .i64 (a + 1))) w.heap.size 23 (some ⟨g3, 0, none⟩) 3 3 (i64s (geo (a + 1) b c)) := o3.store 0 (.int .i64 (a + 1)) rfl
    have n_o0 := o0.other (g := g3) (by omega) 0 (.int .i64 (a + 1))
    have n_o1 := o1.other (g := g3) (by omega) 0 (.int .i64 (a + 1))
    have n_o2 := o2.other (g := g3) (by omega) 0 (.int .i64 (a + 1))
    have n_E := hE.setCell (p := ⟨g3, 0, none⟩) (o3.block g3 rfl).1 (.int .i64 (a + 1))
    clear e0 e1 e2 fz o0 o1 o2 o3 hE
    generalize we.setCell ⟨g3, 0, none⟩ (.int .i64 (a + 1)) = wf at *
    obtain ⟨o0, o1, o2, o3, hE⟩ := And.intro n_o0 (And.intro n_o1 (And.intro n_o2 (And.intro n_o3 n_E)))
    clear n_o0 n_o1 n_o2 n_o3 n_E
    obtain ⟨e0, e1, e2⟩ := Own.geo o0
    go_wp2_with fail
    refine (Low u b b.toNat _ (by omega) (by omega) (by omega)).mono ?_
    rintro e w1 ⟨rfl, rfl⟩
    have hn := low_lt u (n := b.toNat) (by omega)
    generalize low u b.toNat = v at *
    clear e0 e1 e2
    have hG := growsG ⟨a1, a2⟩ ⟨b1, b2, b3⟩ ⟨ci1, ci2⟩ (show 1 ≤ 1 + (v : Int) ∧ 1 + (v : Int) ≤ b by omega)
    have x0 := fun w => geom_Inode a b c (1 + (v : Int)) w (by omega)
    have x3 := fun w => geom_Inode (a + 1) b c (1 + (v : Int)) w (by omega)
    have x1 := fun w => geom_Inode a b (c + 1) (1 + (v : Int)) w (by omega)
    rw [hG.ts, hG.ta] at x3
    rw [hG.ws, hG.wa] at x1
    have s0 := fun w => geom_Sectors a b c w
    have s1 := fun w => geom_Sectors a b (c + 1) w
    have s2 := fun w => geom_Sectors a (b + 4) c w
    have s3 := fun w => geom_Sectors (a + 1) b c w
    have f0 := fun w => geom_First a b c 0 w
    have g3' := fun w => geom_Group (a + 1) b c a w
    have i0 := fun w => geom_Inodes a b c w
    have i3 := fun w => geom_Inodes (a + 1) b c w
    have l0 := fun w => geom_Blocks a b c w
    have l1 := fun w => geom_Blocks a b (c + 1) w
    rw [hG.wide] at s1
    rw [hG.many] at s2
    rw [hG.tall] at s3
    rw [hG.grp] at g3'
    rw [hG.inos] at i3
    rw [hG.blos] at l1
    have bs := secG_bd a b c
    have bf := fstG_bd a b c 0
    have bi := inosG_bd a b c
    have bl := blosG_bd a b c
    clear hG
    generalize secG a b c = S at *
    generalize fstG a b c 0 = F at *
    generalize inosG a b c = I at *
    generalize blosG a b c = L at *
    generalize inoS a b c (1 + (v : Int)) = J at *
    generalize inoA a b c (1 + (v : Int)) = K at *
    obtain ⟨⟨bs1, bs2⟩, ⟨bf1, bf2⟩, ⟨bi1, bi2⟩, bl1, bl2⟩ := And.intro bs (And.intro bf (And.intro bi bl))
    have t1 : (S + (F - 2 + c) - S == F - 2 + c) = true := by simp; omega
    go_upto_region 10 with (first
      | (with_reducible refine ag_load rfl 23 (.tmp 9) rfl w.heap.size 3 w.heap.size 23 _ rfl o0 agg_geo info_geo ?_)
      | (with_reducible refine ag_load rfl 23 (.tmp 12) rfl g3 3 w.heap.size 23 _ rfl o3 agg_geo info_geo ?_)
      | (with_reducible refine ag_load rfl 23 (.tmp 10) rfl g1 3 w.heap.size 23 _ rfl o1 agg_geo info_geo ?_)
      | (go_at_call 14; (with_reducible refine (x0 _).mono ?_); rintro e w' ⟨rfl, hE'⟩; replace o0 := o0.ext hE'; replace o1 := o1.ext hE'; replace o2 := o2.ext hE'; replace o3 := o3.ext hE'; replace hE := hE.trans hE'; clear hE')
      | (go_at_call 14; (with_reducible refine (x3 _).mono ?_); rintro e w' ⟨rfl, hE'⟩; replace o0 := o0.ext hE'; replace o1 := o1.ext hE'; replace o2 := o2.ext hE'; replace o3 := o3.ext hE'; replace hE := hE.trans hE'; clear hE')
      | (go_at_call 14; (with_reducible refine (x1 _).mono ?_); rintro e w' ⟨rfl, hE'⟩; replace o0 := o0.ext hE'; replace o1 := o1.ext hE'; replace o2 := o2.ext hE'; replace o3 := o3.ext hE'; replace hE := hE.trans hE'; clear hE'))
    have e1 := wrapI (S + a) (by omega)
    have e2 := wrapI (S + (F - 2 + c) - S) (by omega)
    have e3 := wrapI (F - 2) (by omega)
    have e4 := wrapI (F - 2 + c) (by omega)
    have e5 := wrapI (I + b) (by omega)
    have e6 := wrapI (L + a) (by omega)
    replace s1 : ∀ w, Calls Try.prog 22 #[.agg #[.int .i64 a, .int .i64 b, .int .i64 (c + 1)]] w fun e w' => e = .returned (.int .i64 (S + a)) ∧ Ext w w' := s1
    replace s2 : ∀ w, Calls Try.prog 22 #[.agg #[.int .i64 a, .int .i64 (b + 4), .int .i64 c]] w fun e w' => e = .returned (.int .i64 (S + a)) ∧ Ext w w' := s2
    replace s3 : ∀ w, Calls Try.prog 22 #[.agg #[.int .i64 (a + 1), .int .i64 b, .int .i64 c]] w fun e w' => e = .returned (.int .i64 (S + (F - 2 + c))) ∧ Ext w w' := s3
    replace f0 : ∀ w, Calls Try.prog 30 #[.agg #[.int .i64 a, .int .i64 b, .int .i64 c], .int .i64 0] w fun e w' => e = .returned (.int .i64 (F)) ∧ Ext w w' := f0
    replace g3' : ∀ w, Calls Try.prog 28 #[.agg #[.int .i64 (a + 1), .int .i64 b, .int .i64 c], .int .i64 a] w fun e w' => e = .returned (.int .i64 (S)) ∧ Ext w w' := g3'
    replace i0 : ∀ w, Calls Try.prog 24 #[.agg #[.int .i64 a, .int .i64 b, .int .i64 c]] w fun e w' => e = .returned (.int .i64 (I)) ∧ Ext w w' := i0
    replace i3 : ∀ w, Calls Try.prog 24 #[.agg #[.int .i64 (a + 1), .int .i64 b, .int .i64 c]] w fun e w' => e = .returned (.int .i64 (I + b)) ∧ Ext w w' := i3
    replace l0 : ∀ w, Calls Try.prog 26 #[.agg #[.int .i64 a, .int .i64 b, .int .i64 c]] w fun e w' => e = .returned (.int .i64 (L)) ∧ Ext w w' := l0
    replace l1 : ∀ w, Calls Try.prog 26 #[.agg #[.int .i64 a, .int .i64 b, .int .i64 (c + 1)]] w fun e w' => e = .returned (.int .i64 (L + a)) ∧ Ext w w' := l1
    clear x0 x1 x3 bs bf bi bl hn
    go_wp2_with (first
      | (with_reducible refine ag_load rfl 23 (.tmp 9) rfl w.heap.size 3 w.heap.size 23 _ rfl o0 agg_geo info_geo ?_)
      | (go_at_call 22; (with_reducible refine (s0 _).mono ?_); rintro e w' ⟨rfl, hE'⟩; replace o0 := o0.ext hE'; replace o1 := o1.ext hE'; replace o2 := o2.ext hE'; replace o3 := o3.ext hE'; replace hE := hE.trans hE'; clear hE'))
    replace o0 := o0.ext (Ext.refl _).drew
    replace o1 := o1.ext (Ext.refl _).drew
    replace o2 := o2.ext (Ext.refl _).drew
    replace o3 := o3.ext (Ext.refl _).drew
    replace hE := hE.drew
    simp only [List.append_eq, List.cons_append, List.nil_append]
    go_region_held3 (fun w' => w'.cell? ⟨w.heap.size, 0, none⟩ = some (.int .i64 (a)) ∧ w'.cell? ⟨w.heap.size, 1, none⟩ = some (.int .i64 (b)) ∧ w'.cell? ⟨w.heap.size, 2, none⟩ = some (.int .i64 (c)) ∧ w'.cell? ⟨g1, 0, none⟩ = some (.int .i64 (a)) ∧ w'.cell? ⟨g1, 1, none⟩ = some (.int .i64 (b)) ∧ w'.cell? ⟨g1, 2, none⟩ = some (.int .i64 (c + 1)) ∧ w'.cell? ⟨g2, 0, none⟩ = some (.int .i64 (a)) ∧ w'.cell? ⟨g2, 1, none⟩ = some (.int .i64 (b + 4)) ∧ w'.cell? ⟨g2, 2, none⟩ = some (.int .i64 (c)) ∧ w'.cell? ⟨g3, 0, none⟩ = some (.int .i64 (a + 1)) ∧ w'.cell? ⟨g3, 1, none⟩ = some (.int .i64 (b)) ∧ w'.cell? ⟨g3, 2, none⟩ = some (.int .i64 (c))) (exact ⟨(Own.geo o0).1, (Own.geo o0).2.1, (Own.geo o0).2.2, (Own.geo o1).1, (Own.geo o1).2.1, (Own.geo o1).2.2, (Own.geo o2).1, (Own.geo o2).2.1, (Own.geo o2).2.2, (Own.geo o3).1, (Own.geo o3).2.1, (Own.geo o3).2.2⟩) (first
      | (go_at_call 22; (with_reducible refine (s1 _).mono ?_); rintro e w' ⟨rfl, hE'⟩; replace o0 := o0.ext hE'; replace o1 := o1.ext hE'; replace o2 := o2.ext hE'; replace o3 := o3.ext hE'; replace hE := hE.trans hE'; clear hE')
      | (go_at_call 22; (with_reducible refine (s2 _).mono ?_); rintro e w' ⟨rfl, hE'⟩; replace o0 := o0.ext hE'; replace o1 := o1.ext hE'; replace o2 := o2.ext hE'; replace o3 := o3.ext hE'; replace hE := hE.trans hE'; clear hE')
      | (go_at_call 22; (with_reducible refine (s3 _).mono ?_); rintro e w' ⟨rfl, hE'⟩; replace o0 := o0.ext hE'; replace o1 := o1.ext hE'; replace o2 := o2.ext hE'; replace o3 := o3.ext hE'; replace hE := hE.trans hE'; clear hE')
      | (go_at_call 30; (with_reducible refine (f0 _).mono ?_); rintro e w' ⟨rfl, hE'⟩; replace o0 := o0.ext hE'; replace o1 := o1.ext hE'; replace o2 := o2.ext hE'; replace o3 := o3.ext hE'; replace hE := hE.trans hE'; clear hE')
      | (go_at_call 28; (with_reducible refine (g3' _).mono ?_); rintro e w' ⟨rfl, hE'⟩; replace o0 := o0.ext hE'; replace o1 := o1.ext hE'; replace o2 := o2.ext hE'; replace o3 := o3.ext hE'; replace hE := hE.trans hE'; clear hE')
      | (go_at_call 24; (with_reducible refine (i3 _).mono ?_); rintro e w' ⟨rfl, hE'⟩; replace o0 := o0.ext hE'; replace o1 := o1.ext hE'; replace o2 := o2.ext hE'; replace o3 := o3.ext hE'; replace hE := hE.trans hE'; clear hE')
      | (go_at_call 24; (with_reducible refine (i0 _).mono ?_); rintro e w' ⟨rfl, hE'⟩; replace o0 := o0.ext hE'; replace o1 := o1.ext hE'; replace o2 := o2.ext hE'; replace o3 := o3.ext hE'; replace hE := hE.trans hE'; clear hE')
      | (go_at_call 26; (with_reducible refine (l1 _).mono ?_); rintro e w' ⟨rfl, hE'⟩; replace o0 := o0.ext hE'; replace o1 := o1.ext hE'; replace o2 := o2.ext hE'; replace o3 := o3.ext hE'; replace hE := hE.trans hE'; clear hE')
      | (go_at_call 26; (with_reducible refine (l0 _).mono ?_); rintro e w' ⟨rfl, hE'⟩; replace o0 := o0.ext hE'; replace o1 := o1.ext hE'; replace o2 := o2.ext hE'; replace o3 := o3.ext hE'; replace hE := hE.trans hE'; clear hE')
      | (go_at_call 32; (with_reducible refine (law5_awake _).mono ?_); rintro e w' ⟨rfl, hE'⟩; replace o0 := o0.ext hE'; replace o1 := o1.ext hE'; replace o2 := o2.ext hE'; replace o3 := o3.ext hE'; replace hE := hE.trans hE'; clear hE'))
    go_wp2
    go_ret
    exact ⟨rfl, hE⟩
end Go.Proofs.Ythbdnaogjmnagaa
