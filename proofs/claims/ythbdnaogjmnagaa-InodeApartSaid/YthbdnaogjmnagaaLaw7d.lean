/- The statements on inodes: sectors that are alike. -/
import Derived.Test.YthbdnaogjmnagaaLaw7c
namespace Go.Proofs.Ythbdnaogjmnagaa
set_option linter.unusedVariables false
open Go.RowKit

set_option maxRecDepth 100000 in
set_option maxHeartbeats 2000000 in
theorem law_InodeApart (w : World) (is : List Int) (hl : is.length = 44) (_hp : ∀ p ∈ is, -9223372036854775808 ≤ p ∧ p ≤ 9223372036854775807) (js : List Int) (hl2 : js.length = 44) (_hq : ∀ p ∈ js, -9223372036854775808 ≤ p ∧ p ≤ 9223372036854775807)
    (z : Int) (_z : -9223372036854775808 ≤ z) (_z' : z ≤ 9223372036854775807) :
    Calls Try.prog 12 #[.agg (i64s is).toArray, .agg (i64s js).toArray, .int .i64 z] w fun e w' => e = .returned (.bool true) ∧ Ext w w' := by
  clear _hp _hq _z _z'
  have HLL := hide (And.intro (i64s_len' hl) (i64s_len' hl2))
  have hlayI : ∃ n1 e1 : Nat, (n1 ≤ 128) ∧ (∀ w, Calls Try.prog 45 #[.agg (i64s is).toArray] w fun e w' => ∃ A' c', e = .returned (.tuple #[.slice A' n1 c', .int .i64 (e1 : Nat)]) ∧ Own w' w.heap.size 5 A' n1 c' (by8 (layIL is)) ∧ Ext w w') ∧ ((allI is 4 ∧ e1 = 0) ∨ (¬ allI is 4 ∧ e1 = 2)) := by
    by_cases ha : allI is 4
    · exact ⟨128, 0, by omega, fun w => Lay_good is hl ha w, .inl ⟨ha, rfl⟩⟩
    · exact ⟨0, 2, by omega, fun w => Lay_bad is hl ha w, .inr ⟨ha, rfl⟩⟩
  have hlayJ : ∃ n1 e1 : Nat, (n1 ≤ 128) ∧ (∀ w, Calls Try.prog 45 #[.agg (i64s js).toArray] w fun e w' => ∃ A' c', e = .returned (.tuple #[.slice A' n1 c', .int .i64 (e1 : Nat)]) ∧ Own w' w.heap.size 5 A' n1 c' (by8 (layIL js)) ∧ Ext w w') ∧ ((allI js 4 ∧ e1 = 0) ∨ (¬ allI js 4 ∧ e1 = 2)) := by
    by_cases ha : allI js 4
    · exact ⟨128, 0, by omega, fun w => Lay_good js hl2 ha w, .inl ⟨ha, rfl⟩⟩
    · exact ⟨0, 2, by omega, fun w => Lay_bad js hl2 ha w, .inr ⟨ha, rfl⟩⟩
  obtain ⟨n1, e1, hn1, hlay1, hc1⟩ := hlayI
  obtain ⟨n2, e2, hn2, hlay2, hc2⟩ := hlayJ
  have Y1 := hide hlay1
  have Y2 := hide hlay2
  have HC1 := hide hc1
  have HC2 := hide hc2
  have hF := Ext.refl w
  have HIL := hide (And.intro hl hl2)
  clear hlay1 hlay2 hc1 hc2 hl hl2
  go_enter Try.func12, Try.ntmps12
  go_wp2_with (first
    | (with_reducible refine ag_box (o := ⟨some 3, _, _, _, _, _⟩) rfl 49 (.tmp 0) rfl _ 44 rfl HLL.out.1 (by omega) (i64s_one is) w.heap.size (Nat.le_refl _) ?_; intro w1 hB hE1 hz1; replace hF := hF.trans hE1)
    | (with_reducible refine ag_box (o := ⟨some 4, _, _, _, _, _⟩) rfl 49 (.tmp 1) rfl _ 44 rfl HLL.out.2 (by omega) (i64s_one js) w1.heap.size (Nat.le_refl _) ?_; intro w2 hD hE2 hz2; replace hB := hB.ext hE2; replace hF := hF.trans hE2)
    | (with_reducible refine ag_load rfl 49 (.tmp 3) rfl w.heap.size 44 w.heap.size 49 _ rfl hB agg_inodes info_inodes ?_)
    | (with_reducible refine ag_load rfl 49 (.tmp 4) rfl w1.heap.size 44 w1.heap.size 49 _ rfl hD agg_inodes info_inodes ?_))
  refine (Y1.out _).mono ?_
  rintro e w3 ⟨A1, c1, rfl, hO1, hE3⟩
  replace hB := hB.ext hE3
  replace hD := hD.ext hE3
  replace hF := hF.trans hE3
  go_wp2_with (with_reducible refine ag_load rfl 49 (.tmp 4) rfl w1.heap.size 44 w1.heap.size 49 _ rfl hD agg_inodes info_inodes ?_)
  refine (Y2.out _).mono ?_
  rintro e w4 ⟨A2, c2, rfl, hO2, hE4⟩
  replace hB := hB.ext hE4
  replace hD := hD.ext hE4
  replace hF := hF.trans hE4
  have hS1 := hO1.sl.ext hE4
  have hS2 := hO2.sl
  go_wp2_with fail
  refine (Low z _ 20736 _ rfl (by omega) (by omega)).mono ?_
  rintro e w' ⟨rfl, rfl⟩
  have hs := low_lt z (n := 20736) (by omega)
  generalize low z 20736 = s at *
  obtain ⟨g1, g2⟩ := need_grow s hs
  have x1 := fun w => inode_Need s (by omega) w
  have x2 := fun w => inode_Need ((s : Int) + 1) (by omega) w
  have x3 := fun w => inode_Need (-(s : Int)) (by omega) w
  rw [g2] at x3
  have i1 := IntWalk.i64_in ((s : Int) + 1) (by omega)
  have i2 := IntWalk.i64_in (-(s : Int)) (by omega)
  clear g2
  generalize needI (s : Int) = q1 at *
  generalize needI ((s : Int) + 1) = q2 at *
  have g3 : ¬ q2 < q1 := by omega
  clear hs g1
  go_upto_region 6 with (first
    | (go_at_call 51; with_reducible refine (x1 _).mono ?_; rintro e w' ⟨rfl, rfl⟩)
    | (go_at_call 51; with_reducible refine (x2 _).mono ?_; rintro e w' ⟨rfl, rfl⟩)
    | (go_at_call 51; with_reducible refine (x3 _).mono ?_; rintro e w' ⟨rfl, rfl⟩))
  clear x1 x2 x3 i1 i2 g3
  have hR1 := hB.range
  have hR2 := hD.range
  have hT := And.intro (hB.ext (Ext.drew (Ext.refl _))).range (hD.ext (Ext.drew (Ext.refl _))).range
  clear hR1 hR2
  rcases HC1.out with ⟨ha, rfl⟩ | ⟨ha, rfl⟩
  · rcases HC2.out with ⟨ha2, rfl⟩ | ⟨ha2, rfl⟩
    · have hi1 : (Try.prog.info? 49).map (·.size) = some (i64s is).length := by rw [HLL.out.1]; exact info_inodes
      have hi2 : (Try.prog.info? 49).map (·.size) = some (i64s js).length := by rw [HLL.out.2]; exact info_inodes
      have heq := fun w1 => eq_inodes is js HIL.out.1 HIL.out.2 w1
      have hdd : decide (layIL is = layIL js) = decide (is = js) := by rw [decide_eq_decide]; exact layIL_inj HIL.out.1 HIL.out.2 ha ha2
      have HDD := hide hdd
      have hu := Try.underlying49
      clear ha ha2 hdd
      generalize decide (is = js) = dd at *
      refine wp_region_held_drew (S := fun w' => w'.rangeAt w.heap.size 0 (i64s is) ∧ w'.rangeAt w1.heap.size 0 (i64s js)) (by kernel_rfl) hT (fun hHeld => ?_)
      refine held_take 0 rfl (by kernel_rfl) (by kernel_rfl) (by kernel_rfl) (fun _ _ _ _ h => h) (by rfl) ?_ ?_ (by assumption) ?_
      rotate_left
      · (intro wx hSx; (try dsimp only at hSx); go_simp)
        all_goals with_reducible rfl
      (try simp only [Act.put, List.setIfInBounds_toArray, List.set_cons_zero, List.set_cons_succ])
      refine held_take 1 rfl (by kernel_rfl) (by kernel_rfl) (by kernel_rfl) (fun _ _ _ _ h => h) (by rfl) ?_ ?_ (by assumption) ?_
      rotate_left
      · (intro wx hSx; (try dsimp only at hSx); go_simp)
        all_goals with_reducible rfl
      (try simp only [Act.put, List.setIfInBounds_toArray, List.set_cons_zero, List.set_cons_succ])
      refine held_take 2 rfl (by kernel_rfl) (by kernel_rfl) (by kernel_rfl) (fun _ _ _ _ h => h) (by rfl) ?_ ?_ (by assumption) ?_
      rotate_left
      · (intro wx hSx; (try dsimp only at hSx); go_simp)
        all_goals with_reducible rfl
      (try simp only [Act.put, List.setIfInBounds_toArray, List.set_cons_zero, List.set_cons_succ])
      refine held_take 3 rfl (by kernel_rfl) (by kernel_rfl) (by kernel_rfl) (fun _ _ _ _ h => h) (by rfl) ?_ ?_ (by assumption) ?_
      rotate_left
      · (intro wx hSx; (try dsimp only at hSx); go_simp)
        all_goals with_reducible rfl
      (try simp only [Act.put, List.setIfInBounds_toArray, List.set_cons_zero, List.set_cons_succ])
      refine held_take 4 rfl (by kernel_rfl) (by kernel_rfl) (by kernel_rfl) (fun _ _ _ _ h => h) (by rfl) ?_ ?_ (by assumption) ?_
      rotate_left
      · (intro wx hSx; (try dsimp only at hSx); go_simp)
        all_goals with_reducible rfl
      (try simp only [Act.put, List.setIfInBounds_toArray, List.set_cons_zero, List.set_cons_succ])
      refine held_take 5 rfl (by kernel_rfl) (by kernel_rfl) (by kernel_rfl) (fun _ _ _ _ h => h) (by rfl) ?_ ?_ (by assumption) ?_
      rotate_left
      · (intro wx hSx; (try dsimp only at hSx); go_simp)
        all_goals with_reducible rfl
      (try simp only [Act.put, List.setIfInBounds_toArray, List.set_cons_zero, List.set_cons_succ])
      refine held_take 6 rfl (by kernel_rfl) (by kernel_rfl) (by kernel_rfl) (fun _ _ _ _ h => h) (by rfl) ?_ ?_ (by assumption) ?_
      rotate_left
      · (intro wx hSx; (try dsimp only at hSx); go_simp)
        all_goals with_reducible rfl
      (try simp only [Act.put, List.setIfInBounds_toArray, List.set_cons_zero, List.set_cons_succ])
      refine held_take 7 rfl (by kernel_rfl) (by kernel_rfl) (by kernel_rfl) (fun _ _ _ _ h => h) (by rfl) ?_ ?_ (by assumption) ?_
      rotate_left
      · (intro wx hSx; (try dsimp only at hSx); go_simp)
        all_goals with_reducible rfl
      (try simp only [Act.put, List.setIfInBounds_toArray, List.set_cons_zero, List.set_cons_succ])
      refine held_take 8 rfl (by kernel_rfl) (by kernel_rfl) (by kernel_rfl) (fun _ _ _ _ h => h) (by rfl) ?_ ?_ (by assumption) ?_
      rotate_left
      · (intro wx hSx; (try dsimp only at hSx); go_simp)
        all_goals with_reducible rfl
      (try simp only [Act.put, List.setIfInBounds_toArray, List.set_cons_zero, List.set_cons_succ])
      refine held_load 10 rfl (by kernel_rfl) (by kernel_rfl) (by kernel_rfl) (fun _ _ _ _ h => h) (by rfl) 49 (.tmp 3) rfl w.heap.size (i64s is) _ rfl (fun wx hSx => hSx.1) hu rfl hi1 (by assumption) ?_
      (try simp only [Act.put, List.setIfInBounds_toArray, List.set_cons_zero, List.set_cons_succ])
      refine held_load 11 rfl (by kernel_rfl) (by kernel_rfl) (by kernel_rfl) (fun _ _ _ _ h => h) (by rfl) 49 (.tmp 4) rfl w1.heap.size (i64s js) _ rfl (fun wx hSx => hSx.2) hu rfl hi2 (by assumption) ?_
      (try simp only [Act.put, List.setIfInBounds_toArray, List.set_cons_zero, List.set_cons_succ])
      refine held_take 12 rfl (by kernel_rfl) (by kernel_rfl) (by kernel_rfl) (fun _ _ _ _ h => h) (by rfl) ?_ ?_ (by assumption) ?_
      rotate_left
      · (intro wx hSx; (try dsimp only at hSx); go_simp)
        all_goals with_reducible rfl
      (try simp only [Act.put, List.setIfInBounds_toArray, List.set_cons_zero, List.set_cons_succ])
      refine held_call 9 rfl (by kernel_rfl) (fun K hK => ?_)
      go_simp
      go_at_call 42
      refine (SameBytes _ _ _ _ _ _ _ _ _ (hS1.ext (Ext.drew (Ext.refl _))) (hS2.ext (Ext.drew (Ext.refl _))) (Bytes.layIL is) (Bytes.layIL js)).mono ?_
      rintro e w5 ⟨rfl, j5, hw5⟩
      have hE5 : Ext w4 w5 := by rw [hw5]; exact (Ext.drew (Ext.refl _)).drewN _
      clear hw5
      rw [HDD.out]
      go_wp2_with fail
      refine hK.out _ _ ⟨(hB.ext hE5).range, (hD.ext hE5).range⟩ (fun hHeld => ?_)
      clear hK K
      (try simp only [Act.put, List.setIfInBounds_toArray, List.set_cons_zero, List.set_cons_succ])
      refine held_take 13 rfl (by kernel_rfl) (by kernel_rfl) (by kernel_rfl) (fun _ _ _ _ h => h) (by rfl) ?_ ?_ (by assumption) ?_
      rotate_left
      · (intro wx hSx; (try dsimp only at hSx); go_simp)
        all_goals with_reducible rfl
      (try simp only [Act.put, List.setIfInBounds_toArray, List.set_cons_zero, List.set_cons_succ])
      refine held_take 14 rfl (by kernel_rfl) (by kernel_rfl) (by kernel_rfl) (fun _ _ _ _ h => h) (by rfl) ?_ ?_ (by assumption) ?_
      rotate_left
      · (intro wx hSx; (try dsimp only at hSx); go_simp)
        all_goals with_reducible rfl
      (try simp only [Act.put, List.setIfInBounds_toArray, List.set_cons_zero, List.set_cons_succ])
      refine held_take 15 rfl (by kernel_rfl) (by kernel_rfl) (by kernel_rfl) (fun _ _ _ _ h => h) (by rfl) ?_ ?_ (by assumption) ?_
      rotate_left
      · (intro wx hSx; (try dsimp only at hSx); go_simp)
        all_goals with_reducible rfl
      (try simp only [Act.put, List.setIfInBounds_toArray, List.set_cons_zero, List.set_cons_succ])
      refine held_call 16 rfl (by kernel_rfl) (fun K hK => ?_)
      go_simp
      go_at_call 43
      refine (law7_awake _).mono ?_
      rintro e w7 ⟨rfl, hE7⟩
      go_wp2_with fail
      refine hK.out _ _ ⟨(hB.ext (hE5.trans hE7)).range, (hD.ext (hE5.trans hE7)).range⟩ (fun hHeld => ?_)
      clear hK K
      (try simp only [Act.put, List.setIfInBounds_toArray, List.set_cons_zero, List.set_cons_succ])
      refine held_take 17 rfl (by kernel_rfl) (by kernel_rfl) (by kernel_rfl) (fun _ _ _ _ h => h) (by rfl) ?_ ?_ (by assumption) ?_
      rotate_left
      · (intro wx hSx; (try dsimp only at hSx); go_simp)
        all_goals with_reducible rfl
      (try simp only [Act.put, List.setIfInBounds_toArray, List.set_cons_zero, List.set_cons_succ])
      refine held_take 18 rfl (by kernel_rfl) (by kernel_rfl) (by kernel_rfl) (fun _ _ _ _ h => h) (by rfl) ?_ ?_ (by assumption) ?_
      rotate_left
      · (intro wx hSx; (try dsimp only at hSx); go_simp)
        all_goals with_reducible rfl
      (try simp only [Act.put, List.setIfInBounds_toArray, List.set_cons_zero, List.set_cons_succ])
      refine wpAnyH_done (by kernel_rfl) ?_ _
      clear hHeld
      go_wp2_with fail
      go_ret
      exact ⟨rfl, hF.trans (hE5.trans hE7)⟩
    · clear ha ha2
      refine wp_region_held_drew (S := fun _ => True) (by kernel_rfl) trivial (fun hHeld => ?_)
      refine held_take 0 rfl (by kernel_rfl) (by kernel_rfl) (by kernel_rfl) (fun _ _ _ _ h => h) (by rfl) ?_ ?_ (by assumption) ?_
      rotate_left
      · (intro wx hSx; (try dsimp only at hSx); go_simp)
        all_goals with_reducible rfl
      (try simp only [Act.put, List.setIfInBounds_toArray, List.set_cons_zero, List.set_cons_succ])
      refine held_take 1 rfl (by kernel_rfl) (by kernel_rfl) (by kernel_rfl) (fun _ _ _ _ h => h) (by rfl) ?_ ?_ (by assumption) ?_
      rotate_left
      · (intro wx hSx; (try dsimp only at hSx); go_simp)
        all_goals with_reducible rfl
      (try simp only [Act.put, List.setIfInBounds_toArray, List.set_cons_zero, List.set_cons_succ])
      refine held_take 2 rfl (by kernel_rfl) (by kernel_rfl) (by kernel_rfl) (fun _ _ _ _ h => h) (by rfl) ?_ ?_ (by assumption) ?_
      rotate_left
      · (intro wx hSx; (try dsimp only at hSx); go_simp)
        all_goals with_reducible rfl
      (try simp only [Act.put, List.setIfInBounds_toArray, List.set_cons_zero, List.set_cons_succ])
      refine held_take 3 rfl (by kernel_rfl) (by kernel_rfl) (by kernel_rfl) (fun _ _ _ _ h => h) (by rfl) ?_ ?_ (by assumption) ?_
      rotate_left
      · (intro wx hSx; (try dsimp only at hSx); go_simp)
        all_goals with_reducible rfl
      (try simp only [Act.put, List.setIfInBounds_toArray, List.set_cons_zero, List.set_cons_succ])
      refine held_take 4 rfl (by kernel_rfl) (by kernel_rfl) (by kernel_rfl) (fun _ _ _ _ h => h) (by rfl) ?_ ?_ (by assumption) ?_
      rotate_left
      · (intro wx hSx; (try dsimp only at hSx); go_simp)
        all_goals with_reducible rfl
      (try simp only [Act.put, List.setIfInBounds_toArray, List.set_cons_zero, List.set_cons_succ])
      refine held_take 5 rfl (by kernel_rfl) (by kernel_rfl) (by kernel_rfl) (fun _ _ _ _ h => h) (by rfl) ?_ ?_ (by assumption) ?_
      rotate_left
      · (intro wx hSx; (try dsimp only at hSx); go_simp)
        all_goals with_reducible rfl
      (try simp only [Act.put, List.setIfInBounds_toArray, List.set_cons_zero, List.set_cons_succ])
      refine held_take 6 rfl (by kernel_rfl) (by kernel_rfl) (by kernel_rfl) (fun _ _ _ _ h => h) (by rfl) ?_ ?_ (by assumption) ?_
      rotate_left
      · (intro wx hSx; (try dsimp only at hSx); go_simp)
        all_goals with_reducible rfl
      (try simp only [Act.put, List.setIfInBounds_toArray, List.set_cons_zero, List.set_cons_succ])
      refine held_skip 7 rfl (by kernel_rfl) (by kernel_rfl) (by kernel_rfl) (fun _ _ _ _ h => h) (by rfl) (by assumption) ?_
      (try simp only [Act.put, List.setIfInBounds_toArray, List.set_cons_zero, List.set_cons_succ])
      refine held_skip 8 rfl (by kernel_rfl) (by kernel_rfl) (by kernel_rfl) (fun _ _ _ _ h => h) (by rfl) (by assumption) ?_
      (try simp only [Act.put, List.setIfInBounds_toArray, List.set_cons_zero, List.set_cons_succ])
      refine held_skip 9 rfl (by kernel_rfl) (by kernel_rfl) (by kernel_rfl) (fun _ _ _ _ h => h) (by rfl) (by assumption) ?_
      (try simp only [Act.put, List.setIfInBounds_toArray, List.set_cons_zero, List.set_cons_succ])
      refine held_skip 10 rfl (by kernel_rfl) (by kernel_rfl) (by kernel_rfl) (fun _ _ _ _ h => h) (by rfl) (by assumption) ?_
      (try simp only [Act.put, List.setIfInBounds_toArray, List.set_cons_zero, List.set_cons_succ])
      refine held_skip 11 rfl (by kernel_rfl) (by kernel_rfl) (by kernel_rfl) (fun _ _ _ _ h => h) (by rfl) (by assumption) ?_
      (try simp only [Act.put, List.setIfInBounds_toArray, List.set_cons_zero, List.set_cons_succ])
      refine held_skip 12 rfl (by kernel_rfl) (by kernel_rfl) (by kernel_rfl) (fun _ _ _ _ h => h) (by rfl) (by assumption) ?_
      (try simp only [Act.put, List.setIfInBounds_toArray, List.set_cons_zero, List.set_cons_succ])
      refine held_skip 13 rfl (by kernel_rfl) (by kernel_rfl) (by kernel_rfl) (fun _ _ _ _ h => h) (by rfl) (by assumption) ?_
      (try simp only [Act.put, List.setIfInBounds_toArray, List.set_cons_zero, List.set_cons_succ])
      refine held_take 14 rfl (by kernel_rfl) (by kernel_rfl) (by kernel_rfl) (fun _ _ _ _ h => h) (by rfl) ?_ ?_ (by assumption) ?_
      rotate_left
      · (intro wx hSx; (try dsimp only at hSx); go_simp)
        all_goals with_reducible rfl
      (try simp only [Act.put, List.setIfInBounds_toArray, List.set_cons_zero, List.set_cons_succ])
      refine held_take 15 rfl (by kernel_rfl) (by kernel_rfl) (by kernel_rfl) (fun _ _ _ _ h => h) (by rfl) ?_ ?_ (by assumption) ?_
      rotate_left
      · (intro wx hSx; (try dsimp only at hSx); go_simp)
        all_goals with_reducible rfl
      (try simp only [Act.put, List.setIfInBounds_toArray, List.set_cons_zero, List.set_cons_succ])
      refine held_call 16 rfl (by kernel_rfl) (fun K hK => ?_)
      go_simp
      go_at_call 43
      refine (law7_awake _).mono ?_
      rintro e w7 ⟨rfl, hE7⟩
      go_wp2_with fail
      refine hK.out _ _ trivial (fun hHeld => ?_)
      clear hK K
      (try simp only [Act.put, List.setIfInBounds_toArray, List.set_cons_zero, List.set_cons_succ])
      refine held_take 17 rfl (by kernel_rfl) (by kernel_rfl) (by kernel_rfl) (fun _ _ _ _ h => h) (by rfl) ?_ ?_ (by assumption) ?_
      rotate_left
      · (intro wx hSx; (try dsimp only at hSx); go_simp)
        all_goals with_reducible rfl
      (try simp only [Act.put, List.setIfInBounds_toArray, List.set_cons_zero, List.set_cons_succ])
      refine held_take 18 rfl (by kernel_rfl) (by kernel_rfl) (by kernel_rfl) (fun _ _ _ _ h => h) (by rfl) ?_ ?_ (by assumption) ?_
      rotate_left
      · (intro wx hSx; (try dsimp only at hSx); go_simp)
        all_goals with_reducible rfl
      (try simp only [Act.put, List.setIfInBounds_toArray, List.set_cons_zero, List.set_cons_succ])
      refine wpAnyH_done (by kernel_rfl) ?_ _
      clear hHeld
      go_wp2_with fail
      go_ret
      exact ⟨rfl, hF.trans ((Ext.drew (Ext.refl _)).trans hE7)⟩
  · clear ha
    refine wp_region_held_drew (S := fun _ => True) (by kernel_rfl) trivial (fun hHeld => ?_)
    refine held_take 0 rfl (by kernel_rfl) (by kernel_rfl) (by kernel_rfl) (fun _ _ _ _ h => h) (by rfl) ?_ ?_ (by assumption) ?_
    rotate_left
    · (intro wx hSx; (try dsimp only at hSx); go_simp)
      all_goals with_reducible rfl
    (try simp only [Act.put, List.setIfInBounds_toArray, List.set_cons_zero, List.set_cons_succ])
    refine held_take 1 rfl (by kernel_rfl) (by kernel_rfl) (by kernel_rfl) (fun _ _ _ _ h => h) (by rfl) ?_ ?_ (by assumption) ?_
    rotate_left
    · (intro wx hSx; (try dsimp only at hSx); go_simp)
      all_goals with_reducible rfl
    (try simp only [Act.put, List.setIfInBounds_toArray, List.set_cons_zero, List.set_cons_succ])
    refine held_take 2 rfl (by kernel_rfl) (by kernel_rfl) (by kernel_rfl) (fun _ _ _ _ h => h) (by rfl) ?_ ?_ (by assumption) ?_
    rotate_left
    · (intro wx hSx; (try dsimp only at hSx); go_simp)
      all_goals with_reducible rfl
    (try simp only [Act.put, List.setIfInBounds_toArray, List.set_cons_zero, List.set_cons_succ])
    refine held_skip 3 rfl (by kernel_rfl) (by kernel_rfl) (by kernel_rfl) (fun _ _ _ _ h => h) (by rfl) (by assumption) ?_
    (try simp only [Act.put, List.setIfInBounds_toArray, List.set_cons_zero, List.set_cons_succ])
    refine held_skip 4 rfl (by kernel_rfl) (by kernel_rfl) (by kernel_rfl) (fun _ _ _ _ h => h) (by rfl) (by assumption) ?_
    (try simp only [Act.put, List.setIfInBounds_toArray, List.set_cons_zero, List.set_cons_succ])
    refine held_take 5 rfl (by kernel_rfl) (by kernel_rfl) (by kernel_rfl) (fun _ _ _ _ h => h) (by rfl) ?_ ?_ (by assumption) ?_
    rotate_left
    · (intro wx hSx; (try dsimp only at hSx); go_simp)
      all_goals with_reducible rfl
    (try simp only [Act.put, List.setIfInBounds_toArray, List.set_cons_zero, List.set_cons_succ])
    refine held_take 6 rfl (by kernel_rfl) (by kernel_rfl) (by kernel_rfl) (fun _ _ _ _ h => h) (by rfl) ?_ ?_ (by assumption) ?_
    rotate_left
    · (intro wx hSx; (try dsimp only at hSx); go_simp)
      all_goals with_reducible rfl
    (try simp only [Act.put, List.setIfInBounds_toArray, List.set_cons_zero, List.set_cons_succ])
    refine held_skip 7 rfl (by kernel_rfl) (by kernel_rfl) (by kernel_rfl) (fun _ _ _ _ h => h) (by rfl) (by assumption) ?_
    (try simp only [Act.put, List.setIfInBounds_toArray, List.set_cons_zero, List.set_cons_succ])
    refine held_skip 8 rfl (by kernel_rfl) (by kernel_rfl) (by kernel_rfl) (fun _ _ _ _ h => h) (by rfl) (by assumption) ?_
    (try simp only [Act.put, List.setIfInBounds_toArray, List.set_cons_zero, List.set_cons_succ])
    refine held_skip 9 rfl (by kernel_rfl) (by kernel_rfl) (by kernel_rfl) (fun _ _ _ _ h => h) (by rfl) (by assumption) ?_
    (try simp only [Act.put, List.setIfInBounds_toArray, List.set_cons_zero, List.set_cons_succ])
    refine held_skip 10 rfl (by kernel_rfl) (by kernel_rfl) (by kernel_rfl) (fun _ _ _ _ h => h) (by rfl) (by assumption) ?_
    (try simp only [Act.put, List.setIfInBounds_toArray, List.set_cons_zero, List.set_cons_succ])
    refine held_skip 11 rfl (by kernel_rfl) (by kernel_rfl) (by kernel_rfl) (fun _ _ _ _ h => h) (by rfl) (by assumption) ?_
    (try simp only [Act.put, List.setIfInBounds_toArray, List.set_cons_zero, List.set_cons_succ])
    refine held_skip 12 rfl (by kernel_rfl) (by kernel_rfl) (by kernel_rfl) (fun _ _ _ _ h => h) (by rfl) (by assumption) ?_
    (try simp only [Act.put, List.setIfInBounds_toArray, List.set_cons_zero, List.set_cons_succ])
    refine held_skip 13 rfl (by kernel_rfl) (by kernel_rfl) (by kernel_rfl) (fun _ _ _ _ h => h) (by rfl) (by assumption) ?_
    (try simp only [Act.put, List.setIfInBounds_toArray, List.set_cons_zero, List.set_cons_succ])
    refine held_take 14 rfl (by kernel_rfl) (by kernel_rfl) (by kernel_rfl) (fun _ _ _ _ h => h) (by rfl) ?_ ?_ (by assumption) ?_
    rotate_left
    · (intro wx hSx; (try dsimp only at hSx); go_simp)
      all_goals with_reducible rfl
    (try simp only [Act.put, List.setIfInBounds_toArray, List.set_cons_zero, List.set_cons_succ])
    refine held_take 15 rfl (by kernel_rfl) (by kernel_rfl) (by kernel_rfl) (fun _ _ _ _ h => h) (by rfl) ?_ ?_ (by assumption) ?_
    rotate_left
    · (intro wx hSx; (try dsimp only at hSx); go_simp)
      all_goals with_reducible rfl
    (try simp only [Act.put, List.setIfInBounds_toArray, List.set_cons_zero, List.set_cons_succ])
    refine held_call 16 rfl (by kernel_rfl) (fun K hK => ?_)
    go_simp
    go_at_call 43
    refine (law7_awake _).mono ?_
    rintro e w7 ⟨rfl, hE7⟩
    go_wp2_with fail
    refine hK.out _ _ trivial (fun hHeld => ?_)
    clear hK K
    (try simp only [Act.put, List.setIfInBounds_toArray, List.set_cons_zero, List.set_cons_succ])
    refine held_take 17 rfl (by kernel_rfl) (by kernel_rfl) (by kernel_rfl) (fun _ _ _ _ h => h) (by rfl) ?_ ?_ (by assumption) ?_
    rotate_left
    · (intro wx hSx; (try dsimp only at hSx); go_simp)
      all_goals with_reducible rfl
    (try simp only [Act.put, List.setIfInBounds_toArray, List.set_cons_zero, List.set_cons_succ])
    refine held_take 18 rfl (by kernel_rfl) (by kernel_rfl) (by kernel_rfl) (fun _ _ _ _ h => h) (by rfl) ?_ ?_ (by assumption) ?_
    rotate_left
    · (intro wx hSx; (try dsimp only at hSx); go_simp)
      all_goals with_reducible rfl
    (try simp only [Act.put, List.setIfInBounds_toArray, List.set_cons_zero, List.set_cons_succ])
    refine wpAnyH_done (by kernel_rfl) ?_ _
    clear hHeld
    go_wp2_with fail
    go_ret
    exact ⟨rfl, hF.trans ((Ext.drew (Ext.refl _)).trans hE7)⟩
end Go.Proofs.Ythbdnaogjmnagaa
