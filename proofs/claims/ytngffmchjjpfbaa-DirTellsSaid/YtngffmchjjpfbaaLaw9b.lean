/- The statements on directories: what the document says. -/
import Derived.Test.YtngffmchjjpfbaaLaw9
import Derived.Test.YtngffmchjjpfbaaLaw10b
namespace Go.Proofs.Ytngffmchjjpfbaa
set_option linter.unusedVariables false
open Go.RowKit
set_option maxRecDepth 100000 in
set_option maxHeartbeats 4000000 in
theorem law9_tells (w : World) (ss : List Slot) (hl : ss.length = 4) (A : Option Addr) (n c : Nat) (xs : List Nat) (h : Sl w A n c (by8 xs)) (hb : Bytes xs) (nm : ByteArray) :
    Calls Try.prog 5 #[.agg (LV ss).toArray, .slice A n c, .string nm] w fun e w' => e = .returned (.bool true) ∧ Ext w w' := by
  have HL := hide hl
  have HLL := hide (LV_len4 hl)
  have HX := hide (show xs.length = n by have := h.len; rwa [by8_len] at this)
  have hF := Ext.refl w
  have HG := hide (fun w => law9_great ss hl w)
  have HLay := hide (fun w => dir_Lay ss hl w)
  have HRLay := hide (fun w => ref9_Lay ss hl w)
  have bl := Bytes.layDL ss
  have hu := Try.underlying40
  clear hl
  by_cases l1 : (200 : Int) < n
  · clear hu
    go_enter Try.func5, Try.ntmps5
    go_wp2_with (first
      | (with_reducible refine ag_box rfl 40 (.tmp 0) rfl _ 12 rfl HLL.out (by omega) (LV_one ss) w.heap.size (Nat.le_refl _) ?_; intro w1 hO hE1 hz1; replace hF := hF.trans hE1)
      | (go_at_call 22; refine (law9_awake _).mono ?_; rintro e w5 ⟨rfl, hE5⟩))
    go_ret
    exact ⟨rfl, hF.trans hE5⟩
  by_cases l2 : (100 : Int) < nm.size
  · clear hu
    go_enter Try.func5, Try.ntmps5
    go_wp2_with (first
      | (with_reducible refine ag_box rfl 40 (.tmp 0) rfl _ 12 rfl HLL.out (by omega) (LV_one ss) w.heap.size (Nat.le_refl _) ?_; intro w1 hO hE1 hz1; replace hF := hF.trans hE1)
      | (go_at_call 22; refine (law9_awake _).mono ?_; rintro e w5 ⟨rfl, hE5⟩))
    go_ret
    exact ⟨rfl, hF.trans hE5⟩
  go_enter Try.func5, Try.ntmps5
  go_wp2_with (first
    | (with_reducible refine ag_box rfl 40 (.tmp 0) rfl _ 12 rfl HLL.out (by omega) (LV_one ss) w.heap.size (Nat.le_refl _) ?_; intro w1 hO hE1 hz1; replace hF := hF.trans hE1)
    | (with_reducible refine ag_load rfl 40 (.tmp 3) rfl w.heap.size 12 w.heap.size 40 _ rfl hO agg_slots info_slots ?_))
  refine (HG.out _).mono ?_
  rintro e w2 ⟨rfl, hE2⟩
  replace hO := hO.ext hE2
  replace hF := hF.trans hE2
  cases hg : greatL ss
  case true =>
    clear hu
    go_wp2_with (go_at_call 22; refine (law9_awake _).mono ?_; rintro e w5 ⟨rfl, hE5⟩)
    go_ret
    exact ⟨rfl, hF.trans hE5⟩
  case false =>
  clear hg
  go_wp2_with fail
  refine (LendBytes _ _ _ _ _ (h.ext hF) (by omega)).mono ?_
  rintro e w3 ⟨g1, rfl, hP1, hE3⟩
  have y2 := hP1.block
  have z2 := hF.size
  have z3 := hE3.size
  replace hO := hO.ext hE3
  replace hF := hF.trans hE3
  go_wp2_with (with_reducible refine ag_load rfl 40 (.tmp 3) rfl w.heap.size 12 w.heap.size 40 _ rfl hO agg_slots info_slots ?_)
  refine (HLay.out _).mono ?_
  rintro e w4 ⟨A3, n3, c3, rfl, hn3, hX, hE4⟩
  have hG := hE4
  have xB := hX.block
  replace hO := hO.ext hE4
  replace hP1 := hP1.ext hE4
  replace hF := hF.trans hE4
  go_wp2_with (with_reducible refine ag_load rfl 40 (.tmp 3) rfl w.heap.size 12 w.heap.size 40 _ rfl hO agg_slots info_slots ?_)
  refine (HRLay.out _).mono ?_
  rintro e w5 ⟨A4, n4, c4, rfl, hn4, hY, hE5⟩
  replace hO := hO.ext hE5
  replace hP1 := hP1.ext hE5
  replace hF := hF.trans hE5
  replace hX := hX.ext hE5
  replace hG := hG.trans hE5
  go_wp2_with fail
  refine (dir_Read _ _ _ _ _ (lend_slR hP1 HX.out) hb).mono ?_
  rintro e w6 ⟨rfl, hE6⟩
  replace hO := hO.ext hE6
  replace hP1 := hP1.ext hE6
  replace hF := hF.trans hE6
  replace hX := hX.ext hE6
  replace hY := hY.ext hE6
  replace hG := hG.trans hE6
  have HDL := hide (readDL_len xs)
  go_wp2_with (first
    | (with_reducible refine ag_alloc (o := ⟨some 12, _, _, _, _, _⟩) rfl 40 rfl _ 12 zero_slots rfl (by omega) (LV_one _) w6.heap.size (Nat.le_refl _) ?_; intro w7 hR7 hE7 hz7)
    | (with_reducible refine ag_store (o := ⟨none, _, _, _, _, _⟩) rfl 40 (.tmp 12) (.tmp 45) rfl w6.heap.size 12 w6.heap.size 40 _ (LV (readDL xs)) rfl rfl hR7 (LV_len4 HDL.out) (LV_one _) info_slots ?_; intro w8 hU hG8
       have hE8 := hE7.grown hG8 (by simp)
       replace hO := hO.ext hE8
       replace hP1 := hP1.ext hE8
       replace hF := hF.trans hE8
       replace hX := hX.ext hE8
       replace hY := hY.ext hE8
       replace hG := hG.trans hE8))
  refine (ref9_Read _ _ _ _ _ (h.ext hF) hb).mono ?_
  rintro e w9 ⟨rfl, hE9⟩
  replace hO := hO.ext hE9
  replace hP1 := hP1.ext hE9
  replace hF := hF.trans hE9
  replace hX := hX.ext hE9
  replace hY := hY.ext hE9
  replace hU := hU.ext hE9
  replace hG := hG.trans hE9
  go_upto_region 8 with (first
    | (with_reducible refine ag_alloc (o := ⟨some 14, _, _, _, _, _⟩) rfl 40 rfl _ 12 zero_slots rfl (by omega) (LV_one _) w9.heap.size (Nat.le_refl _) ?_; intro w10 hR10 hE10 hz10)
    | (with_reducible refine ag_store (o := ⟨none, _, _, _, _, _⟩) rfl 40 (.tmp 14) (.tmp 50) rfl w9.heap.size 12 w9.heap.size 40 _ (LV (readDL xs)) rfl rfl hR10 (LV_len4 HDL.out) (LV_one _) info_slots ?_; intro w11 hV hG11
       have hE11 := hE10.grown hG11 (by simp)
       replace hO := hO.ext hE11
       replace hP1 := hP1.ext hE11
       replace hF := hF.trans hE11
       replace hX := hX.ext hE11
       replace hY := hY.ext hE11
       replace hU := hU.ext hE11
       replace hG := hG.trans hE11))
  clear hR7 hE7 hz7 hG8 hE8 hR10 hE10 hz10 hG11 hE11 hE2 hE3 hE4 hE5 hE6 hE9
  have hi1 : (Try.prog.info? 40).map (·.size) = some (LV ss).length := by rw [HLL.out]; exact info_slots
  have hi2 : (Try.prog.info? 40).map (·.size) = some (LV (readDL xs)).length := by rw [LV_len4 HDL.out]; exact info_slots
  have hus := Try.underlying39
  have his : (Try.prog.info? 39).map (·.size) = some (sV (nS ss 0)).length := info_slot
  have hz0 : (LV ss).take 3 = sV (nS ss 0) := by have := LV_nth (ss := ss) (k := 0) (by rw [HL.out]; omega); simpa using this
  have keepS : ∀ w', Ext w11 w' → w'.rangeAt w.heap.size 0 (LV ss) ∧ w'.rangeAt w6.heap.size 0 (LV (readDL xs)) ∧ w'.rangeAt w9.heap.size 0 (LV (readDL xs)) ∧ w'.rangeAt w.heap.size 0 (sV (nS ss 0)) :=
    fun w' hE => ⟨(hO.ext hE).range, (hU.ext hE).range, (hV.ext hE).range, by
      intro j v hj
      rw [← hz0, List.getElem?_take] at hj
      split at hj
      · exact (hO.ext hE).range j v hj
      · cases hj⟩
  have heq := fun w => eq_slots (readDL xs) (readDL xs) HDL.out HDL.out w
  rw [decide_eq_true rfl] at heq
  clear hz0
  have C1 := hide (fun w => dir_Name nm w)
  have C2 := hide (fun w => ref9_Name nm w)
  have C3 := hide (fun w => dir_May (nS ss 0) w)
  have C4 := hide (fun w => ref9_May (nS ss 0) w)
  have C5 := hide (fun w => dir_Find ss HL.out nm w)
  have C6 := hide (fun w => ref9_Find ss HL.out nm w)
  have C7 := hide (fun w => dir_Free ss HL.out w)
  have C8 := hide (fun w => ref9_Free ss HL.out w)
  generalize okN nm = b1 at C1 C2
  generalize mayS (nS ss 0) = b2 at C3 C4
  generalize findL ss nm = b3 at C5 C6
  generalize freeL ss = b4 at C7 C8
  generalize layDE ss = le at *
  generalize readDE xs = re at *
  go_cut [16] (fun v wx => v = .bool true ∧ Ext w11 wx)
  case first =>
    have hD : Ext w11 w11.drew := Ext.drew (Ext.refl _)
    refine wp_region_held_drew (S := fun w' => w'.rangeAt w.heap.size 0 (LV ss) ∧ w'.rangeAt w6.heap.size 0 (LV (readDL xs)) ∧ w'.rangeAt w9.heap.size 0 (LV (readDL xs)) ∧ w'.rangeAt w.heap.size 0 (sV (nS ss 0))) (by kernel_rfl) (keepS _ hD) (fun hHeld => ?_)
    refine held_take 0 rfl (by kernel_rfl) (by kernel_rfl) (by kernel_rfl) (fun _ _ _ _ h => h) (by rfl) ?_ ?_ (by assumption) ?_
    rotate_left
    · (intro wx hSx; (try dsimp only at hSx); go_simp)
      all_goals with_reducible rfl
    (try simp only [Act.put, List.setIfInBounds_toArray, List.set_cons_zero, List.set_cons_succ])
    refine held_take 1 rfl (by kernel_rfl) (by kernel_rfl) (by kernel_rfl) (fun _ _ _ _ h => h) (by rfl) ?_ ?_ (by assumption) ?_
    rotate_left
    · (intro wx hSx; (try dsimp only at hSx); go_simp)
      all_goals with_reducible rfl
    (try simp only [Act.put, List.setIfInBounds_toArray, List.set_cons_zero, List.set_cons_succ])
    refine held_call 2 rfl (by kernel_rfl) (fun K hK => ?_)
    go_simp
    go_at_call 15
    refine (SameBytes _ _ _ _ _ _ _ _ _ (hX.ext hD).sl (hY.ext hD).sl bl bl).mono ?_
    rintro e x0 ⟨rfl, j0, hw0⟩
    have hX0 : Ext w11.drew x0 := by rw [hw0]; exact (Ext.refl _).drewN _
    clear hw0
    replace hD := hD.trans hX0
    rw [decide_eq_true rfl]
    go_wp2_with fail
    refine hK.out _ _ (keepS _ hD) (fun hHeld => ?_)
    clear hK K
    (try simp only [Act.put, List.setIfInBounds_toArray, List.set_cons_zero, List.set_cons_succ])
    refine held_take 3 rfl (by kernel_rfl) (by kernel_rfl) (by kernel_rfl) (fun _ _ _ _ h => h) (by rfl) ?_ ?_ (by assumption) ?_
    rotate_left
    · (intro wx hSx; (try dsimp only at hSx); go_simp)
      all_goals with_reducible rfl
    (try simp only [Act.put, List.setIfInBounds_toArray, List.set_cons_zero, List.set_cons_succ])
    refine held_take 4 rfl (by kernel_rfl) (by kernel_rfl) (by kernel_rfl) (fun _ _ _ _ h => h) (by rfl) ?_ ?_ (by assumption) ?_
    rotate_left
    · (intro wx hSx; (try dsimp only at hSx); go_simp)
      all_goals with_reducible rfl
    (try simp only [Act.put, List.setIfInBounds_toArray, List.set_cons_zero, List.set_cons_succ])
    refine held_take 5 rfl (by kernel_rfl) (by kernel_rfl) (by kernel_rfl) (fun _ _ _ _ h => h) (by rfl) ?_ ?_ (by assumption) ?_
    rotate_left
    · (intro wx hSx; (try dsimp only at hSx); go_simp)
      all_goals with_reducible rfl
    (try simp only [Act.put, List.setIfInBounds_toArray, List.set_cons_zero, List.set_cons_succ])
    refine held_take 6 rfl (by kernel_rfl) (by kernel_rfl) (by kernel_rfl) (fun _ _ _ _ h => h) (by rfl) ?_ ?_ (by assumption) ?_
    rotate_left
    · (intro wx hSx; (try dsimp only at hSx); go_simp)
      all_goals with_reducible rfl
    (try simp only [Act.put, List.setIfInBounds_toArray, List.set_cons_zero, List.set_cons_succ])
    refine held_take 7 rfl (by kernel_rfl) (by kernel_rfl) (by kernel_rfl) (fun _ _ _ _ h => h) (by rfl) ?_ ?_ (by assumption) ?_
    rotate_left
    · (intro wx hSx; (try dsimp only at hSx); go_simp)
      all_goals with_reducible rfl
    (try simp only [Act.put, List.setIfInBounds_toArray, List.set_cons_zero, List.set_cons_succ])
    refine held_take 8 rfl (by kernel_rfl) (by kernel_rfl) (by kernel_rfl) (fun _ _ _ _ h => h) (by rfl) ?_ ?_ (by assumption) ?_
    rotate_left
    · (intro wx hSx; (try dsimp only at hSx); go_simp)
      all_goals with_reducible rfl
    (try simp only [Act.put, List.setIfInBounds_toArray, List.set_cons_zero, List.set_cons_succ])
    refine held_load 9 rfl (by kernel_rfl) (by kernel_rfl) (by kernel_rfl) (fun _ _ _ _ h => h) (by rfl) 40 (.tmp 12) rfl w6.heap.size (LV (readDL xs)) _ rfl (fun wx hSx => hSx.2.1) hu rfl hi2 (by assumption) ?_
    (try simp only [Act.put, List.setIfInBounds_toArray, List.set_cons_zero, List.set_cons_succ])
    refine held_load 10 rfl (by kernel_rfl) (by kernel_rfl) (by kernel_rfl) (fun _ _ _ _ h => h) (by rfl) 40 (.tmp 14) rfl w9.heap.size (LV (readDL xs)) _ rfl (fun wx hSx => hSx.2.2.1) hu rfl hi2 (by assumption) ?_
    (try simp only [Act.put, List.setIfInBounds_toArray, List.set_cons_zero, List.set_cons_succ])
    refine held_take 11 rfl (by kernel_rfl) (by kernel_rfl) (by kernel_rfl) (fun _ _ _ _ h => h) (by rfl) ?_ ?_ (by assumption) ?_
    rotate_left
    · (intro wx hSx; (try dsimp only at hSx); go_simp)
      all_goals with_reducible rfl
    (try simp only [Act.put, List.setIfInBounds_toArray, List.set_cons_zero, List.set_cons_succ])
    refine held_take 12 rfl (by kernel_rfl) (by kernel_rfl) (by kernel_rfl) (fun _ _ _ _ h => h) (by rfl) ?_ ?_ (by assumption) ?_
    rotate_left
    · (intro wx hSx; (try dsimp only at hSx); go_simp)
      all_goals with_reducible rfl
    (try simp only [Act.put, List.setIfInBounds_toArray, List.set_cons_zero, List.set_cons_succ])
    refine held_take 13 rfl (by kernel_rfl) (by kernel_rfl) (by kernel_rfl) (fun _ _ _ _ h => h) (by rfl) ?_ ?_ (by assumption) ?_
    rotate_left
    · (intro wx hSx; (try dsimp only at hSx); go_simp)
      all_goals with_reducible rfl
    (try simp only [Act.put, List.setIfInBounds_toArray, List.set_cons_zero, List.set_cons_succ])
    refine held_take 14 rfl (by kernel_rfl) (by kernel_rfl) (by kernel_rfl) (fun _ _ _ _ h => h) (by rfl) ?_ ?_ (by assumption) ?_
    rotate_left
    · (intro wx hSx; (try dsimp only at hSx); go_simp)
      all_goals with_reducible rfl
    (try simp only [Act.put, List.setIfInBounds_toArray, List.set_cons_zero, List.set_cons_succ])
    refine held_take 15 rfl (by kernel_rfl) (by kernel_rfl) (by kernel_rfl) (fun _ _ _ _ h => h) (by rfl) ?_ ?_ (by assumption) ?_
    rotate_left
    · (intro wx hSx; (try dsimp only at hSx); go_simp)
      all_goals with_reducible rfl
    (try simp only [Act.put, List.setIfInBounds_toArray, List.set_cons_zero, List.set_cons_succ])
    refine held_take 16 rfl (by kernel_rfl) (by kernel_rfl) (by kernel_rfl) (fun _ _ _ _ h => h) (by rfl) ?_ ?_ (by assumption) ?_
    rotate_left
    · (intro wx hSx; (try dsimp only at hSx); go_simp)
      all_goals with_reducible rfl
    (try simp only [Act.put, List.setIfInBounds_toArray, List.set_cons_zero, List.set_cons_succ])
    refine held_take 17 rfl (by kernel_rfl) (by kernel_rfl) (by kernel_rfl) (fun _ _ _ _ h => h) (by rfl) ?_ ?_ (by assumption) ?_
    rotate_left
    · (intro wx hSx; (try dsimp only at hSx); go_simp)
      all_goals with_reducible rfl
    (try simp only [Act.put, List.setIfInBounds_toArray, List.set_cons_zero, List.set_cons_succ])
    refine held_take 18 rfl (by kernel_rfl) (by kernel_rfl) (by kernel_rfl) (fun _ _ _ _ h => h) (by rfl) ?_ ?_ (by assumption) ?_
    rotate_left
    · (intro wx hSx; (try dsimp only at hSx); go_simp)
      all_goals with_reducible rfl
    (try simp only [Act.put, List.setIfInBounds_toArray, List.set_cons_zero, List.set_cons_succ])
    refine held_take 19 rfl (by kernel_rfl) (by kernel_rfl) (by kernel_rfl) (fun _ _ _ _ h => h) (by rfl) ?_ ?_ (by assumption) ?_
    rotate_left
    · (intro wx hSx; (try dsimp only at hSx); go_simp)
      all_goals with_reducible rfl
    (try simp only [Act.put, List.setIfInBounds_toArray, List.set_cons_zero, List.set_cons_succ])
    refine held_take 21 rfl (by kernel_rfl) (by kernel_rfl) (by kernel_rfl) (fun _ _ _ _ h => h) (by rfl) ?_ ?_ (by assumption) ?_
    rotate_left
    · (intro wx hSx; (try dsimp only at hSx); go_simp)
      all_goals with_reducible rfl
    (try simp only [Act.put, List.setIfInBounds_toArray, List.set_cons_zero, List.set_cons_succ])
    refine held_call 20 rfl (by kernel_rfl) (fun K hK => ?_)
    go_simp
    go_at_call 27
    refine (C1.out _).mono ?_
    rintro e x1 ⟨rfl, hX1⟩
    replace hD := hD.trans hX1
    go_wp2_with fail
    refine hK.out _ _ (keepS _ hD) (fun hHeld => ?_)
    clear hK K
    (try simp only [Act.put, List.setIfInBounds_toArray, List.set_cons_zero, List.set_cons_succ])
    refine held_call 22 rfl (by kernel_rfl) (fun K hK => ?_)
    go_simp
    go_at_call 28
    refine (C2.out _).mono ?_
    rintro e x2 ⟨rfl, rfl⟩
    go_wp2_with fail
    refine hK.out _ _ (keepS _ hD) (fun hHeld => ?_)
    clear hK K
    (try simp only [Act.put, List.setIfInBounds_toArray, List.set_cons_zero, List.set_cons_succ])
    refine held_take 23 rfl (by kernel_rfl) (by kernel_rfl) (by kernel_rfl) (fun _ _ _ _ h => h) (by rfl) ?_ ?_ (by assumption) ?_
    rotate_left
    · (intro wx hSx; (try dsimp only at hSx); go_simp)
      all_goals with_reducible rfl
    (try simp only [Act.put, List.setIfInBounds_toArray, List.set_cons_zero, List.set_cons_succ])
    refine held_take 24 rfl (by kernel_rfl) (by kernel_rfl) (by kernel_rfl) (fun _ _ _ _ h => h) (by rfl) ?_ ?_ (by assumption) ?_
    rotate_left
    · (intro wx hSx; (try dsimp only at hSx); go_simp)
      all_goals with_reducible rfl
    (try simp only [Act.put, List.setIfInBounds_toArray, List.set_cons_zero, List.set_cons_succ])
    refine held_take 25 rfl (by kernel_rfl) (by kernel_rfl) (by kernel_rfl) (fun _ _ _ _ h => h) (by rfl) ?_ ?_ (by assumption) ?_
    rotate_left
    · (intro wx hSx; (try dsimp only at hSx); go_simp)
      all_goals with_reducible rfl
    (try simp only [Act.put, List.setIfInBounds_toArray, List.set_cons_zero, List.set_cons_succ])
    refine held_take 26 rfl (by kernel_rfl) (by kernel_rfl) (by kernel_rfl) (fun _ _ _ _ h => h) (by rfl) ?_ ?_ (by assumption) ?_
    rotate_left
    · (intro wx hSx; (try dsimp only at hSx); go_simp)
      all_goals with_reducible rfl
    (try simp only [Act.put, List.setIfInBounds_toArray, List.set_cons_zero, List.set_cons_succ])
    refine held_take 29 rfl (by kernel_rfl) (by kernel_rfl) (by kernel_rfl) (fun _ _ _ _ h => h) (by rfl) ?_ ?_ (by assumption) ?_
    rotate_left
    · (intro wx hSx; (try dsimp only at hSx); go_simp)
      all_goals with_reducible rfl
    (try simp only [Act.put, List.setIfInBounds_toArray, List.set_cons_zero, List.set_cons_succ])
    have hu0 := hu
    clear hu
    have hu := hus
    refine held_load 27 rfl (by kernel_rfl) (by kernel_rfl) (by kernel_rfl) (fun _ _ _ _ h => h) (by rfl) 39 (.tmp 78) rfl w.heap.size (sV (nS ss 0)) _ rfl (fun wx hSx => hSx.2.2.2) hu rfl his (by assumption) ?_
    (try simp only [Act.put, List.setIfInBounds_toArray, List.set_cons_zero, List.set_cons_succ])
    refine held_load 30 rfl (by kernel_rfl) (by kernel_rfl) (by kernel_rfl) (fun _ _ _ _ h => h) (by rfl) 39 (.tmp 81) rfl w.heap.size (sV (nS ss 0)) _ rfl (fun wx hSx => hSx.2.2.2) hu rfl his (by assumption) ?_
    (try simp only [Act.put, List.setIfInBounds_toArray, List.set_cons_zero, List.set_cons_succ])
    clear hu
    have hu := hu0
    refine held_call 28 rfl (by kernel_rfl) (fun K hK => ?_)
    go_simp
    go_at_call 29
    refine (C3.out _).mono ?_
    rintro e x3 ⟨rfl, hX3⟩
    replace hD := hD.trans hX3
    go_wp2_with fail
    refine hK.out _ _ (keepS _ hD) (fun hHeld => ?_)
    clear hK K
    (try simp only [Act.put, List.setIfInBounds_toArray, List.set_cons_zero, List.set_cons_succ])
    refine held_call 31 rfl (by kernel_rfl) (fun K hK => ?_)
    go_simp
    go_at_call 30
    refine (C4.out _).mono ?_
    rintro e x4 ⟨rfl, hX4⟩
    replace hD := hD.trans hX4
    go_wp2_with fail
    refine hK.out _ _ (keepS _ hD) (fun hHeld => ?_)
    clear hK K
    (try simp only [Act.put, List.setIfInBounds_toArray, List.set_cons_zero, List.set_cons_succ])
    refine held_take 32 rfl (by kernel_rfl) (by kernel_rfl) (by kernel_rfl) (fun _ _ _ _ h => h) (by rfl) ?_ ?_ (by assumption) ?_
    rotate_left
    · (intro wx hSx; (try dsimp only at hSx); go_simp)
      all_goals with_reducible rfl
    (try simp only [Act.put, List.setIfInBounds_toArray, List.set_cons_zero, List.set_cons_succ])
    refine held_take 33 rfl (by kernel_rfl) (by kernel_rfl) (by kernel_rfl) (fun _ _ _ _ h => h) (by rfl) ?_ ?_ (by assumption) ?_
    rotate_left
    · (intro wx hSx; (try dsimp only at hSx); go_simp)
      all_goals with_reducible rfl
    (try simp only [Act.put, List.setIfInBounds_toArray, List.set_cons_zero, List.set_cons_succ])
    refine held_take 34 rfl (by kernel_rfl) (by kernel_rfl) (by kernel_rfl) (fun _ _ _ _ h => h) (by rfl) ?_ ?_ (by assumption) ?_
    rotate_left
    · (intro wx hSx; (try dsimp only at hSx); go_simp)
      all_goals with_reducible rfl
    (try simp only [Act.put, List.setIfInBounds_toArray, List.set_cons_zero, List.set_cons_succ])
    refine held_take 36 rfl (by kernel_rfl) (by kernel_rfl) (by kernel_rfl) (fun _ _ _ _ h => h) (by rfl) ?_ ?_ (by assumption) ?_
    rotate_left
    · (intro wx hSx; (try dsimp only at hSx); go_simp)
      all_goals with_reducible rfl
    (try simp only [Act.put, List.setIfInBounds_toArray, List.set_cons_zero, List.set_cons_succ])
    refine held_take 39 rfl (by kernel_rfl) (by kernel_rfl) (by kernel_rfl) (fun _ _ _ _ h => h) (by rfl) ?_ ?_ (by assumption) ?_
    rotate_left
    · (intro wx hSx; (try dsimp only at hSx); go_simp)
      all_goals with_reducible rfl
    (try simp only [Act.put, List.setIfInBounds_toArray, List.set_cons_zero, List.set_cons_succ])
    refine held_load 35 rfl (by kernel_rfl) (by kernel_rfl) (by kernel_rfl) (fun _ _ _ _ h => h) (by rfl) 40 (.tmp 3) rfl w.heap.size (LV ss) _ rfl (fun wx hSx => hSx.1) hu rfl hi1 (by assumption) ?_
    (try simp only [Act.put, List.setIfInBounds_toArray, List.set_cons_zero, List.set_cons_succ])
    refine held_load 38 rfl (by kernel_rfl) (by kernel_rfl) (by kernel_rfl) (fun _ _ _ _ h => h) (by rfl) 40 (.tmp 3) rfl w.heap.size (LV ss) _ rfl (fun wx hSx => hSx.1) hu rfl hi1 (by assumption) ?_
    (try simp only [Act.put, List.setIfInBounds_toArray, List.set_cons_zero, List.set_cons_succ])
    refine held_call 37 rfl (by kernel_rfl) (fun K hK => ?_)
    go_simp
    go_at_call 31
    refine (C5.out _).mono ?_
    rintro e x5 ⟨rfl, hX5⟩
    replace hD := hD.trans hX5
    go_wp2_with fail
    refine hK.out _ _ (keepS _ hD) (fun hHeld => ?_)
    clear hK K
    (try simp only [Act.put, List.setIfInBounds_toArray, List.set_cons_zero, List.set_cons_succ])
    refine held_call 40 rfl (by kernel_rfl) (fun K hK => ?_)
    go_simp
    go_at_call 32
    refine (C6.out _).mono ?_
    rintro e x6 ⟨rfl, hX6⟩
    replace hD := hD.trans hX6
    go_wp2_with fail
    refine hK.out _ _ (keepS _ hD) (fun hHeld => ?_)
    clear hK K
    (try simp only [Act.put, List.setIfInBounds_toArray, List.set_cons_zero, List.set_cons_succ])
    refine held_take 41 rfl (by kernel_rfl) (by kernel_rfl) (by kernel_rfl) (fun _ _ _ _ h => h) (by rfl) ?_ ?_ (by assumption) ?_
    rotate_left
    · (intro wx hSx; (try dsimp only at hSx); go_simp)
      all_goals with_reducible rfl
    (try simp only [Act.put, List.setIfInBounds_toArray, List.set_cons_zero, List.set_cons_succ])
    refine held_take 42 rfl (by kernel_rfl) (by kernel_rfl) (by kernel_rfl) (fun _ _ _ _ h => h) (by rfl) ?_ ?_ (by assumption) ?_
    rotate_left
    · (intro wx hSx; (try dsimp only at hSx); go_simp)
      all_goals with_reducible rfl
    (try simp only [Act.put, List.setIfInBounds_toArray, List.set_cons_zero, List.set_cons_succ])
    refine held_take 43 rfl (by kernel_rfl) (by kernel_rfl) (by kernel_rfl) (fun _ _ _ _ h => h) (by rfl) ?_ ?_ (by assumption) ?_
    rotate_left
    · (intro wx hSx; (try dsimp only at hSx); go_simp)
      all_goals with_reducible rfl
    (try simp only [Act.put, List.setIfInBounds_toArray, List.set_cons_zero, List.set_cons_succ])
    refine held_load 44 rfl (by kernel_rfl) (by kernel_rfl) (by kernel_rfl) (fun _ _ _ _ h => h) (by rfl) 40 (.tmp 3) rfl w.heap.size (LV ss) _ rfl (fun wx hSx => hSx.1) hu rfl hi1 (by assumption) ?_
    (try simp only [Act.put, List.setIfInBounds_toArray, List.set_cons_zero, List.set_cons_succ])
    refine held_load 46 rfl (by kernel_rfl) (by kernel_rfl) (by kernel_rfl) (fun _ _ _ _ h => h) (by rfl) 40 (.tmp 3) rfl w.heap.size (LV ss) _ rfl (fun wx hSx => hSx.1) hu rfl hi1 (by assumption) ?_
    (try simp only [Act.put, List.setIfInBounds_toArray, List.set_cons_zero, List.set_cons_succ])
    refine held_call 45 rfl (by kernel_rfl) (fun K hK => ?_)
    go_simp
    go_at_call 33
    refine (C7.out _).mono ?_
    rintro e x7 ⟨rfl, hX7⟩
    replace hD := hD.trans hX7
    go_wp2_with fail
    refine hK.out _ _ (keepS _ hD) (fun hHeld => ?_)
    clear hK K
    (try simp only [Act.put, List.setIfInBounds_toArray, List.set_cons_zero, List.set_cons_succ])
    refine held_call 47 rfl (by kernel_rfl) (fun K hK => ?_)
    go_simp
    go_at_call 34
    refine (C8.out _).mono ?_
    rintro e x8 ⟨rfl, hX8⟩
    replace hD := hD.trans hX8
    go_wp2_with fail
    refine hK.out _ _ (keepS _ hD) (fun hHeld => ?_)
    clear hK K
    (try simp only [Act.put, List.setIfInBounds_toArray, List.set_cons_zero, List.set_cons_succ])
    refine held_take 48 rfl (by kernel_rfl) (by kernel_rfl) (by kernel_rfl) (fun _ _ _ _ h => h) (by rfl) ?_ ?_ (by assumption) ?_
    rotate_left
    · (intro wx hSx; (try dsimp only at hSx); go_simp)
      all_goals with_reducible rfl
    (try simp only [Act.put, List.setIfInBounds_toArray, List.set_cons_zero, List.set_cons_succ])
    refine held_take 49 rfl (by kernel_rfl) (by kernel_rfl) (by kernel_rfl) (fun _ _ _ _ h => h) (by rfl) ?_ ?_ (by assumption) ?_
    rotate_left
    · (intro wx hSx; (try dsimp only at hSx); go_simp)
      all_goals with_reducible rfl
    (try simp only [Act.put, List.setIfInBounds_toArray, List.set_cons_zero, List.set_cons_succ])
    refine held_take 50 rfl (by kernel_rfl) (by kernel_rfl) (by kernel_rfl) (fun _ _ _ _ h => h) (by rfl) ?_ ?_ (by assumption) ?_
    rotate_left
    · (intro wx hSx; (try dsimp only at hSx); go_simp)
      all_goals with_reducible rfl
    (try simp only [Act.put, List.setIfInBounds_toArray, List.set_cons_zero, List.set_cons_succ])
    refine wpAnyH_done (by kernel_rfl) ?_ _
    go_wp2_with fail
    go_meet
    exact ⟨rfl, hD⟩
  case rest =>
    obtain ⟨rfl, hE14⟩ := hcut
    clear keepS hi1 hi2 hu heq hus his C1 C2 C3 C4 C5 C6 C7 C8
    replace hP1 := hP1.ext hE14
    replace hF := hF.trans hE14
    replace hX := hX.ext hE14
    replace hG := hG.trans hE14
    have s1 := hG.size
    have s2 := hE14.size
    have s0 := hF.size
    go_wp2_with fail
    refine (OverBytes _ _ _ _ _ _ hX (by omega) (by omega)).mono ?_
    rintro e w15 ⟨rfl, hG15⟩
    have hP15 := hP1.kept hG15 (by intro a ha he; have h1 := xB _ he.symm; have h2 := y2 _ (by rw [ha]; exact ownBk _ _ _); omega)
    have hF15 : Ext w w15 := hF.grown hG15 (fun q hq => by have := xB q hq; omega)
    go_wp2_with fail
    refine (KeptBytes _ _ _ _ _ _ _ _ _ hP15.sl HX.out (by omega) (h.ext hF15) hb hb).mono ?_
    rintro e w16 ⟨rfl, j16⟩
    have hE16 := drewE j16
    clear j16
    rw [decide_eq_true rfl]
    go_wp2_with fail
    refine (law9_awake _).mono ?_
    rintro e w17 ⟨rfl, hE17⟩
    go_wp2
    go_ret
    exact ⟨rfl, hF15.trans (hE16.trans hE17)⟩
theorem law_DirTells (w : World) (x : Slot × Slot × Slot × Slot) (A : Option Addr) (n c : Nat) (xs : List Nat) (h : Sl w A n c (by8 xs)) (hb : Bytes xs) (nm : ByteArray) (_hs : nm.size ≤ maxLen) :
    Calls Try.prog 5 #[.agg (ssV x).toArray, .slice A n c, .string nm] w fun e w' => e = .returned (.bool true) ∧ Ext w w' :=
  law9_tells w [x.1, x.2.1, x.2.2.1, x.2.2.2] rfl A n c xs h hb nm
end Go.Proofs.Ytngffmchjjpfbaa
