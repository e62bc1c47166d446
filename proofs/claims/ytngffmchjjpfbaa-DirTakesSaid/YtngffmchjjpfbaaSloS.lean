/- Slots of directories: what the document reads. -/
import Derived.Test.YtngffmchjjpfbaaSloR
namespace Go.Proofs.Ytngffmchjjpfbaa
set_option linter.unusedVariables false
open Go.RowKit
set_option maxRecDepth 100000 in
set_option maxHeartbeats 4000000 in
theorem ref9_Read (A : Option Addr) (n c : Nat) (xs : List Nat) (w : World) (h : Sl w A n c (by8 xs)) (hb : Bytes xs) :
    Calls Try.prog 26 #[.slice A n c] w fun e w' => e = .returned (.tuple #[.agg (LV (readDL xs)).toArray, .int .i64 (readDE xs : Nat)]) ∧ Ext w w' := by
  by_cases hk : kindOf xs = 68
  case neg =>
    have hno : ¬ rdOkD xs := fun h => hk h.1
    have H12 := hide (And.intro (show readDL xs = zL from if_neg hno) (show readDE xs = 3 from if_neg hno))
    have hO := fun w1 (hE : Ext w w1) => ref_Open_no 68 A n c xs w1 (h.ext hE) hb (.inr hk)
    clear hno hk
    go_enter Try.func26, Try.ntmps26
    go_wp2_with (first
      | (with_reducible refine ag_alloc (o := ⟨some 2, _, _, _, _, _⟩) rfl 40 rfl _ 12 zero_slots rfl (by omega) (LV_one zL) w.heap.size (Nat.le_refl _) ?_; intro w1 hR1 hE1 hz1)
      | (with_reducible refine ag_alloc (o := ⟨some 4, _, _, _, _, _⟩) rfl 40 rfl _ 12 zero_slots rfl (by omega) (LV_one zL) w1.heap.size (Nat.le_refl _) ?_; intro w2 hP2 hE2 hz2))
    refine (hO _ (hE1.trans hE2)).mono ?_
    rintro e w3 ⟨rfl, hE3⟩
    have hR3 := hR1.ext (hE2.trans hE3)
    have hP3 := hP2.ext hE3
    go_wp2_with (first
      | (with_reducible refine ag_load rfl 40 (.tmp 4) rfl w1.heap.size 12 w1.heap.size 40 _ rfl hP3 agg_slots info_slots ?_)
      | (with_reducible refine ag_store (o := ⟨none, _, _, _, _, _⟩) rfl 40 (.tmp 2) (.tmp 17) rfl w.heap.size 12 w.heap.size 40 _ (LV zL) rfl rfl hR3 rfl (LV_one _) info_slots ?_; intro w4 hR4 hG4))
    have hF4 := (hE1.trans (hE2.trans hE3)).grown hG4 (by simp)
    rw [H12.out.1, H12.out.2]
    exact bodyPost_ret (results_agg rfl _ rfl rfl hR4 agg_slots info_slots) rfl ⟨rfl, hF4⟩
  have hl := kind_len (xs := xs) (by omega)
  have hbl : (bodyOf xs).length = 123 := bodyOf_len hl
  have hbb : Bytes (bodyOf xs) := (hb.drop 1).take 123
  have HK := hide hk
  have HBL := hide hbl
  have hRD := rdOkD_lay hk
  have HRD := hide hRD
  clear hk hl hbl hRD
  have r1 : rdOkD xs → readDL xs = rdD (bodyOf xs) ∧ readDE xs = 0 := fun h => ⟨if_pos h, if_pos h⟩
  have r2 : ¬ rdOkD xs → readDL xs = zL ∧ readDE xs = 3 := fun h => ⟨if_neg h, if_neg h⟩
  have HR := hide (And.intro r1 r2)
  clear r1 r2
  go_enter Try.func26, Try.ntmps26
  go_wp2_with (first
    | (with_reducible refine ag_alloc (o := ⟨some 2, _, _, _, _, _⟩) rfl 40 rfl _ 12 zero_slots rfl (by omega) (LV_one zL) w.heap.size (Nat.le_refl _) ?_; intro w1 hR1 hE1 hz1)
    | (with_reducible refine ag_alloc (o := ⟨some 4, _, _, _, _, _⟩) rfl 40 rfl _ 12 zero_slots rfl (by omega) (LV_one zL) w1.heap.size (Nat.le_refl _) ?_; intro w2 hP2 hE2 hz2))
  refine (ref_Open 68 _ _ _ xs _ (h.ext (hE1.trans hE2)) hb (by omega) HK.out).mono ?_
  rintro e w3 ⟨gb, cb, rfl, hO3, hE3⟩
  have hnb := hO3.sl.nc
  have hgb : gb ≠ w1.heap.size := by have := (hO3.block gb rfl).1; omega
  generalize bodyOf xs = bs at *
  go_wp2_with fail
  go_loopw [7] (fun i wr => ∃ k : Nat, k ≤ 4 ∧ i = .int .i64 k ∧ Own wr w1.heap.size 40 (some ⟨w1.heap.size, 0, none⟩) 12 12 (LV (soD bs k)) ∧ Own wr w2.heap.size 5 (some ⟨gb, 0, none⟩) 123 cb (by8 bs) ∧ Ext w1 wr) (fun i _ => 4 - (intOf i).toNat)
  case atStart => exact ⟨0, by omega, rfl, by rw [soD_zero]; exact hP2.ext hE3, hO3, hE2.trans hE3⟩
  case round =>
    clear hP2 hO3 hE3
    obtain ⟨k, hk, rfl, hP, hB, hE⟩ := hrel
    by_cases hlt : k < 4
    · obtain ⟨_, _, x0, hA, hx0, hc0, hl0⟩ := hB.sl.at8 hbb (k := 28 * k) (by omega)
      simp at hA
      obtain ⟨rfl, rfl⟩ := hA
      simp only [Nat.zero_add] at hc0
      obtain ⟨_, _, x1, hA, hx1, hc1, hl1⟩ := hB.sl.at8 hbb (k := 28 * k + 1) (by omega)
      simp at hA
      obtain ⟨rfl, rfl⟩ := hA
      simp only [Nat.zero_add] at hc1
      obtain ⟨_, _, x2, hA, hx2, hc2, hl2⟩ := hB.sl.at8 hbb (k := 28 * k + 2) (by omega)
      simp at hA
      obtain ⟨rfl, rfl⟩ := hA
      simp only [Nat.zero_add] at hc2
      obtain ⟨_, _, x3, hA, hx3, hc3, hl3⟩ := hB.sl.at8 hbb (k := 28 * k + 3) (by omega)
      simp at hA
      obtain ⟨rfl, rfl⟩ := hA
      simp only [Nat.zero_add] at hc3
      have HX := hide (rdS_at hx0 hx1 hx2 hx3)
      have hi0 : (0 : Int) ≤ 28 * (k : Int) := by omega
      have hi1 : 28 * (k : Int) ≤ 123 := by omega
      have hi2 : 28 * (k : Int) ≤ (cb : Int) := by omega
      have hi3 : ¬ cb = 28 * k := by omega
      have hm' : (min (x3 : Int) 24) = ((min x3 24 : Nat) : Int) := by omega
      have hm24 : min x3 24 ≤ 24 := by omega
      generalize min x3 24 = m at *
      clear hx0 hx1 hx2 hx3
      have HMM := hide hm'
      clear hm'
      go_upto_region 9 with fail
      have hm := HMM.out
      have or1 := or_bytes hl0 hl1
      have sh1 : IntKind.i64.wrap ((x0 : Int) * 256) = (x0 : Int) * 256 := IntWalk.i64_in _ (by omega)
      have wb0 : IntKind.i64.wrap (x0 : Int) = (x0 : Int) := IntWalk.i64_in _ (by omega)
      have wb1 : IntKind.i64.wrap (x1 : Int) = (x1 : Int) := IntWalk.i64_in _ (by omega)
      have wb2 : IntKind.i64.wrap (x2 : Int) = (x2 : Int) := IntWalk.i64_in _ (by omega)
      have wb3 : IntKind.i64.wrap (x3 : Int) = (x3 : Int) := IntWalk.i64_in _ (by omega)
      have wm : IntKind.i64.wrap (4 + (m : Int)) = 4 + (m : Int) := IntWalk.i64_in _ (by omega)
      have hm0 : (0 : Int) ≤ 4 + (m : Int) := by omega
      have hm1 : (4 : Int) ≤ 4 + (m : Int) := by omega
      have hm2 : (4 : Int) + (m : Int) ≤ ((cb - 28 * k : Nat) : Int) := by omega
      have hm3 : ¬ cb - 28 * k = 4 := by omega
      have hm4 : ((4 : Int) + (m : Int)).toNat = 4 + m := by omega
      have hn1 : (1 : Int) < ((123 - 28 * k : Nat) : Int) := by omega
      have hn2 : (2 : Int) < ((123 - 28 * k : Nat) : Int) := by omega
      have hn3 : (3 : Int) < ((123 - 28 * k : Nat) : Int) := by omega
      have hn0 : 0 < 123 - 28 * k := by omega
      have keepS : ∀ w', Own w' w2.heap.size 5 (some ⟨gb, 0, none⟩) 123 cb (by8 bs) → (w'.cell? ⟨gb, 28 * k, none⟩ = some (.int .u8 (x0 : Nat)) ∧ w'.cell? ⟨gb, 28 * k + 1, none⟩ = some (.int .u8 (x1 : Nat)) ∧ w'.cell? ⟨gb, 28 * k + 2, none⟩ = some (.int .u8 (x2 : Nat)) ∧ w'.cell? ⟨gb, 28 * k + 3, none⟩ = some (.int .u8 (x3 : Nat))) ∧ Sl w' (some ⟨gb, 28 * k + 4, none⟩) m (cb - (28 * k + 4)) (by8 ((bs.drop (28 * k + 4)).take m)) := fun w' hO => by
        have hS := hO.sl.mid (28 * k + 4) m (by omega) (by omega)
        refine ⟨⟨?_, ?_, ?_, ?_⟩, hS⟩
        · rw [hO.cellAt _ (by omega), ← hB.cellAt _ (by omega)]; exact hc0
        · rw [hO.cellAt _ (by omega), ← hB.cellAt _ (by omega)]; exact hc1
        · rw [hO.cellAt _ (by omega), ← hB.cellAt _ (by omega)]; exact hc2
        · rw [hO.cellAt _ (by omega), ← hB.cellAt _ (by omega)]; exact hc3
      refine wp_region_held_drew (S := fun w' => (w'.cell? ⟨gb, 28 * k, none⟩ = some (.int .u8 (x0 : Nat)) ∧ w'.cell? ⟨gb, 28 * k + 1, none⟩ = some (.int .u8 (x1 : Nat)) ∧ w'.cell? ⟨gb, 28 * k + 2, none⟩ = some (.int .u8 (x2 : Nat)) ∧ w'.cell? ⟨gb, 28 * k + 3, none⟩ = some (.int .u8 (x3 : Nat))) ∧ Sl w' (some ⟨gb, 28 * k + 4, none⟩) m (cb - (28 * k + 4)) (by8 ((bs.drop (28 * k + 4)).take m))) (by kernel_rfl) (keepS _ (hB.ext (Ext.drew (Ext.refl _)))) (fun hHeld => ?_)
      refine held_take 0 rfl (by kernel_rfl) (by kernel_rfl) (by kernel_rfl) (fun _ _ _ _ h => h) (by rfl) ?_ ?_ (by assumption) ?_
      rotate_left
      · (intro wx hSx; (try dsimp only at hSx); go_simp)
        all_goals with_reducible rfl
      (try simp only [Act.put, List.setIfInBounds_toArray, List.set_cons_zero, List.set_cons_succ])
      refine held_take 1 rfl (by kernel_rfl) (by kernel_rfl) (by kernel_rfl) (fun _ _ _ _ h => h) (by rfl) ?_ ?_ (by assumption) ?_
      rotate_left
      · (intro wx hSx; (try dsimp only at hSx); go_simp)
        all_goals with_reducible rfl
      (try simp only [Act.put, List.setIfInBounds_toArray, List.set_cons_zero, List.set_cons_succ])
      refine held_take 2 rfl (by kernel_rfl) (by kernel_rfl) (by kernel_rfl) (fun _ _ _ _ h => h) (by rfl) ?_ ?_ (by assumption) ?_
      rotate_left
      · (intro wx hSx; (try dsimp only at hSx); go_simp)
        all_goals with_reducible rfl
      (try simp only [Act.put, List.setIfInBounds_toArray, List.set_cons_zero, List.set_cons_succ])
      refine held_take 3 rfl (by kernel_rfl) (by kernel_rfl) (by kernel_rfl) (fun _ _ _ _ h => h) (by rfl) ?_ ?_ (by assumption) ?_
      rotate_left
      · (intro wx hSx; (try dsimp only at hSx); go_simp)
        all_goals with_reducible rfl
      (try simp only [Act.put, List.setIfInBounds_toArray, List.set_cons_zero, List.set_cons_succ])
      refine held_take 4 rfl (by kernel_rfl) (by kernel_rfl) (by kernel_rfl) (fun _ _ _ _ h => h) (by rfl) ?_ ?_ (by assumption) ?_
      rotate_left
      · (intro wx hSx; (try dsimp only at hSx); go_simp)
        all_goals with_reducible rfl
      (try simp only [Act.put, List.setIfInBounds_toArray, List.set_cons_zero, List.set_cons_succ])
      refine held_take 5 rfl (by kernel_rfl) (by kernel_rfl) (by kernel_rfl) (fun _ _ _ _ h => h) (by rfl) ?_ ?_ (by assumption) ?_
      rotate_left
      · (intro wx hSx; (try dsimp only at hSx); go_simp)
        all_goals with_reducible rfl
      (try simp only [Act.put, List.setIfInBounds_toArray, List.set_cons_zero, List.set_cons_succ])
      refine held_take 6 rfl (by kernel_rfl) (by kernel_rfl) (by kernel_rfl) (fun _ _ _ _ h => h) (by rfl) ?_ ?_ (by assumption) ?_
      rotate_left
      · (intro wx hSx; (try dsimp only at hSx); go_simp)
        all_goals with_reducible rfl
      (try simp only [Act.put, List.setIfInBounds_toArray, List.set_cons_zero, List.set_cons_succ])
      refine held_take 7 rfl (by kernel_rfl) (by kernel_rfl) (by kernel_rfl) (fun _ _ _ _ h => h) (by rfl) ?_ ?_ (by assumption) ?_
      rotate_left
      · (intro wx hSx; (try dsimp only at hSx); go_simp)
        all_goals with_reducible rfl
      (try simp only [Act.put, List.setIfInBounds_toArray, List.set_cons_zero, List.set_cons_succ])
      refine held_take 8 rfl (by kernel_rfl) (by kernel_rfl) (by kernel_rfl) (fun _ _ _ _ h => h) (by rfl) ?_ ?_ (by assumption) ?_
      rotate_left
      · (intro wx hSx; (try dsimp only at hSx); go_simp)
        all_goals with_reducible rfl
      (try simp only [Act.put, List.setIfInBounds_toArray, List.set_cons_zero, List.set_cons_succ])
      refine held_take 9 rfl (by kernel_rfl) (by kernel_rfl) (by kernel_rfl) (fun _ _ _ _ h => h) (by rfl) ?_ ?_ (by assumption) ?_
      rotate_left
      · (intro wx hSx; (try dsimp only at hSx); go_simp)
        all_goals with_reducible rfl
      (try simp only [Act.put, List.setIfInBounds_toArray, List.set_cons_zero, List.set_cons_succ])
      refine held_take 10 rfl (by kernel_rfl) (by kernel_rfl) (by kernel_rfl) (fun _ _ _ _ h => h) (by rfl) ?_ ?_ (by assumption) ?_
      rotate_left
      · (intro wx hSx; (try dsimp only at hSx); go_simp)
        all_goals with_reducible rfl
      (try simp only [Act.put, List.setIfInBounds_toArray, List.set_cons_zero, List.set_cons_succ])
      refine held_take 11 rfl (by kernel_rfl) (by kernel_rfl) (by kernel_rfl) (fun _ _ _ _ h => h) (by rfl) ?_ ?_ (by assumption) ?_
      rotate_left
      · (intro wx hSx; (try dsimp only at hSx); go_simp)
        all_goals with_reducible rfl
      (try simp only [Act.put, List.setIfInBounds_toArray, List.set_cons_zero, List.set_cons_succ])
      refine held_take 12 rfl (by kernel_rfl) (by kernel_rfl) (by kernel_rfl) (fun _ _ _ _ h => h) (by rfl) ?_ ?_ (by assumption) ?_
      rotate_left
      · (intro wx hSx; (try dsimp only at hSx); go_simp)
        all_goals with_reducible rfl
      (try simp only [Act.put, List.setIfInBounds_toArray, List.set_cons_zero, List.set_cons_succ])
      refine held_take 13 rfl (by kernel_rfl) (by kernel_rfl) (by kernel_rfl) (fun _ _ _ _ h => h) (by rfl) ?_ ?_ (by assumption) ?_
      rotate_left
      · (intro wx hSx; (try dsimp only at hSx); go_simp)
        all_goals with_reducible rfl
      (try simp only [Act.put, List.setIfInBounds_toArray, List.set_cons_zero, List.set_cons_succ])
      refine held_take 14 rfl (by kernel_rfl) (by kernel_rfl) (by kernel_rfl) (fun _ _ _ _ h => h) (by rfl) ?_ ?_ (by assumption) ?_
      rotate_left
      · (intro wx hSx; (try dsimp only at hSx); go_simp)
        all_goals with_reducible rfl
      (try simp only [Act.put, List.setIfInBounds_toArray, List.set_cons_zero, List.set_cons_succ])
      refine held_take 15 rfl (by kernel_rfl) (by kernel_rfl) (by kernel_rfl) (fun _ _ _ _ h => h) (by rfl) ?_ ?_ (by assumption) ?_
      rotate_left
      · (intro wx hSx; (try dsimp only at hSx); go_simp)
        all_goals with_reducible rfl
      (try simp only [Act.put, List.setIfInBounds_toArray, List.set_cons_zero, List.set_cons_succ])
      refine held_take 16 rfl (by kernel_rfl) (by kernel_rfl) (by kernel_rfl) (fun _ _ _ _ h => h) (by rfl) ?_ ?_ (by assumption) ?_
      rotate_left
      · (intro wx hSx; (try dsimp only at hSx); go_simp)
        all_goals with_reducible rfl
      (try simp only [Act.put, List.setIfInBounds_toArray, List.set_cons_zero, List.set_cons_succ])
      refine held_take 17 rfl (by kernel_rfl) (by kernel_rfl) (by kernel_rfl) (fun _ _ _ _ h => h) (by rfl) ?_ ?_ (by assumption) ?_
      rotate_left
      · (intro wx hSx; (try dsimp only at hSx); go_simp)
        all_goals with_reducible rfl
      (try simp only [Act.put, List.setIfInBounds_toArray, List.set_cons_zero, List.set_cons_succ])
      refine held_take 18 rfl (by kernel_rfl) (by kernel_rfl) (by kernel_rfl) (fun _ _ _ _ h => h) (by rfl) ?_ ?_ (by assumption) ?_
      rotate_left
      · (intro wx hSx; (try dsimp only at hSx); go_simp)
        all_goals with_reducible rfl
      (try simp only [Act.put, List.setIfInBounds_toArray, List.set_cons_zero, List.set_cons_succ])
      refine held_take 19 rfl (by kernel_rfl) (by kernel_rfl) (by kernel_rfl) (fun _ _ _ _ h => h) (by rfl) ?_ ?_ (by assumption) ?_
      rotate_left
      · (intro wx hSx; (try dsimp only at hSx); go_simp)
        all_goals with_reducible rfl
      (try simp only [Act.put, List.setIfInBounds_toArray, List.set_cons_zero, List.set_cons_succ])
      refine held_take 20 rfl (by kernel_rfl) (by kernel_rfl) (by kernel_rfl) (fun _ _ _ _ h => h) (by rfl) ?_ ?_ (by assumption) ?_
      rotate_left
      · (intro wx hSx; (try dsimp only at hSx); go_simp)
        all_goals with_reducible rfl
      (try simp only [Act.put, List.setIfInBounds_toArray, List.set_cons_zero, List.set_cons_succ])
      refine held_take 21 rfl (by kernel_rfl) (by kernel_rfl) (by kernel_rfl) (fun _ _ _ _ h => h) (by rfl) ?_ ?_ (by assumption) ?_
      rotate_left
      · (intro wx hSx; (try dsimp only at hSx); go_simp)
        all_goals with_reducible rfl
      (try simp only [Act.put, List.setIfInBounds_toArray, List.set_cons_zero, List.set_cons_succ])
      refine held_take 22 rfl (by kernel_rfl) (by kernel_rfl) (by kernel_rfl) (fun _ _ _ _ h => h) (by rfl) ?_ ?_ (by assumption) ?_
      rotate_left
      · (intro wx hSx; (try dsimp only at hSx); go_simp)
        all_goals with_reducible rfl
      (try simp only [Act.put, List.setIfInBounds_toArray, List.set_cons_zero, List.set_cons_succ])
      refine held_take 23 rfl (by kernel_rfl) (by kernel_rfl) (by kernel_rfl) (fun _ _ _ _ h => h) (by rfl) (.string (strN ((bs.drop (28 * k + 4)).take m))) (fun wx hSx => held_conv rfl (str8 hSx.2)) (by assumption) ?_
      (try simp only [Act.put, List.setIfInBounds_toArray, List.set_cons_zero, List.set_cons_succ])
      refine held_take 24 rfl (by kernel_rfl) (by kernel_rfl) (by kernel_rfl) (fun _ _ _ _ h => h) (by rfl) ?_ ?_ (by assumption) ?_
      rotate_left
      · (intro wx hSx; (try dsimp only at hSx); go_simp)
        all_goals with_reducible rfl
      (try simp only [Act.put, List.setIfInBounds_toArray, List.set_cons_zero, List.set_cons_succ])
      refine held_take 25 rfl (by kernel_rfl) (by kernel_rfl) (by kernel_rfl) (fun _ _ _ _ h => h) (by rfl) ?_ ?_ (by assumption) ?_
      rotate_left
      · (intro wx hSx; (try dsimp only at hSx); go_simp)
        all_goals with_reducible rfl
      (try simp only [Act.put, List.setIfInBounds_toArray, List.set_cons_zero, List.set_cons_succ])
      refine held_call 26 rfl (by kernel_rfl) (fun K hK => ?_)
      refine step_storeAt rfl 39 (.tmp 51) (.tmp 50) rfl w1.heap.size (k * 3) 12 12 w1.heap.size 40 (LV (soD bs k)) (sV ((x0 : Int) * 256 + (x1 : Int), (x2 : Int), strN ((bs.drop (28 * k + 4)).take m))) rfl rfl (hP.ext (Ext.drew (Ext.refl _))) (by simp [sV]; omega) (sV_one _) info_slot ?_
      intro w4 hR4 hG4
      have hX4 : Ext w1 w4 := (hE.drew).grown hG4 (fun q hq => by simp at hq; omega)
      have hR5 : Own w4 w1.heap.size 40 (some ⟨w1.heap.size, 0, none⟩) 12 12 (LV (soD bs (k + 1))) := by
        rw [← soD_set bs k hlt, ← LV_put _ (by rw [soD_len bs k hk]; exact hlt), Nat.mul_comm k 28, HX.out]
        exact hR4
      have hB5 := (hB.ext (Ext.drew (Ext.refl _))).kept hG4 (by intro a ha he; simp at ha; subst ha; simp at he; exact hgb he)
      refine hK.out _ _ (keepS _ hB5) (fun hHeld => ?_)
      clear hK K
      refine wpAnyH_done (by kernel_rfl) ?_ _
      clear hHeld keepS hm
      go_wp2
      go_roundw
      case rel => exact ⟨k + 1, by omega, by go_num, hR5, hB5, hX4⟩
      case measure => simp [intOf]; omega
    · obtain rfl : k = 4 := by omega
      have hP : Own wr w1.heap.size 40 (some ⟨w1.heap.size, 0, none⟩) 12 12 (LV (rdD bs)) := hP
      have HDL := hide (rdD_len bs)
      have hLay := fun w => ref9_Lay (rdD bs) HDL.out w
      have hx := h.ext (hE1.trans hE)
      have hR4 := hR1.ext hE
      have hF4 := hE1.trans hE
      go_wp2_with (with_reducible refine ag_load rfl 40 (.tmp 4) rfl w1.heap.size 12 w1.heap.size 40 _ rfl hP agg_slots info_slots ?_)
      refine (hLay _).mono ?_
      rintro e w5 ⟨A5, n5, c5, rfl, hn5, hO5, hE5⟩
      have hR5 := hR4.ext hE5
      have hP5 := hP.ext hE5
      have hF5 := hF4.trans hE5
      have bl := Bytes.layDL (rdD bs)
      have hcv1 := str8 hO5.sl
      have hcv2 := str8 (hx.ext hE5)
      clear hLay hR4 hP hF4 hx
      rcases layDE_or (rdD bs) with h0 | h2
      · rw [h0]
        by_cases heq : layDL (rdD bs) = xs
        · have HN := hide (HR.out.1 (HRD.out.2 ⟨h0, heq⟩))
          have e1 : ((strN (layDL (rdD bs))).toList == (strN xs).toList) = true := by rw [strN_eq bl hb]; simpa using heq
          clear h0 heq
          go_wp2_with (first
            | (with_reducible refine ag_load rfl 40 (.tmp 4) rfl w1.heap.size 12 w1.heap.size 40 _ rfl hP5 agg_slots info_slots ?_)
            | (with_reducible refine ag_store (o := ⟨none, _, _, _, _, _⟩) rfl 40 (.tmp 2) (.tmp 67) rfl w.heap.size 12 w.heap.size 40 _ (LV (rdD bs)) rfl rfl hR5 (LV_len4 HDL.out) (LV_one _) info_slots ?_; intro w7 hR8 hG7; have hF7 := hF5.grown hG7 (by simp)))
          rw [HN.out.1, HN.out.2]
          exact bodyPost_ret (results_agg rfl _ rfl rfl hR8 agg_slots info_slots) rfl ⟨rfl, hF7⟩
        · have HN := hide (HR.out.2 (fun h => heq (HRD.out.1 h).2))
          have e1 : ((strN (layDL (rdD bs))).toList == (strN xs).toList) = false := by rw [strN_eq bl hb]; simpa using heq
          clear h0 heq
          go_wp2_with (first
            | (with_reducible refine ag_zero rfl 40 rfl _ (bld_slots _) ?_)
            | (with_reducible refine ag_store (o := ⟨none, _, _, _, _, _⟩) rfl 40 (.tmp 2) (.tmp 66) rfl w.heap.size 12 w.heap.size 40 _ (LV zL) rfl rfl hR5 rfl (LV_one _) info_slots ?_; intro w7 hR8 hG7; have hF7 := hF5.grown hG7 (by simp)))
          rw [HN.out.1, HN.out.2]
          exact bodyPost_ret (results_agg rfl _ rfl rfl hR8 agg_slots info_slots) rfl ⟨rfl, hF7⟩
      · have HN := hide (HR.out.2 (fun h => by rw [(HRD.out.1 h).1] at h2; cases h2))
        rw [h2]
        clear h2
        go_wp2_with (first
          | (with_reducible refine ag_zero rfl 40 rfl _ (bld_slots _) ?_)
          | (with_reducible refine ag_store (o := ⟨none, _, _, _, _, _⟩) rfl 40 (.tmp 2) (.tmp 66) rfl w.heap.size 12 w.heap.size 40 _ (LV zL) rfl rfl hR5 rfl (LV_one _) info_slots ?_; intro w7 hR8 hG7; have hF7 := hF5.grown hG7 (by simp)))
        rw [HN.out.1, HN.out.2]
        exact bodyPost_ret (results_agg rfl _ rfl rfl hR8 agg_slots info_slots) rfl ⟨rfl, hF7⟩
end Go.Proofs.Ytngffmchjjpfbaa
