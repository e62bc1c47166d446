/- The statements on directories: what every program answers. -/
import Derived.Test.YtngffmchjjpfbaaSloP
namespace Go.Proofs.Ytngffmchjjpfbaa
set_option linter.unusedVariables false
open Go.RowKit

def s9 : Slot := (5, 1, ⟨#[97]⟩)
def l9 : List Slot := [zS, zS, s9, zS]
theorem all9 : allS l9 4 := by decide +kernel
theorem find9a : findL l9 ⟨#[97]⟩ = 2 := by decide +kernel
theorem find9b : findL l9 ⟨#[98]⟩ = -1 := by decide +kernel
theorem free9 : freeL l9 = 0 := by decide +kernel
theorem name9a : okN ⟨#[97]⟩ = true := by decide +kernel
theorem name9b : okN ⟨#[46, 46]⟩ = false := by decide +kernel
theorem bld9a (w : World) : (Instr.build 39 #[(0, .int .i64 5), (1, .int .i64 1), (2, .string ⟨#[97]⟩)]).run Try.prog w = .ok (.agg (sV s9).toArray) w := by kernel_rfl
theorem bld9b (w : World) : (Instr.build 40 #[(2, .agg (sV s9).toArray)]).run Try.prog w = .ok (.agg (LV l9).toArray) w := by kernel_rfl
set_option maxRecDepth 100000 in
set_option maxHeartbeats 2000000 in
theorem law9_awake (w : World) : Calls Try.prog 22 #[] w fun e w' => e = .returned (.bool true) ∧ Ext w w' := by
  have x1 := fun w => Lay_slots l9 rfl all9 w
  have x2 := fun A n c w h hb => dir_Read A n c (layDL l9) w h hb
  rw [(readD_laid (ss := l9) rfl all9).1, (readD_laid (ss := l9) rfl all9).2] at x2
  have hbb := Bytes.layDL l9
  have heq := fun w => eq_slots l9 l9 rfl rfl w
  rw [decide_eq_true rfl] at heq
  have x3 := fun w => dir_Find l9 rfl ⟨#[97]⟩ w
  have x4 := fun w => dir_Find l9 rfl ⟨#[98]⟩ w
  have x5 := fun w => dir_Free l9 rfl w
  have x6 := fun w => dir_Name ⟨#[97]⟩ w
  have x7 := fun w => dir_Name ⟨#[46, 46]⟩ w
  rw [find9a] at x3
  rw [find9b] at x4
  rw [free9] at x5
  rw [name9a] at x6
  rw [name9b] at x7
  have X3 := hide x3
  have X4 := hide x4
  have X5 := hide x5
  have X6 := hide x6
  have X7 := hide x7
  have hF := Ext.refl w
  clear x3 x4 x5 x6 x7
  go_enter Try.func22, Try.ntmps22
  go_wp2_with (first
    | (refine ag_build (o := ⟨some 6, _, _, _, _, _⟩) rfl 39 _ rfl _ (bld9a _) ?_)
    | (refine ag_build (o := ⟨some 7, _, _, _, _, _⟩) rfl 40 _ rfl _ (bld9b _) ?_)
    | (with_reducible refine ag_alloc (o := ⟨some 1, _, _, _, _, _⟩) rfl 40 rfl _ 12 zero_slots rfl (by omega) (LV_one zL) w.heap.size (Nat.le_refl _) ?_; intro w1 hR1 hE1 hz1; replace hF := hF.trans hE1)
    | (with_reducible refine ag_store (o := ⟨none, _, _, _, _, _⟩) rfl 40 (.tmp 1) (.tmp 7) rfl w.heap.size 12 w.heap.size 40 _ (LV l9) rfl rfl hR1 rfl (LV_one _) info_slots ?_; intro w2 hB hG2; replace hF := hF.grown hG2 (by simp))
    | (with_reducible refine ag_load rfl 40 (.tmp 1) rfl w.heap.size 12 w.heap.size 40 _ rfl hB agg_slots info_slots ?_))
  refine (x1 _).mono ?_
  rintro e w3 ⟨A1, c1, rfl, hO1, hE3⟩
  replace hB := hB.ext hE3
  replace hF := hF.trans hE3
  go_wp2_with fail
  refine (x2 _ _ _ _ hO1.sl hbb).mono ?_
  rintro e w4 ⟨rfl, hE4⟩
  replace hB := hB.ext hE4
  replace hF := hF.trans hE4
  go_wp2_with (first
    | (with_reducible refine ag_alloc (o := ⟨some 4, _, _, _, _, _⟩) rfl 40 rfl _ 12 zero_slots rfl (by omega) (LV_one zL) w4.heap.size (Nat.le_refl _) ?_; intro w5 hR5 hE5 hz5)
    | (with_reducible refine ag_store (o := ⟨none, _, _, _, _, _⟩) rfl 40 (.tmp 4) (.tmp 16) rfl w4.heap.size 12 w4.heap.size 40 _ (LV l9) rfl rfl hR5 rfl (LV_one _) info_slots ?_; intro w6 hC hG6
       replace hB := hB.ext (hE5.grown hG6 (by simp))
       replace hF := hF.trans (hE5.grown hG6 (by simp)))
    | (with_reducible refine ag_load rfl 40 (.tmp 4) rfl w4.heap.size 12 w4.heap.size 40 _ rfl hC agg_slots info_slots ?_)
    | (with_reducible refine ag_load rfl 40 (.tmp 1) rfl w.heap.size 12 w.heap.size 40 _ rfl hB agg_slots info_slots ?_))
  refine (X3.out _).mono ?_
  rintro e w7 ⟨rfl, hE7⟩
  replace hB := hB.ext hE7
  replace hF := hF.trans hE7
  go_wp2_with (with_reducible refine ag_load rfl 40 (.tmp 1) rfl w.heap.size 12 w.heap.size 40 _ rfl hB agg_slots info_slots ?_)
  refine (X4.out _).mono ?_
  rintro e w8 ⟨rfl, hE8⟩
  replace hB := hB.ext hE8
  replace hF := hF.trans hE8
  go_wp2_with (with_reducible refine ag_load rfl 40 (.tmp 1) rfl w.heap.size 12 w.heap.size 40 _ rfl hB agg_slots info_slots ?_)
  refine (X5.out _).mono ?_
  rintro e w9 ⟨rfl, hE9⟩
  go_wp2_with fail
  refine (X6.out _).mono ?_
  rintro e w10 ⟨rfl, hE10⟩
  go_wp2_with fail
  refine (X7.out _).mono ?_
  rintro e w11 ⟨rfl, hE11⟩
  go_wp2_with fail
  go_ret
  exact ⟨rfl, hF.trans (hE9.trans (hE10.trans hE11))⟩
def greatL (ss : List Slot) : Bool := ss.any fun s => decide ((100 : Int) < s.2.2.size)
theorem great_step {ss : List Slot} {k : Nat} (h : k < ss.length) : greatL (ss.drop k) = (decide ((100 : Int) < (nS ss k).2.2.size) || greatL (ss.drop (k + 1))) := by
  rw [drop_nS h]
  rfl
set_option maxRecDepth 100000 in
set_option maxHeartbeats 1000000 in
theorem law9_great (ss : List Slot) (hl : ss.length = 4) (w : World) : Calls Try.prog 21 #[.agg (LV ss).toArray] w fun e w' => e = .returned (.bool (greatL ss)) ∧ Ext w w' := by
  have HL := hide hl
  have HLL := hide (LV_len4 hl)
  clear hl
  go_enter Try.func21, Try.ntmps21
  go_wp2_with (with_reducible refine ag_box rfl 40 (.tmp 0) rfl _ 12 rfl HLL.out (by omega) (LV_one ss) w.heap.size (Nat.le_refl _) ?_; intro w1 hB hE1 hz1)
  go_loopw [3] (fun j wr => ∃ k : Nat, k ≤ 4 ∧ j = .int .i64 k ∧ Hid (greatL ss = greatL (ss.drop k)) ∧ w1 = wr) (fun j _ => 4 - (intOf j).toNat)
  case atStart => exact ⟨0, by omega, rfl, rfl, rfl⟩
  case round =>
    obtain ⟨k, hk, rfl, ha, rfl⟩ := hrel
    by_cases hlt : k < 4
    · have hst := great_step (ss := ss) (k := k) (by rw [HL.out]; exact hlt)
      obtain ⟨x0, x1, x2⟩ := LV_at (ss := ss) (k := k) (by rw [HL.out]; exact hlt)
      generalize hs : nS ss k = s at x0 x1 x2 hst
      clear hs
      obtain ⟨i, d, a⟩ := s
      have HST := hide hst
      clear hst
      have c2 : w1.cell? ⟨w.heap.size, k * 3 + 2, none⟩ = some (.string a) := (hB.cellAt (k * 3 + 2) (by omega)).trans x2
      have hi4 : (k : Int) < 4 := by omega
      clear x0 x1 x2
      by_cases hi : (100 : Int) < a.size
      · have HN := hide (show greatL (ss.drop k) = true by rw [HST.out, decide_eq_true hi]; rfl)
        go_wp2_with fail
        go_ret
        exact ⟨ret_bool (by rw [ha.out, HN.out]), hE1⟩
      · have HN := hide (show greatL (ss.drop k) = greatL (ss.drop (k + 1)) by rw [HST.out, decide_eq_false hi]; rfl)
        go_wp2_with fail
        go_roundw
        case rel => exact ⟨k + 1, by omega, by go_num, by rw [ha.out, HN.out]; exact rfl, trivial⟩
        case measure => simp [intOf]; omega
    · obtain rfl : k = 4 := by omega
      go_wp2_with fail
      go_ret
      exact ⟨ret_bool (by rw [ha.out, List.drop_of_length_le (by rw [HL.out]; exact Nat.le_refl _)]; rfl), hE1⟩
end Go.Proofs.Ytngffmchjjpfbaa
