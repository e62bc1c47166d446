/- The statements on blocks of pointers. -/
import Derived.Test.YthfkacgehdfciaaPtrW
import Derived.Test.YthfkacgehdfciaaSum
import Derived.Test.YthfkacgehdfciaaFlat
import Derived.Deep.RegionHeld3
namespace Go.Proofs.Ythfkacgehdfciaa
open Go.RowKit

def f7 : List Int := [0, 0, 0, 700, 0, 0, 0, 0, 0, 0, 0, 0]
theorem bld_f7 (w : World) : (Instr.build 38 #[(3, .int .i64 700)]).run Try.prog w = .ok (.agg (i64s f7).toArray) w := by kernel_rfl
theorem f7_ok : f7.all word = true := by decide
theorem lay_f7 : layPL f7 = sealOf 80 (ptrB f7) ∧ layPE f7 = 0 := by
  unfold layPL layPE
  rw [if_pos f7_ok, if_pos f7_ok]
  exact ⟨rfl, rfl⟩
theorem read_ok {ps : List Int} (hl : ps.length = 12) (h : ps.all word = true) : readPL (sealOf 80 (ptrB ps)) = ps ∧ readPE (sealOf 80 (ptrB ps)) = 0 := by
  obtain ⟨h1, h2⟩ := read_lay hl h
  unfold readPL readPE
  rw [if_pos h1, if_pos h1]
  exact ⟨h2, rfl⟩
theorem kind_first {b : List Nat} {k : Nat} (h : kindOf b = k) (hk : 0 < k) : b.getD 0 0 = k := by
  unfold kindOf at h
  split at h <;> simp_all
theorem read_no {b : List Nat} (h : kindOf b ≠ 80) : readPL b = z12 ∧ readPE b = 3 := by
  have hn : ¬ readPOk b := fun hh => h hh.1
  unfold readPL readPE
  rw [if_neg hn, if_neg hn]
  exact ⟨rfl, rfl⟩
theorem lay_sz (ps : List Int) (hl : ps.length = 12) : (layPL ps).length = 128 ∨ layPL ps = [] := by
  unfold layPL
  split
  · left; exact sealOf_len (by rw [ptrB_len]; omega)
  · right; rfl
theorem Bytes.layPL (ps : List Int) : Bytes (layPL ps) := by
  unfold Go.Proofs.Ythfkacgehdfciaa.layPL
  split
  · exact Bytes.sealOf (by omega) (Bytes.ptrB ps)
  · exact Bytes.nil

set_option maxHeartbeats 1000000 in
theorem law8_awake (w : World) : Calls Try.prog 29 #[] w fun e w' => e = .returned (.bool true) ∧ Ext w w' := by
  have hf7 : f7.length = 12 := rfl
  have HLP := hide lay_f7
  have HRP := hide (read_ok hf7 f7_ok)
  have hz : readPL (List.replicate 128 0) = z12 ∧ readPE (List.replicate 128 0) = 3 := read_no (fun h => by have := kind_first h (by omega); simp at this)
  have HZ := hide hz
  clear hz hf7
  have hb : Bytes (sealOf 80 (ptrB f7)) := Bytes.sealOf (by omega) (Bytes.ptrB _)
  go_enter Try.func29, Try.ntmps29
  go_wp2_with (with_reducible refine ag_build (o := ⟨some 8, _, _, _, _, _⟩) rfl 38 _ rfl _ (bld_f7 _) ?_)
  refine (ptr_Lay f7 rfl _).mono ?_
  rintro e w1 ⟨A1, n1, c1, rfl, hn1, hO1, hE1⟩
  rw [HLP.out.2]
  rw [HLP.out.1] at hO1
  have hl1 : n1 = 128 := by have := hO1.len; rw [by8_len, sealOf_len (by rw [ptrB_len]; decide)] at this; omega
  subst hl1
  go_wp2_with fail
  refine (ptr_Read _ _ _ _ _ hO1.sl hb).mono ?_
  rintro e w2 ⟨rfl, hE2⟩
  rw [HRP.out.1, HRP.out.2]
  go_wp2_with (first
    | (with_reducible refine ag_alloc (o := ⟨some 3, _, _, _, _, _⟩) rfl 38 rfl _ 12 zero_fan rfl (by omega) (i64s_one _) w2.heap.size (Nat.le_refl _) ?_; intro w3 hR3 hE3 hz3)
    | (with_reducible refine ag_store (o := ⟨none, _, _, _, _, _⟩) rfl 38 (.tmp 3) (.tmp 15) rfl w2.heap.size 12 w2.heap.size 38 _ _ rfl rfl hR3 rfl (i64s_one _) info_fan ?_; intro w4 hR4 hG4
       have hE4 : Ext w2 w4 := hE3.grown hG4 (by simp))
    | (with_reducible refine mkl8 (o := ⟨some 18, _, _, _, _, _⟩) rfl _ _ rfl .i64 .i64 128 128 128 128 rfl rfl rfl rfl (Nat.le_refl _) (by omega) w4.heap.size (Nat.le_refl _) ?_; intro w5 hO5 hE5))
  rw [show (Value.int .u8 0) = Value.int .u8 ((0 : Nat) : Int) from rfl, by8_rep] at hO5
  refine (ptr_Read _ _ _ _ _ hO5.sl (Bytes.rep 128)).mono ?_
  rintro e w6 ⟨rfl, hE6⟩
  rw [HZ.out.1, HZ.out.2]
  have hR6 := hR4.ext (hE5.trans hE6)
  go_wp2_with (first
    | (with_reducible refine ag_alloc (o := ⟨some 5, _, _, _, _, _⟩) rfl 38 rfl _ 12 zero_fan rfl (by omega) (i64s_one _) w6.heap.size (Nat.le_refl _) ?_; intro w7 hR7 hE7 hz7)
    | (with_reducible refine ag_store (o := ⟨none, _, _, _, _, _⟩) rfl 38 (.tmp 5) (.tmp 20) rfl w6.heap.size 12 w6.heap.size 38 _ _ rfl rfl hR7 rfl (i64s_one _) info_fan ?_; intro w8 hR8 hG8
       have hE8 : Ext w6 w8 := hE7.grown hG8 (by simp)
       have hc8 : w8.cell? ⟨w2.heap.size, 3, none⟩ = some (.int .i64 700) := by rw [(hR6.ext hE8).cellAt 3 (by omega)]; rfl)
    | (with_reducible refine ag_zero (o := ⟨some 43, _, _, _, _, _⟩) ?hz1 38 rfl _ (bld_fan _) ?_; case hz1 => go_simp)
    | (go_at_call 34; refine (ptr_Empty z12 z12_len _).mono ?_; rintro e w9 ⟨rfl, hE9⟩; rw [decide_eq_true (rfl : z12 = z12)])
    | (with_reducible refine ag_load (o := ⟨some 47, _, _, _, _, _⟩) ?hz2 38 (.tmp 3) rfl w2.heap.size 12 w2.heap.size 38 _ rfl (hR6.ext (hE8.trans hE9)) agg_fan info_fan ?_; case hz2 => go_simp)
    | (go_at_call 34; refine (ptr_Empty f7 rfl _).mono ?_; rintro e w10 ⟨rfl, hE10⟩; rw [decide_eq_false (by decide : ¬ f7 = z12)]))
  go_ret
  exact ⟨rfl, hE1.trans (hE2.trans (hE4.trans (hE5.trans (hE6.trans (hE8.trans (hE9.trans hE10))))))⟩

set_option maxRecDepth 100000 in
set_option maxHeartbeats 2000000 in
theorem law_PtrTells (w : World) (ps : List Int) (hl : ps.length = 12) (_hp : ∀ p ∈ ps, -9223372036854775808 ≤ p ∧ p ≤ 9223372036854775807) (A : Option Addr) (n c : Nat) (xs : List Nat) (h : Sl w A n c (by8 xs)) (hb : Bytes xs) :
    Calls Try.prog 7 #[.agg (i64s ps).toArray, .slice A n c] w fun e w' => e = .returned (.bool true) ∧ Ext w w' := by
  have hxl : xs.length = n := by have := h.len; rwa [by8_len] at this
  have HX := hide hxl
  have HL := hide hl
  clear hxl hl
  by_cases hn : (200 : Int) < n
  · go_enter Try.func7, Try.ntmps7
    go_wp2_with (first
      | (with_reducible refine ag_box (o := ⟨some 2, _, _, _, _, _⟩) rfl 38 _ rfl _ 12 rfl (by rw [i64s_len]; exact HL.out) (by omega) (i64s_one ps) w.heap.size (Nat.le_refl _) ?_; intro w1 hB1 hE1 hz1)
      | (go_at_call 29; refine (law8_awake _).mono ?_; rintro e w2 ⟨rfl, hE2⟩))
    go_ret
    exact ⟨rfl, hE1.trans hE2⟩
  go_enter Try.func7, Try.ntmps7
  go_wp2_with (with_reducible refine ag_box (o := ⟨some 2, _, _, _, _, _⟩) rfl 38 _ rfl _ 12 rfl (by rw [i64s_len]; exact HL.out) (by omega) (i64s_one ps) w.heap.size (Nat.le_refl _) ?_; intro w0 hB0 hE0 hz0)
  refine (LendBytes _ _ _ _ _ (h.ext hE0) (by omega)).mono ?_
  rintro e w1 ⟨g1, rfl, hL1, hE1⟩
  have hF1 : Ext w w1 := hE0.trans hE1
  have hS1 : Sl w1 (some ⟨g1, 0, none⟩) n (n + 3) (by8 xs) := by
    have := hL1.sl.pre (m := n) (by omega)
    rw [by8_take, List.take_append_of_le_length (by rw [HX.out]; omega), List.take_of_length_le (by rw [HX.out]; omega)] at this
    exact this
  go_wp2_with (with_reducible refine ag_load (o := ⟨some 24, _, _, _, _, _⟩) rfl 38 (.tmp 2) rfl w.heap.size 12 w.heap.size 38 _ rfl (hB0.ext hE1) agg_fan info_fan ?_)
  refine (ptr_Lay ps HL.out _).mono ?_
  rintro e w2 ⟨A2, n2, c2, rfl, hn2, hO2, hE2⟩
  go_wp2_with (with_reducible refine ag_load (o := ⟨some 29, _, _, _, _, _⟩) rfl 38 (.tmp 2) rfl w.heap.size 12 w.heap.size 38 _ rfl (hB0.ext (hE1.trans hE2)) agg_fan info_fan ?_)
  refine (refptr_Lay ps HL.out _).mono ?_
  rintro e w3 ⟨A3, n3, c3, rfl, hn3, hO3, hE3⟩
  have hF3 : Ext w1 w3 := hE2.trans hE3
  go_wp2_with fail
  refine (ptr_Read _ _ _ _ _ (hS1.ext hF3) hb).mono ?_
  rintro e w4 ⟨rfl, hE4⟩
  go_wp2_with (first
    | (with_reducible refine ag_alloc (o := ⟨some 10, _, _, _, _, _⟩) rfl 38 rfl _ 12 zero_fan rfl (by omega) (i64s_one _) w4.heap.size (Nat.le_refl _) ?_; intro w5 hU5 hE5 hz5)
    | (with_reducible refine ag_store (o := ⟨none, _, _, _, _, _⟩) rfl 38 (.tmp 10) (.tmp 36) rfl w4.heap.size 12 w4.heap.size 38 _ _ rfl rfl hU5 (by rw [i64s_len, readPL_len]) (i64s_one _) info_fan ?_; intro w6 hU6 hG6
       have hE6 : Ext w4 w6 := hE5.grown hG6 (by simp)))
  have hF6 : Ext w1 w6 := hF3.trans (hE4.trans hE6)
  refine (refptr_Read _ _ _ _ _ (h.ext (hF1.trans hF6)) hb).mono ?_
  rintro e w7 ⟨rfl, hE7⟩
  go_wp2_with (first
    | (with_reducible refine ag_alloc (o := ⟨some 12, _, _, _, _, _⟩) rfl 38 rfl _ 12 zero_fan rfl (by omega) (i64s_one _) w7.heap.size (Nat.le_refl _) ?_; intro w8 hV8 hE8 hz8)
    | (with_reducible refine ag_store (o := ⟨none, _, _, _, _, _⟩) rfl 38 (.tmp 12) (.tmp 41) rfl w7.heap.size 12 w7.heap.size 38 _ _ rfl rfl hV8 (by rw [i64s_len, readPL_len]) (i64s_one _) info_fan ?_; intro w9 hV9 hG9
       have hE9 : Ext w7 w9 := hE8.grown hG9 (by simp)))
  have hF9 : Ext w1 w9 := hF6.trans (hE7.trans hE9)
  have hO29 := hO2.ext (hE3.trans (hE4.trans (hE6.trans (hE7.trans hE9))))
  refine (ptr_Read _ _ _ _ _ hO29.sl (Bytes.layPL ps)).mono ?_
  rintro e w10 ⟨rfl, hE10⟩
  go_wp2_with (first
    | (with_reducible refine ag_alloc (o := ⟨some 14, _, _, _, _, _⟩) rfl 38 rfl _ 12 zero_fan rfl (by omega) (i64s_one _) w10.heap.size (Nat.le_refl _) ?_; intro w11 hT11 hE11 hz11)
    | (with_reducible refine ag_store (o := ⟨none, _, _, _, _, _⟩) rfl 38 (.tmp 14) (.tmp 46) rfl w10.heap.size 12 w10.heap.size 38 _ _ rfl rfl hT11 (by rw [i64s_len, readPL_len]) (i64s_one _) info_fan ?_; intro w12 hT12 hG12
       have hE12 : Ext w10 w12 := hE11.grown hG12 (by simp)))
  have hF12 : Ext w1 w12 := hF9.trans (hE10.trans hE12)
  have hB12 := hB0.ext (hE1.trans hF12)
  have hU12 := hU6.ext (hE7.trans (hE9.trans (hE10.trans hE12)))
  have hV12 := hV9.ext (hE10.trans hE12)
  have hX12 := hO29.ext (hE10.trans hE12)
  have hY12 := hO3.ext (hE4.trans (hE6.trans (hE7.trans (hE9.trans (hE10.trans hE12)))))
  have keepS : ∀ w', Ext w12 w' → w'.rangeAt w.heap.size 0 (i64s ps) ∧ w'.rangeAt w4.heap.size 0 (i64s (readPL xs)) ∧ w'.rangeAt w7.heap.size 0 (i64s (readPL xs)) ∧ w'.rangeAt w10.heap.size 0 (i64s (readPL (layPL ps))) :=
    fun w' hE => ⟨(hB12.ext hE).range, (hU12.ext hE).range, (hV12.ext hE).range, (hT12.ext hE).range⟩
  have hu := Try.underlying38
  have hi1 : (Try.prog.info? 38).map (·.size) = some (i64s ps).length := by rw [i64s_len, HL.out]; exact info_fan
  have hi2 : (Try.prog.info? 38).map (·.size) = some (i64s (readPL xs)).length := by rw [i64s_len, readPL_len]; exact info_fan
  have hi3 : (Try.prog.info? 38).map (·.size) = some (i64s (readPL (layPL ps))).length := by rw [i64s_len, readPL_len]; exact info_fan
  have hq1 : ∀ w1, (Op.equalIn 10000 38 (.agg (i64s (readPL xs)).toArray) (.agg (i64s (readPL xs)).toArray)).run Try.prog w1 = .ok true w1 := by
    intro w1
    rw [eq_fan _ _ (readPL_len _) (readPL_len _), decide_eq_true rfl]
  have hq2 : ∀ w1, (Op.equalIn 10000 38 (.agg (i64s ps).toArray) (.agg (i64s z12).toArray)).run Try.prog w1 = .ok (decide (ps = z12)) w1 := fun w1 => eq_fan _ _ HL.out z12_len w1
  have hbld := bld_fan
  have HM := fun w1 => ptr_Empty ps HL.out w1
  generalize decide (ps = z12) = bz at hq2 HM
  clear hB0 hE0 hz0 hO2 hn3 hO3 hU5 hE5 hz5 hU6 hG6 hV8 hE8 hz8 hV9 hG9 hT11 hE11 hz11 hG12 hO29 hB12 hU12 hV12 hT12
  by_cases hok : ps.all word = true
  · have he1 : layPE ps = 0 := by unfold layPE; rw [if_pos hok]
    have hll : layPL ps = sealOf 80 (ptrB ps) := by unfold layPL; rw [if_pos hok]
    obtain ⟨hr1, hr2⟩ := read_ok HL.out hok
    rw [← hll] at hr1 hr2
    rw [he1, hr2]
    rw [hr1] at hi3 keepS
    have hq3 : ∀ w1, (Op.equalIn 10000 38 (.agg (i64s ps).toArray) (.agg (i64s ps).toArray)).run Try.prog w1 = .ok true w1 := by
      intro w1
      rw [eq_fan _ _ HL.out HL.out, decide_eq_true rfl]
    clear hok he1 hll hr1 hr2
    refine wp_region_held_drew (S := fun w' => w'.rangeAt w.heap.size 0 (i64s ps) ∧ w'.rangeAt w4.heap.size 0 (i64s (readPL xs)) ∧ w'.rangeAt w7.heap.size 0 (i64s (readPL xs)) ∧ w'.rangeAt w10.heap.size 0 (i64s ps)) (by kernel_rfl) (keepS _ (Ext.drew (Ext.refl _))) (fun hHeld => ?_)
    refine held_take 0 rfl (by kernel_rfl) (by kernel_rfl) (by kernel_rfl) (fun _ _ _ _ h => h) (by rfl) ?_ ?_ (by assumption) ?_
    rotate_left
    · (intro wx hSx; (try dsimp only at hSx); go_simp)
      all_goals with_reducible rfl
    (try simp only [Act.put, List.setIfInBounds_toArray, List.set_cons_zero, List.set_cons_succ])
    refine held_take 1 rfl (by kernel_rfl) (by kernel_rfl) (by kernel_rfl) (fun _ _ _ _ h => h) (by rfl) ?_ ?_ (by assumption) ?_
    rotate_left
    · (intro wx hSx; (try dsimp only at hSx); go_simp)
      all_goals with_reducible rfl
    (try simp only [Act.put, List.setIfInBounds_toArray, List.set_cons_zero, List.set_cons_succ])
    refine held_call 2 rfl (by kernel_rfl) (fun K hK => ?_)
    go_simp
    go_at_call 21
    refine (SameBytes _ _ _ _ _ _ _ _ _ (hX12.ext (Ext.drew (Ext.refl _))).sl (hY12.ext (Ext.drew (Ext.refl _))).sl (Bytes.layPL ps) (Bytes.layPL ps)).mono ?_
    rintro e w13 ⟨rfl, j13, hw13⟩
    have hE13 : Ext w12 w13 := by rw [hw13]; exact (Ext.drew (Ext.refl _)).drewN _
    clear hw13
    rw [decide_eq_true (rfl : layPL ps = layPL ps)]
    go_wp2_with fail
    refine hK.out _ _ (keepS _ hE13) (fun hHeld => ?_)
    clear hK K
    (try simp only [Act.put, List.setIfInBounds_toArray, List.set_cons_zero, List.set_cons_succ])
    refine held_take 3 rfl (by kernel_rfl) (by kernel_rfl) (by kernel_rfl) (fun _ _ _ _ h => h) (by rfl) ?_ ?_ (by assumption) ?_
    rotate_left
    · (intro wx hSx; (try dsimp only at hSx); go_simp)
      all_goals with_reducible rfl
    (try simp only [Act.put, List.setIfInBounds_toArray, List.set_cons_zero, List.set_cons_succ])
    refine held_take 4 rfl (by kernel_rfl) (by kernel_rfl) (by kernel_rfl) (fun _ _ _ _ h => h) (by rfl) ?_ ?_ (by assumption) ?_
    rotate_left
    · (intro wx hSx; (try dsimp only at hSx); go_simp)
      all_goals with_reducible rfl
    (try simp only [Act.put, List.setIfInBounds_toArray, List.set_cons_zero, List.set_cons_succ])
    refine held_take 5 rfl (by kernel_rfl) (by kernel_rfl) (by kernel_rfl) (fun _ _ _ _ h => h) (by rfl) ?_ ?_ (by assumption) ?_
    rotate_left
    · (intro wx hSx; (try dsimp only at hSx); go_simp)
      all_goals with_reducible rfl
    (try simp only [Act.put, List.setIfInBounds_toArray, List.set_cons_zero, List.set_cons_succ])
    refine held_take 6 rfl (by kernel_rfl) (by kernel_rfl) (by kernel_rfl) (fun _ _ _ _ h => h) (by rfl) ?_ ?_ (by assumption) ?_
    rotate_left
    · (intro wx hSx; (try dsimp only at hSx); go_simp)
      all_goals with_reducible rfl
    (try simp only [Act.put, List.setIfInBounds_toArray, List.set_cons_zero, List.set_cons_succ])
    refine held_take 7 rfl (by kernel_rfl) (by kernel_rfl) (by kernel_rfl) (fun _ _ _ _ h => h) (by rfl) ?_ ?_ (by assumption) ?_
    rotate_left
    · (intro wx hSx; (try dsimp only at hSx); go_simp)
      all_goals with_reducible rfl
    (try simp only [Act.put, List.setIfInBounds_toArray, List.set_cons_zero, List.set_cons_succ])
    refine held_take 8 rfl (by kernel_rfl) (by kernel_rfl) (by kernel_rfl) (fun _ _ _ _ h => h) (by rfl) ?_ ?_ (by assumption) ?_
    rotate_left
    · (intro wx hSx; (try dsimp only at hSx); go_simp)
      all_goals with_reducible rfl
    (try simp only [Act.put, List.setIfInBounds_toArray, List.set_cons_zero, List.set_cons_succ])
    refine held_load 9 rfl (by kernel_rfl) (by kernel_rfl) (by kernel_rfl) (fun _ _ _ _ h => h) (by rfl) 38 (.tmp 10) rfl w4.heap.size (i64s (readPL xs)) _ rfl (fun wx hSx => hSx.2.1) hu rfl hi2 (by assumption) ?_
    (try simp only [Act.put, List.setIfInBounds_toArray, List.set_cons_zero, List.set_cons_succ])
    refine held_load 10 rfl (by kernel_rfl) (by kernel_rfl) (by kernel_rfl) (fun _ _ _ _ h => h) (by rfl) 38 (.tmp 12) rfl w7.heap.size (i64s (readPL xs)) _ rfl (fun wx hSx => hSx.2.2.1) hu rfl hi2 (by assumption) ?_
    (try simp only [Act.put, List.setIfInBounds_toArray, List.set_cons_zero, List.set_cons_succ])
    refine held_take 11 rfl (by kernel_rfl) (by kernel_rfl) (by kernel_rfl) (fun _ _ _ _ h => h) (by rfl) ?_ ?_ (by assumption) ?_
    rotate_left
    · (intro wx hSx; (try dsimp only at hSx); go_simp)
      all_goals with_reducible rfl
    (try simp only [Act.put, List.setIfInBounds_toArray, List.set_cons_zero, List.set_cons_succ])
    refine held_take 12 rfl (by kernel_rfl) (by kernel_rfl) (by kernel_rfl) (fun _ _ _ _ h => h) (by rfl) ?_ ?_ (by assumption) ?_
    rotate_left
    · (intro wx hSx; (try dsimp only at hSx); go_simp)
      all_goals with_reducible rfl
    (try simp only [Act.put, List.setIfInBounds_toArray, List.set_cons_zero, List.set_cons_succ])
    refine held_take 13 rfl (by kernel_rfl) (by kernel_rfl) (by kernel_rfl) (fun _ _ _ _ h => h) (by rfl) ?_ ?_ (by assumption) ?_
    rotate_left
    · (intro wx hSx; (try dsimp only at hSx); go_simp)
      all_goals with_reducible rfl
    (try simp only [Act.put, List.setIfInBounds_toArray, List.set_cons_zero, List.set_cons_succ])
    refine held_take 14 rfl (by kernel_rfl) (by kernel_rfl) (by kernel_rfl) (fun _ _ _ _ h => h) (by rfl) ?_ ?_ (by assumption) ?_
    rotate_left
    · (intro wx hSx; (try dsimp only at hSx); go_simp)
      all_goals with_reducible rfl
    (try simp only [Act.put, List.setIfInBounds_toArray, List.set_cons_zero, List.set_cons_succ])
    refine held_take 15 rfl (by kernel_rfl) (by kernel_rfl) (by kernel_rfl) (fun _ _ _ _ h => h) (by rfl) ?_ ?_ (by assumption) ?_
    rotate_left
    · (intro wx hSx; (try dsimp only at hSx); go_simp)
      all_goals with_reducible rfl
    (try simp only [Act.put, List.setIfInBounds_toArray, List.set_cons_zero, List.set_cons_succ])
    refine held_take 16 rfl (by kernel_rfl) (by kernel_rfl) (by kernel_rfl) (fun _ _ _ _ h => h) (by rfl) ?_ ?_ (by assumption) ?_
    rotate_left
    · (intro wx hSx; (try dsimp only at hSx); go_simp)
      all_goals with_reducible rfl
    (try simp only [Act.put, List.setIfInBounds_toArray, List.set_cons_zero, List.set_cons_succ])
    refine held_take 17 rfl (by kernel_rfl) (by kernel_rfl) (by kernel_rfl) (fun _ _ _ _ h => h) (by rfl) ?_ ?_ (by assumption) ?_
    rotate_left
    · (intro wx hSx; (try dsimp only at hSx); go_simp)
      all_goals with_reducible rfl
    (try simp only [Act.put, List.setIfInBounds_toArray, List.set_cons_zero, List.set_cons_succ])
    refine held_take 18 rfl (by kernel_rfl) (by kernel_rfl) (by kernel_rfl) (fun _ _ _ _ h => h) (by rfl) ?_ ?_ (by assumption) ?_
    rotate_left
    · (intro wx hSx; (try dsimp only at hSx); go_simp)
      all_goals with_reducible rfl
    (try simp only [Act.put, List.setIfInBounds_toArray, List.set_cons_zero, List.set_cons_succ])
    refine held_load 19 rfl (by kernel_rfl) (by kernel_rfl) (by kernel_rfl) (fun _ _ _ _ h => h) (by rfl) 38 (.tmp 2) rfl w.heap.size (i64s ps) _ rfl (fun wx hSx => hSx.1) hu rfl hi1 (by assumption) ?_
    (try simp only [Act.put, List.setIfInBounds_toArray, List.set_cons_zero, List.set_cons_succ])
    refine held_load 21 rfl (by kernel_rfl) (by kernel_rfl) (by kernel_rfl) (fun _ _ _ _ h => h) (by rfl) 38 (.tmp 2) rfl w.heap.size (i64s ps) _ rfl (fun wx hSx => hSx.1) hu rfl hi1 (by assumption) ?_
    (try simp only [Act.put, List.setIfInBounds_toArray, List.set_cons_zero, List.set_cons_succ])
    refine held_take 22 rfl (by kernel_rfl) (by kernel_rfl) (by kernel_rfl) (fun _ _ _ _ h => h) (by rfl) (.agg (i64s z12).toArray) (fun wx _ => held_bld rfl bld_fan wx) (by assumption) ?_
    (try simp only [Act.put, List.setIfInBounds_toArray, List.set_cons_zero, List.set_cons_succ])
    refine held_take 23 rfl (by kernel_rfl) (by kernel_rfl) (by kernel_rfl) (fun _ _ _ _ h => h) (by rfl) ?_ ?_ (by assumption) ?_
    rotate_left
    · (intro wx hSx; (try dsimp only at hSx); go_simp)
      all_goals with_reducible rfl
    (try simp only [Act.put, List.setIfInBounds_toArray, List.set_cons_zero, List.set_cons_succ])
    refine held_call 20 rfl (by kernel_rfl) (fun K hK => ?_)
    go_simp
    go_at_call 34
    refine (HM _).mono ?_
    rintro e w14 ⟨rfl, hE14⟩
    go_wp2_with fail
    refine hK.out _ _ (keepS _ (hE13.trans hE14)) (fun hHeld => ?_)
    clear hK K
    (try simp only [Act.put, List.setIfInBounds_toArray, List.set_cons_zero, List.set_cons_succ])
    refine held_take 24 rfl (by kernel_rfl) (by kernel_rfl) (by kernel_rfl) (fun _ _ _ _ h => h) (by rfl) ?_ ?_ (by assumption) ?_
    rotate_left
    · (intro wx hSx; (try dsimp only at hSx); go_simp)
      all_goals with_reducible rfl
    (try simp only [Act.put, List.setIfInBounds_toArray, List.set_cons_zero, List.set_cons_succ])
    refine held_take 25 rfl (by kernel_rfl) (by kernel_rfl) (by kernel_rfl) (fun _ _ _ _ h => h) (by rfl) ?_ ?_ (by assumption) ?_
    rotate_left
    · (intro wx hSx; (try dsimp only at hSx); go_simp)
      all_goals with_reducible rfl
    (try simp only [Act.put, List.setIfInBounds_toArray, List.set_cons_zero, List.set_cons_succ])
    refine held_take 26 rfl (by kernel_rfl) (by kernel_rfl) (by kernel_rfl) (fun _ _ _ _ h => h) (by rfl) ?_ ?_ (by assumption) ?_
    rotate_left
    · (intro wx hSx; (try dsimp only at hSx); go_simp)
      all_goals with_reducible rfl
    (try simp only [Act.put, List.setIfInBounds_toArray, List.set_cons_zero, List.set_cons_succ])
    refine held_take 27 rfl (by kernel_rfl) (by kernel_rfl) (by kernel_rfl) (fun _ _ _ _ h => h) (by rfl) ?_ ?_ (by assumption) ?_
    rotate_left
    · (intro wx hSx; (try dsimp only at hSx); go_simp)
      all_goals with_reducible rfl
    (try simp only [Act.put, List.setIfInBounds_toArray, List.set_cons_zero, List.set_cons_succ])
    refine held_take 28 rfl (by kernel_rfl) (by kernel_rfl) (by kernel_rfl) (fun _ _ _ _ h => h) (by rfl) ?_ ?_ (by assumption) ?_
    rotate_left
    · (intro wx hSx; (try dsimp only at hSx); go_simp)
      all_goals with_reducible rfl
    (try simp only [Act.put, List.setIfInBounds_toArray, List.set_cons_zero, List.set_cons_succ])
    refine held_take 29 rfl (by kernel_rfl) (by kernel_rfl) (by kernel_rfl) (fun _ _ _ _ h => h) (by rfl) ?_ ?_ (by assumption) ?_
    rotate_left
    · (intro wx hSx; (try dsimp only at hSx); go_simp)
      all_goals with_reducible rfl
    (try simp only [Act.put, List.setIfInBounds_toArray, List.set_cons_zero, List.set_cons_succ])
    refine held_take 30 rfl (by kernel_rfl) (by kernel_rfl) (by kernel_rfl) (fun _ _ _ _ h => h) (by rfl) ?_ ?_ (by assumption) ?_
    rotate_left
    · (intro wx hSx; (try dsimp only at hSx); go_simp)
      all_goals with_reducible rfl
    (try simp only [Act.put, List.setIfInBounds_toArray, List.set_cons_zero, List.set_cons_succ])
    refine held_take 31 rfl (by kernel_rfl) (by kernel_rfl) (by kernel_rfl) (fun _ _ _ _ h => h) (by rfl) ?_ ?_ (by assumption) ?_
    rotate_left
    · (intro wx hSx; (try dsimp only at hSx); go_simp)
      all_goals with_reducible rfl
    (try simp only [Act.put, List.setIfInBounds_toArray, List.set_cons_zero, List.set_cons_succ])
    refine held_take 32 rfl (by kernel_rfl) (by kernel_rfl) (by kernel_rfl) (fun _ _ _ _ h => h) (by rfl) ?_ ?_ (by assumption) ?_
    rotate_left
    · (intro wx hSx; (try dsimp only at hSx); go_simp)
      all_goals with_reducible rfl
    (try simp only [Act.put, List.setIfInBounds_toArray, List.set_cons_zero, List.set_cons_succ])
    refine held_load 33 rfl (by kernel_rfl) (by kernel_rfl) (by kernel_rfl) (fun _ _ _ _ h => h) (by rfl) 38 (.tmp 14) rfl w10.heap.size (i64s ps) _ rfl (fun wx hSx => hSx.2.2.2) hu rfl hi1 (by assumption) ?_
    (try simp only [Act.put, List.setIfInBounds_toArray, List.set_cons_zero, List.set_cons_succ])
    refine held_load 34 rfl (by kernel_rfl) (by kernel_rfl) (by kernel_rfl) (fun _ _ _ _ h => h) (by rfl) 38 (.tmp 2) rfl w.heap.size (i64s ps) _ rfl (fun wx hSx => hSx.1) hu rfl hi1 (by assumption) ?_
    (try simp only [Act.put, List.setIfInBounds_toArray, List.set_cons_zero, List.set_cons_succ])
    refine held_take 35 rfl (by kernel_rfl) (by kernel_rfl) (by kernel_rfl) (fun _ _ _ _ h => h) (by rfl) ?_ ?_ (by assumption) ?_
    rotate_left
    · (intro wx hSx; (try dsimp only at hSx); go_simp)
      all_goals with_reducible rfl
    (try simp only [Act.put, List.setIfInBounds_toArray, List.set_cons_zero, List.set_cons_succ])
    refine held_take 36 rfl (by kernel_rfl) (by kernel_rfl) (by kernel_rfl) (fun _ _ _ _ h => h) (by rfl) ?_ ?_ (by assumption) ?_
    rotate_left
    · (intro wx hSx; (try dsimp only at hSx); go_simp)
      all_goals with_reducible rfl
    (try simp only [Act.put, List.setIfInBounds_toArray, List.set_cons_zero, List.set_cons_succ])
    refine held_take 37 rfl (by kernel_rfl) (by kernel_rfl) (by kernel_rfl) (fun _ _ _ _ h => h) (by rfl) ?_ ?_ (by assumption) ?_
    rotate_left
    · (intro wx hSx; (try dsimp only at hSx); go_simp)
      all_goals with_reducible rfl
    (try simp only [Act.put, List.setIfInBounds_toArray, List.set_cons_zero, List.set_cons_succ])
    refine held_take 38 rfl (by kernel_rfl) (by kernel_rfl) (by kernel_rfl) (fun _ _ _ _ h => h) (by rfl) ?_ ?_ (by assumption) ?_
    rotate_left
    · (intro wx hSx; (try dsimp only at hSx); go_simp)
      all_goals with_reducible rfl
    (try simp only [Act.put, List.setIfInBounds_toArray, List.set_cons_zero, List.set_cons_succ])
    refine held_take 39 rfl (by kernel_rfl) (by kernel_rfl) (by kernel_rfl) (fun _ _ _ _ h => h) (by rfl) ?_ ?_ (by assumption) ?_
    rotate_left
    · (intro wx hSx; (try dsimp only at hSx); go_simp)
      all_goals with_reducible rfl
    (try simp only [Act.put, List.setIfInBounds_toArray, List.set_cons_zero, List.set_cons_succ])
    refine wpAnyH_done (by kernel_rfl) ?_ _
    clear hHeld keepS hu hi1 hi2 hi3 hq1 hbld hq2 HM hq3
    have hD14 : Ext w12 w14 := hE13.trans hE14
    have hz12 := (hF1.trans hF12).size
    go_wp2_with fail
    refine (OverBytes _ _ _ _ _ _ (hX12.ext hD14) (by have := hF12.size; have := hD14.size; omega) (by omega)).mono ?_
    rintro e w15 ⟨rfl, hG15⟩
    have hD15 : Ext w1 w15 := (hF12.trans hD14).grown hG15 (fun q hq => (hX12.block q hq).1)
    have hL15 := hL1.ext hD15
    go_wp2_with fail
    refine (KeptBytes _ _ _ _ _ _ _ _ _ hL15.sl HX.out (by omega) (h.ext (hF1.trans hD15)) hb hb).mono ?_
    rintro e w16 ⟨rfl, j16, hw16⟩
    have hD16 : Ext w15 w16 := by rw [hw16]; exact (Ext.refl _).drewN _
    clear hw16
    rw [decide_eq_true (rfl : xs = xs)]
    go_wp2_with (go_at_call 29; refine (law8_awake _).mono ?_; rintro e w17 ⟨rfl, hE17⟩)
    go_ret
    exact ⟨rfl, hF1.trans (hD15.trans (hD16.trans hE17))⟩
  · have he1 : layPE ps = 2 := by unfold layPE; rw [if_neg hok]
    rw [he1]
    clear hok he1
    refine wp_region_held_drew (S := fun w' => w'.rangeAt w.heap.size 0 (i64s ps) ∧ w'.rangeAt w4.heap.size 0 (i64s (readPL xs)) ∧ w'.rangeAt w7.heap.size 0 (i64s (readPL xs)) ∧ w'.rangeAt w10.heap.size 0 (i64s (readPL (layPL ps)))) (by kernel_rfl) (keepS _ (Ext.drew (Ext.refl _))) (fun hHeld => ?_)
    refine held_take 0 rfl (by kernel_rfl) (by kernel_rfl) (by kernel_rfl) (fun _ _ _ _ h => h) (by rfl) ?_ ?_ (by assumption) ?_
    rotate_left
    · (intro wx hSx; (try dsimp only at hSx); go_simp)
      all_goals with_reducible rfl
    (try simp only [Act.put, List.setIfInBounds_toArray, List.set_cons_zero, List.set_cons_succ])
    refine held_take 1 rfl (by kernel_rfl) (by kernel_rfl) (by kernel_rfl) (fun _ _ _ _ h => h) (by rfl) ?_ ?_ (by assumption) ?_
    rotate_left
    · (intro wx hSx; (try dsimp only at hSx); go_simp)
      all_goals with_reducible rfl
    (try simp only [Act.put, List.setIfInBounds_toArray, List.set_cons_zero, List.set_cons_succ])
    refine held_call 2 rfl (by kernel_rfl) (fun K hK => ?_)
    go_simp
    go_at_call 21
    refine (SameBytes _ _ _ _ _ _ _ _ _ (hX12.ext (Ext.drew (Ext.refl _))).sl (hY12.ext (Ext.drew (Ext.refl _))).sl (Bytes.layPL ps) (Bytes.layPL ps)).mono ?_
    rintro e w13 ⟨rfl, j13, hw13⟩
    have hE13 : Ext w12 w13 := by rw [hw13]; exact (Ext.drew (Ext.refl _)).drewN _
    clear hw13
    rw [decide_eq_true (rfl : layPL ps = layPL ps)]
    go_wp2_with fail
    refine hK.out _ _ (keepS _ hE13) (fun hHeld => ?_)
    clear hK K
    (try simp only [Act.put, List.setIfInBounds_toArray, List.set_cons_zero, List.set_cons_succ])
    refine held_take 3 rfl (by kernel_rfl) (by kernel_rfl) (by kernel_rfl) (fun _ _ _ _ h => h) (by rfl) ?_ ?_ (by assumption) ?_
    rotate_left
    · (intro wx hSx; (try dsimp only at hSx); go_simp)
      all_goals with_reducible rfl
    (try simp only [Act.put, List.setIfInBounds_toArray, List.set_cons_zero, List.set_cons_succ])
    refine held_take 4 rfl (by kernel_rfl) (by kernel_rfl) (by kernel_rfl) (fun _ _ _ _ h => h) (by rfl) ?_ ?_ (by assumption) ?_
    rotate_left
    · (intro wx hSx; (try dsimp only at hSx); go_simp)
      all_goals with_reducible rfl
    (try simp only [Act.put, List.setIfInBounds_toArray, List.set_cons_zero, List.set_cons_succ])
    refine held_take 5 rfl (by kernel_rfl) (by kernel_rfl) (by kernel_rfl) (fun _ _ _ _ h => h) (by rfl) ?_ ?_ (by assumption) ?_
    rotate_left
    · (intro wx hSx; (try dsimp only at hSx); go_simp)
      all_goals with_reducible rfl
    (try simp only [Act.put, List.setIfInBounds_toArray, List.set_cons_zero, List.set_cons_succ])
    refine held_take 6 rfl (by kernel_rfl) (by kernel_rfl) (by kernel_rfl) (fun _ _ _ _ h => h) (by rfl) ?_ ?_ (by assumption) ?_
    rotate_left
    · (intro wx hSx; (try dsimp only at hSx); go_simp)
      all_goals with_reducible rfl
    (try simp only [Act.put, List.setIfInBounds_toArray, List.set_cons_zero, List.set_cons_succ])
    refine held_take 7 rfl (by kernel_rfl) (by kernel_rfl) (by kernel_rfl) (fun _ _ _ _ h => h) (by rfl) ?_ ?_ (by assumption) ?_
    rotate_left
    · (intro wx hSx; (try dsimp only at hSx); go_simp)
      all_goals with_reducible rfl
    (try simp only [Act.put, List.setIfInBounds_toArray, List.set_cons_zero, List.set_cons_succ])
    refine held_take 8 rfl (by kernel_rfl) (by kernel_rfl) (by kernel_rfl) (fun _ _ _ _ h => h) (by rfl) ?_ ?_ (by assumption) ?_
    rotate_left
    · (intro wx hSx; (try dsimp only at hSx); go_simp)
      all_goals with_reducible rfl
    (try simp only [Act.put, List.setIfInBounds_toArray, List.set_cons_zero, List.set_cons_succ])
    refine held_load 9 rfl (by kernel_rfl) (by kernel_rfl) (by kernel_rfl) (fun _ _ _ _ h => h) (by rfl) 38 (.tmp 10) rfl w4.heap.size (i64s (readPL xs)) _ rfl (fun wx hSx => hSx.2.1) hu rfl hi2 (by assumption) ?_
    (try simp only [Act.put, List.setIfInBounds_toArray, List.set_cons_zero, List.set_cons_succ])
    refine held_load 10 rfl (by kernel_rfl) (by kernel_rfl) (by kernel_rfl) (fun _ _ _ _ h => h) (by rfl) 38 (.tmp 12) rfl w7.heap.size (i64s (readPL xs)) _ rfl (fun wx hSx => hSx.2.2.1) hu rfl hi2 (by assumption) ?_
    (try simp only [Act.put, List.setIfInBounds_toArray, List.set_cons_zero, List.set_cons_succ])
    refine held_take 11 rfl (by kernel_rfl) (by kernel_rfl) (by kernel_rfl) (fun _ _ _ _ h => h) (by rfl) ?_ ?_ (by assumption) ?_
    rotate_left
    · (intro wx hSx; (try dsimp only at hSx); go_simp)
      all_goals with_reducible rfl
    (try simp only [Act.put, List.setIfInBounds_toArray, List.set_cons_zero, List.set_cons_succ])
    refine held_take 12 rfl (by kernel_rfl) (by kernel_rfl) (by kernel_rfl) (fun _ _ _ _ h => h) (by rfl) ?_ ?_ (by assumption) ?_
    rotate_left
    · (intro wx hSx; (try dsimp only at hSx); go_simp)
      all_goals with_reducible rfl
    (try simp only [Act.put, List.setIfInBounds_toArray, List.set_cons_zero, List.set_cons_succ])
    refine held_take 13 rfl (by kernel_rfl) (by kernel_rfl) (by kernel_rfl) (fun _ _ _ _ h => h) (by rfl) ?_ ?_ (by assumption) ?_
    rotate_left
    · (intro wx hSx; (try dsimp only at hSx); go_simp)
      all_goals with_reducible rfl
    (try simp only [Act.put, List.setIfInBounds_toArray, List.set_cons_zero, List.set_cons_succ])
    refine held_take 14 rfl (by kernel_rfl) (by kernel_rfl) (by kernel_rfl) (fun _ _ _ _ h => h) (by rfl) ?_ ?_ (by assumption) ?_
    rotate_left
    · (intro wx hSx; (try dsimp only at hSx); go_simp)
      all_goals with_reducible rfl
    (try simp only [Act.put, List.setIfInBounds_toArray, List.set_cons_zero, List.set_cons_succ])
    refine held_take 15 rfl (by kernel_rfl) (by kernel_rfl) (by kernel_rfl) (fun _ _ _ _ h => h) (by rfl) ?_ ?_ (by assumption) ?_
    rotate_left
    · (intro wx hSx; (try dsimp only at hSx); go_simp)
      all_goals with_reducible rfl
    (try simp only [Act.put, List.setIfInBounds_toArray, List.set_cons_zero, List.set_cons_succ])
    refine held_take 16 rfl (by kernel_rfl) (by kernel_rfl) (by kernel_rfl) (fun _ _ _ _ h => h) (by rfl) ?_ ?_ (by assumption) ?_
    rotate_left
    · (intro wx hSx; (try dsimp only at hSx); go_simp)
      all_goals with_reducible rfl
    (try simp only [Act.put, List.setIfInBounds_toArray, List.set_cons_zero, List.set_cons_succ])
    refine held_take 17 rfl (by kernel_rfl) (by kernel_rfl) (by kernel_rfl) (fun _ _ _ _ h => h) (by rfl) ?_ ?_ (by assumption) ?_
    rotate_left
    · (intro wx hSx; (try dsimp only at hSx); go_simp)
      all_goals with_reducible rfl
    (try simp only [Act.put, List.setIfInBounds_toArray, List.set_cons_zero, List.set_cons_succ])
    refine held_take 18 rfl (by kernel_rfl) (by kernel_rfl) (by kernel_rfl) (fun _ _ _ _ h => h) (by rfl) ?_ ?_ (by assumption) ?_
    rotate_left
    · (intro wx hSx; (try dsimp only at hSx); go_simp)
      all_goals with_reducible rfl
    (try simp only [Act.put, List.setIfInBounds_toArray, List.set_cons_zero, List.set_cons_succ])
    refine held_load 19 rfl (by kernel_rfl) (by kernel_rfl) (by kernel_rfl) (fun _ _ _ _ h => h) (by rfl) 38 (.tmp 2) rfl w.heap.size (i64s ps) _ rfl (fun wx hSx => hSx.1) hu rfl hi1 (by assumption) ?_
    (try simp only [Act.put, List.setIfInBounds_toArray, List.set_cons_zero, List.set_cons_succ])
    refine held_load 21 rfl (by kernel_rfl) (by kernel_rfl) (by kernel_rfl) (fun _ _ _ _ h => h) (by rfl) 38 (.tmp 2) rfl w.heap.size (i64s ps) _ rfl (fun wx hSx => hSx.1) hu rfl hi1 (by assumption) ?_
    (try simp only [Act.put, List.setIfInBounds_toArray, List.set_cons_zero, List.set_cons_succ])
    refine held_take 22 rfl (by kernel_rfl) (by kernel_rfl) (by kernel_rfl) (fun _ _ _ _ h => h) (by rfl) (.agg (i64s z12).toArray) (fun wx _ => held_bld rfl bld_fan wx) (by assumption) ?_
    (try simp only [Act.put, List.setIfInBounds_toArray, List.set_cons_zero, List.set_cons_succ])
    refine held_take 23 rfl (by kernel_rfl) (by kernel_rfl) (by kernel_rfl) (fun _ _ _ _ h => h) (by rfl) ?_ ?_ (by assumption) ?_
    rotate_left
    · (intro wx hSx; (try dsimp only at hSx); go_simp)
      all_goals with_reducible rfl
    (try simp only [Act.put, List.setIfInBounds_toArray, List.set_cons_zero, List.set_cons_succ])
    refine held_call 20 rfl (by kernel_rfl) (fun K hK => ?_)
    go_simp
    go_at_call 34
    refine (HM _).mono ?_
    rintro e w14 ⟨rfl, hE14⟩
    go_wp2_with fail
    refine hK.out _ _ (keepS _ (hE13.trans hE14)) (fun hHeld => ?_)
    clear hK K
    (try simp only [Act.put, List.setIfInBounds_toArray, List.set_cons_zero, List.set_cons_succ])
    refine held_take 24 rfl (by kernel_rfl) (by kernel_rfl) (by kernel_rfl) (fun _ _ _ _ h => h) (by rfl) ?_ ?_ (by assumption) ?_
    rotate_left
    · (intro wx hSx; (try dsimp only at hSx); go_simp)
      all_goals with_reducible rfl
    (try simp only [Act.put, List.setIfInBounds_toArray, List.set_cons_zero, List.set_cons_succ])
    refine held_take 25 rfl (by kernel_rfl) (by kernel_rfl) (by kernel_rfl) (fun _ _ _ _ h => h) (by rfl) ?_ ?_ (by assumption) ?_
    rotate_left
    · (intro wx hSx; (try dsimp only at hSx); go_simp)
      all_goals with_reducible rfl
    (try simp only [Act.put, List.setIfInBounds_toArray, List.set_cons_zero, List.set_cons_succ])
    refine held_take 26 rfl (by kernel_rfl) (by kernel_rfl) (by kernel_rfl) (fun _ _ _ _ h => h) (by rfl) ?_ ?_ (by assumption) ?_
    rotate_left
    · (intro wx hSx; (try dsimp only at hSx); go_simp)
      all_goals with_reducible rfl
    (try simp only [Act.put, List.setIfInBounds_toArray, List.set_cons_zero, List.set_cons_succ])
    refine held_take 27 rfl (by kernel_rfl) (by kernel_rfl) (by kernel_rfl) (fun _ _ _ _ h => h) (by rfl) ?_ ?_ (by assumption) ?_
    rotate_left
    · (intro wx hSx; (try dsimp only at hSx); go_simp)
      all_goals with_reducible rfl
    (try simp only [Act.put, List.setIfInBounds_toArray, List.set_cons_zero, List.set_cons_succ])
    refine held_take 28 rfl (by kernel_rfl) (by kernel_rfl) (by kernel_rfl) (fun _ _ _ _ h => h) (by rfl) ?_ ?_ (by assumption) ?_
    rotate_left
    · (intro wx hSx; (try dsimp only at hSx); go_simp)
      all_goals with_reducible rfl
    (try simp only [Act.put, List.setIfInBounds_toArray, List.set_cons_zero, List.set_cons_succ])
    refine held_take 29 rfl (by kernel_rfl) (by kernel_rfl) (by kernel_rfl) (fun _ _ _ _ h => h) (by rfl) ?_ ?_ (by assumption) ?_
    rotate_left
    · (intro wx hSx; (try dsimp only at hSx); go_simp)
      all_goals with_reducible rfl
    (try simp only [Act.put, List.setIfInBounds_toArray, List.set_cons_zero, List.set_cons_succ])
    refine held_skip 30 rfl (by kernel_rfl) (by kernel_rfl) (by kernel_rfl) (fun _ _ _ _ h => h) (by rfl) (by assumption) ?_
    (try simp only [Act.put, List.setIfInBounds_toArray, List.set_cons_zero, List.set_cons_succ])
    refine held_skip 31 rfl (by kernel_rfl) (by kernel_rfl) (by kernel_rfl) (fun _ _ _ _ h => h) (by rfl) (by assumption) ?_
    (try simp only [Act.put, List.setIfInBounds_toArray, List.set_cons_zero, List.set_cons_succ])
    refine held_skip 32 rfl (by kernel_rfl) (by kernel_rfl) (by kernel_rfl) (fun _ _ _ _ h => h) (by rfl) (by assumption) ?_
    (try simp only [Act.put, List.setIfInBounds_toArray, List.set_cons_zero, List.set_cons_succ])
    refine held_skip 33 rfl (by kernel_rfl) (by kernel_rfl) (by kernel_rfl) (fun _ _ _ _ h => h) (by rfl) (by assumption) ?_
    (try simp only [Act.put, List.setIfInBounds_toArray, List.set_cons_zero, List.set_cons_succ])
    refine held_skip 34 rfl (by kernel_rfl) (by kernel_rfl) (by kernel_rfl) (fun _ _ _ _ h => h) (by rfl) (by assumption) ?_
    (try simp only [Act.put, List.setIfInBounds_toArray, List.set_cons_zero, List.set_cons_succ])
    refine held_skip 35 rfl (by kernel_rfl) (by kernel_rfl) (by kernel_rfl) (fun _ _ _ _ h => h) (by rfl) (by assumption) ?_
    (try simp only [Act.put, List.setIfInBounds_toArray, List.set_cons_zero, List.set_cons_succ])
    refine held_skip 36 rfl (by kernel_rfl) (by kernel_rfl) (by kernel_rfl) (fun _ _ _ _ h => h) (by rfl) (by assumption) ?_
    (try simp only [Act.put, List.setIfInBounds_toArray, List.set_cons_zero, List.set_cons_succ])
    refine held_take 37 rfl (by kernel_rfl) (by kernel_rfl) (by kernel_rfl) (fun _ _ _ _ h => h) (by rfl) ?_ ?_ (by assumption) ?_
    rotate_left
    · (intro wx hSx; (try dsimp only at hSx); go_simp)
      all_goals with_reducible rfl
    (try simp only [Act.put, List.setIfInBounds_toArray, List.set_cons_zero, List.set_cons_succ])
    refine held_take 38 rfl (by kernel_rfl) (by kernel_rfl) (by kernel_rfl) (fun _ _ _ _ h => h) (by rfl) ?_ ?_ (by assumption) ?_
    rotate_left
    · (intro wx hSx; (try dsimp only at hSx); go_simp)
      all_goals with_reducible rfl
    (try simp only [Act.put, List.setIfInBounds_toArray, List.set_cons_zero, List.set_cons_succ])
    refine held_take 39 rfl (by kernel_rfl) (by kernel_rfl) (by kernel_rfl) (fun _ _ _ _ h => h) (by rfl) ?_ ?_ (by assumption) ?_
    rotate_left
    · (intro wx hSx; (try dsimp only at hSx); go_simp)
      all_goals with_reducible rfl
    (try simp only [Act.put, List.setIfInBounds_toArray, List.set_cons_zero, List.set_cons_succ])
    refine wpAnyH_done (by kernel_rfl) ?_ _
    clear hHeld keepS hu hi1 hi2 hi3 hq1 hbld hq2 HM
    have hD14 : Ext w12 w14 := hE13.trans hE14
    have hz12 := (hF1.trans hF12).size
    go_wp2_with fail
    refine (OverBytes _ _ _ _ _ _ (hX12.ext hD14) (by have := hF12.size; have := hD14.size; omega) (by omega)).mono ?_
    rintro e w15 ⟨rfl, hG15⟩
    have hD15 : Ext w1 w15 := (hF12.trans hD14).grown hG15 (fun q hq => (hX12.block q hq).1)
    have hL15 := hL1.ext hD15
    go_wp2_with fail
    refine (KeptBytes _ _ _ _ _ _ _ _ _ hL15.sl HX.out (by omega) (h.ext (hF1.trans hD15)) hb hb).mono ?_
    rintro e w16 ⟨rfl, j16, hw16⟩
    have hD16 : Ext w15 w16 := by rw [hw16]; exact (Ext.refl _).drewN _
    clear hw16
    rw [decide_eq_true (rfl : xs = xs)]
    go_wp2_with (go_at_call 29; refine (law8_awake _).mono ?_; rintro e w17 ⟨rfl, hE17⟩)
    go_ret
    exact ⟨rfl, hF1.trans (hD15.trans (hD16.trans hE17))⟩

theorem lay_bad {ps : List Int} (h : ¬ ps.all word = true) : layPE ps = 2 ∧ layPL ps = [] := by
  unfold layPE layPL
  rw [if_neg h, if_neg h]
  exact ⟨rfl, rfl⟩
theorem lay_good {ps : List Int} (h : ps.all word = true) : layPE ps = 0 ∧ layPL ps = sealOf 80 (ptrB ps) := by
  unfold layPE layPL
  rw [if_pos h, if_pos h]
  exact ⟨rfl, rfl⟩

set_option maxRecDepth 100000 in
set_option maxHeartbeats 2000000 in
theorem law_PtrApart (w : World) (ps : List Int) (hl : ps.length = 12) (_hp : ∀ p ∈ ps, -9223372036854775808 ≤ p ∧ p ≤ 9223372036854775807) (qs : List Int) (hl2 : qs.length = 12) (_hq : ∀ p ∈ qs, -9223372036854775808 ≤ p ∧ p ≤ 9223372036854775807)
    (z : Int) (_hz1 : -9223372036854775808 ≤ z) (_hz2 : z ≤ 9223372036854775807) (y : Nat) (hy : y < 256) :
    Calls Try.prog 8 #[.agg (i64s ps).toArray, .agg (i64s qs).toArray, .int .i64 z, .int .u8 y] w fun e w' => e = .returned (.bool true) ∧ Ext w w' := by
  have HL := hide hl
  have HL2 := hide hl2
  clear hl hl2
  go_enter Try.func8, Try.ntmps8
  go_wp2_with (first
    | (with_reducible refine ag_box (o := ⟨some 4, _, _, _, _, _⟩) rfl 38 _ rfl _ 12 rfl (by rw [i64s_len]; exact HL.out) (by omega) (i64s_one ps) w.heap.size (Nat.le_refl _) ?_; intro w0 hB0 hE0 hz0)
    | (with_reducible refine ag_box (o := ⟨some 5, _, _, _, _, _⟩) rfl 38 _ rfl _ 12 rfl (by rw [i64s_len]; exact HL2.out) (by omega) (i64s_one qs) w0.heap.size (Nat.le_refl _) ?_; intro w1 hC1 hE1 hz1)
    | (with_reducible refine ag_load (o := ⟨some 17, _, _, _, _, _⟩) rfl 38 (.tmp 4) rfl w.heap.size 12 w.heap.size 38 _ rfl (hB0.ext hE1) agg_fan info_fan ?_))
  refine (ptr_Lay ps HL.out _).mono ?_
  rintro e w2 ⟨A2, n2, c2, rfl, hn2, hO2, hE2⟩
  go_wp2_with (with_reducible refine ag_load (o := ⟨some 22, _, _, _, _, _⟩) rfl 38 (.tmp 5) rfl w0.heap.size 12 w0.heap.size 38 _ rfl (hC1.ext hE2) agg_fan info_fan ?_)
  refine (ptr_Lay qs HL2.out _).mono ?_
  rintro e w3 ⟨A3, n3, c3, rfl, hn3, hO3, hE3⟩
  have hl2' := hO2.len
  have hl3' := hO3.len
  rw [by8_len] at hl2' hl3'
  have hF3 : Ext w w3 := hE0.trans (hE1.trans (hE2.trans hE3))
  by_cases hok : ps.all word = true
  case neg =>
    obtain ⟨e1, e2⟩ := lay_bad hok
    rw [e1]
    rw [e2] at hl2'
    obtain rfl : n2 = 0 := by simpa using hl2'.symm
    by_cases hok2 : qs.all word = true
    · obtain ⟨e3, e4⟩ := lay_good hok2
      rw [e3]
      clear e1 e2 e3 e4 hl2' hl3' hok hok2
      go_wp2_with (go_at_call 29; refine (law8_awake _).mono ?_; rintro e w4 ⟨rfl, hE4⟩)
      go_ret
      exact ⟨rfl, hF3.trans hE4⟩
    · obtain ⟨e3, e4⟩ := lay_bad hok2
      rw [e3]
      rw [e4] at hl3'
      obtain rfl : n3 = 0 := by simpa using hl3'.symm
      clear e1 e2 e3 e4 hl2' hl3' hok hok2
      go_wp2_with (go_at_call 29; refine (law8_awake _).mono ?_; rintro e w4 ⟨rfl, hE4⟩)
      go_ret
      exact ⟨rfl, hF3.trans hE4⟩
  case pos =>
  obtain ⟨e1, e2⟩ := lay_good hok
  rw [e1]
  by_cases hok2 : qs.all word = true
  case neg =>
    obtain ⟨e3, e4⟩ := lay_bad hok2
    rw [e3]
    rw [e4] at hl3'
    obtain rfl : n3 = 0 := by simpa using hl3'.symm
    clear e1 e2 e3 e4 hl2' hl3' hok hok2
    go_wp2_with (go_at_call 29; refine (law8_awake _).mono ?_; rintro e w4 ⟨rfl, hE4⟩)
    go_ret
    exact ⟨rfl, hF3.trans hE4⟩
  case pos =>
  obtain ⟨e3, e4⟩ := lay_good hok2
  rw [e3]
  rw [e2] at hO2 hl2'
  rw [e4] at hO3 hl3'
  rw [sealOf_len (by rw [ptrB_len, HL.out]; omega)] at hl2'
  rw [sealOf_len (by rw [ptrB_len, HL2.out]; omega)] at hl3'
  subst hl2' hl3'
  have hR := read_ok HL.out hok
  have hR2 := read_ok HL2.out hok2
  have hinj : decide (sealOf 80 (ptrB ps) = sealOf 80 (ptrB qs)) = decide (ps = qs) := by
    apply decide_eq_decide.2
    exact ⟨fun h => by rw [← hR.1, h, hR2.1], fun h => by rw [h]⟩
  have hkd : kindOf (sealOf 80 (ptrB ps)) = 80 := kindOf_sealOf (by rw [ptrB_len, HL.out]; omega) (by omega)
  have hbs : Bytes (sealOf 80 (ptrB ps)) := Bytes.sealOf (by omega) (Bytes.ptrB ps)
  have hbs2 : Bytes (sealOf 80 (ptrB qs)) := Bytes.sealOf (by omega) (Bytes.ptrB qs)
  have HK := hide hkd
  have HR := hide hR
  have HI := hide hinj
  clear e1 e2 e3 e4 hok hok2 hR hR2 hinj hkd
  have hB3 := hB0.ext (hE1.trans (hE2.trans hE3))
  have hC3 := hC1.ext (hE2.trans hE3)
  have hX3 := hO2.ext hE3
  have hu := Try.underlying38
  have hi1 : (Try.prog.info? 38).map (·.size) = some (i64s ps).length := by rw [i64s_len, HL.out]; exact info_fan
  have hi2 : (Try.prog.info? 38).map (·.size) = some (i64s qs).length := by rw [i64s_len, HL2.out]; exact info_fan
  have keepS : ∀ w', Ext w3 w' → w'.rangeAt w.heap.size 0 (i64s ps) ∧ w'.rangeAt w0.heap.size 0 (i64s qs) := fun w' hE => ⟨(hB3.ext hE).range, (hC3.ext hE).range⟩
  have heq : ∀ w1, (Op.equalIn 10000 38 (.agg (i64s ps).toArray) (.agg (i64s qs).toArray)).run Try.prog w1 = .ok (decide (ps = qs)) w1 := fun w1 => eq_fan _ _ HL.out HL2.out w1
  generalize decide (ps = qs) = bs at heq HI
  clear hB0 hC1 hO2
  go_wp2_with fail
  refine wp_region_held_drew (S := fun w' => w'.rangeAt w.heap.size 0 (i64s ps) ∧ w'.rangeAt w0.heap.size 0 (i64s qs)) (by kernel_rfl) (keepS _ (Ext.drew (Ext.refl _))) (fun hHeld => ?_)
  refine held_take 0 rfl (by kernel_rfl) (by kernel_rfl) (by kernel_rfl) (fun _ _ _ _ h => h) (by rfl) ?_ ?_ (by assumption) ?_
  rotate_left
  · (intro wx hSx; (try dsimp only at hSx); go_simp)
    all_goals with_reducible rfl
  (try simp only [Act.put, List.setIfInBounds_toArray, List.set_cons_zero, List.set_cons_succ])
  refine held_take 1 rfl (by kernel_rfl) (by kernel_rfl) (by kernel_rfl) (fun _ _ _ _ h => h) (by rfl) ?_ ?_ (by assumption) ?_
  rotate_left
  · (intro wx hSx; (try dsimp only at hSx); go_simp)
    all_goals with_reducible rfl
  (try simp only [Act.put, List.setIfInBounds_toArray, List.set_cons_zero, List.set_cons_succ])
  refine held_load 3 rfl (by kernel_rfl) (by kernel_rfl) (by kernel_rfl) (fun _ _ _ _ h => h) (by rfl) 38 (.tmp 4) rfl w.heap.size (i64s ps) _ rfl (fun wx hSx => hSx.1) hu rfl hi1 (by assumption) ?_
  (try simp only [Act.put, List.setIfInBounds_toArray, List.set_cons_zero, List.set_cons_succ])
  refine held_load 4 rfl (by kernel_rfl) (by kernel_rfl) (by kernel_rfl) (fun _ _ _ _ h => h) (by rfl) 38 (.tmp 5) rfl w0.heap.size (i64s qs) _ rfl (fun wx hSx => hSx.2) hu rfl hi2 (by assumption) ?_
  (try simp only [Act.put, List.setIfInBounds_toArray, List.set_cons_zero, List.set_cons_succ])
  refine held_take 5 rfl (by kernel_rfl) (by kernel_rfl) (by kernel_rfl) (fun _ _ _ _ h => h) (by rfl) ?_ ?_ (by assumption) ?_
  rotate_left
  · (intro wx hSx; (try dsimp only at hSx); go_simp)
    all_goals with_reducible rfl
  (try simp only [Act.put, List.setIfInBounds_toArray, List.set_cons_zero, List.set_cons_succ])
  refine held_call 2 rfl (by kernel_rfl) (fun K hK => ?_)
  go_simp
  go_at_call 21
  refine (SameBytes _ _ _ _ _ _ _ _ _ (hX3.ext (Ext.drew (Ext.refl _))).sl (hO3.ext (Ext.drew (Ext.refl _))).sl hbs hbs2).mono ?_
  rintro e w4 ⟨rfl, j4, hw4⟩
  have hE4 : Ext w3 w4 := by rw [hw4]; exact (Ext.drew (Ext.refl _)).drewN _
  clear hw4
  rw [HI.out]
  go_wp2_with fail
  refine hK.out _ _ (keepS _ hE4) (fun hHeld => ?_)
  clear hK K
  (try simp only [Act.put, List.setIfInBounds_toArray, List.set_cons_zero, List.set_cons_succ])
  refine held_take 6 rfl (by kernel_rfl) (by kernel_rfl) (by kernel_rfl) (fun _ _ _ _ h => h) (by rfl) ?_ ?_ (by assumption) ?_
  rotate_left
  · (intro wx hSx; (try dsimp only at hSx); go_simp)
    all_goals with_reducible rfl
  (try simp only [Act.put, List.setIfInBounds_toArray, List.set_cons_zero, List.set_cons_succ])
  refine held_take 7 rfl (by kernel_rfl) (by kernel_rfl) (by kernel_rfl) (fun _ _ _ _ h => h) (by rfl) ?_ ?_ (by assumption) ?_
  rotate_left
  · (intro wx hSx; (try dsimp only at hSx); go_simp)
    all_goals with_reducible rfl
  (try simp only [Act.put, List.setIfInBounds_toArray, List.set_cons_zero, List.set_cons_succ])
  refine wpAnyH_done (by kernel_rfl) ?_ _
  clear hHeld keepS heq
  go_wp2_with fail
  refine (Low z _ 128 _ rfl (by omega) (by omega)).mono ?_
  rintro e w5 ⟨rfl, rfl⟩
  have hp := low_lt z (n := 128) (by omega)
  generalize low z 128 = p at *
  have hX4 := hX3.ext hE4
  obtain ⟨g4, rfl, hg4, _⟩ := hX4.head (by have := hX4.sl.nc; omega)
  obtain ⟨_, _, x, hA, hx, hc, hx2⟩ := hX4.sl.at8 hbs (k := p) (by omega)
  simp at hA
  obtain ⟨rfl, rfl⟩ := hA
  simp only [Nat.zero_add] at hc
  have hf := hX4.frozenAt p
  have hst := hX4.store p (.int .u8 ((x8 x y : Nat) : Int)) rfl
  rw [by8_set] at hst
  have hE5 : Ext w (w4.setCell ⟨g4, p, none⟩ (.int .u8 ((x8 x y : Nat) : Int))) := (hF3.trans hE4).setCell (by have := hE0.size; have := hE1.size; simp; omega) _
  have hB5 := (hB3.ext hE4).kept (hX4.1.stored p (.int .u8 ((x8 x y : Nat) : Int))).2 (by intro a ha he; simp at ha; subst ha; simp at he; omega)
  have hC5 := (hC3.ext hE4).kept (hX4.1.stored p (.int .u8 ((x8 x y : Nat) : Int))).2 (by intro a ha he; simp at ha; subst ha; simp at he; omega)
  have hbx := bits_x8 x y
  have HM := fun w1 => ptr_Empty qs HL2.out w1
  have hq2 : ∀ w1, (Op.equalIn 10000 38 (.agg (i64s qs).toArray) (.agg (i64s z12).toArray)).run Try.prog w1 = .ok (decide (qs = z12)) w1 := fun w1 => eq_fan _ _ HL2.out z12_len w1
  generalize decide (qs = z12) = bz at hq2 HM
  have hset : y = 0 → (sealOf 80 (ptrB ps)).set p (x8 x y) = sealOf 80 (ptrB ps) := by
    intro hy0
    rw [(x8_ne hx2 hy).2 hy0]
    apply List.ext_getElem?
    intro i
    rw [List.getElem?_set]
    split
    · rename_i h; subst h
      split
      · exact hx.out.symm
      · rename_i h; rw [List.getElem?_eq_none (by omega)]
    · rfl
  have hflip : y ≠ 0 → kindOf ((sealOf 80 (ptrB ps)).set p (x8 x y)) = 0 := fun hy0 =>
    kind_flip hbs (by rw [HK.out]; omega) hx.out (x8_lt x y) (fun h => hy0 ((x8_ne hx2 hy).1 h.symm))
  have HS := hide hset
  have HF := hide hflip
  clear hset hflip
  go_wp2_with fail
  generalize hwv : w4.setCell ⟨g4, p, none⟩ (.int .u8 ((x8 x y : Nat) : Int)) = w5 at *
  by_cases hy0 : y = 0
  · rw [HS.out hy0] at hst
    subst hy0
    refine (ptr_Read _ _ _ _ _ hst.sl hbs).mono ?_
    rintro e w6 ⟨rfl, hE6⟩
    rw [HR.out.1, HR.out.2]
    go_wp2_with (first
      | (with_reducible refine ag_alloc (o := ⟨some 14, _, _, _, _, _⟩) rfl 38 rfl _ 12 zero_fan rfl (by omega) (i64s_one _) w6.heap.size (Nat.le_refl _) ?_; intro w7 hR7 hE7 hz7)
      | (with_reducible refine ag_store (o := ⟨none, _, _, _, _, _⟩) rfl 38 (.tmp 14) (.tmp 87) rfl w6.heap.size 12 w6.heap.size 38 _ _ rfl rfl hR7 (by rw [i64s_len]; exact HL.out) (i64s_one _) info_fan ?_; intro w8 hR8 hG8
         have hE8 : Ext w6 w8 := hE7.grown hG8 (by simp)))
    have hF8 : Ext w w8 := hE5.trans (hE6.trans hE8)
    have hB8 := hB5.ext (hE6.trans hE8)
    have hC8 := hC5.ext (hE6.trans hE8)
    have keepS : ∀ w', Ext w8 w' → w'.rangeAt w.heap.size 0 (i64s ps) ∧ w'.rangeAt w0.heap.size 0 (i64s qs) ∧ w'.rangeAt w6.heap.size 0 (i64s ps) := fun w' hE => ⟨(hB8.ext hE).range, (hC8.ext hE).range, (hR8.ext hE).range⟩
    have hq3 : ∀ w1, (Op.equalIn 10000 38 (.agg (i64s ps).toArray) (.agg (i64s ps).toArray)).run Try.prog w1 = .ok true w1 := by
      intro w1
      rw [eq_fan _ _ HL.out HL.out, decide_eq_true rfl]
    refine wp_region_held_drew (S := fun w' => w'.rangeAt w.heap.size 0 (i64s ps) ∧ w'.rangeAt w0.heap.size 0 (i64s qs) ∧ w'.rangeAt w6.heap.size 0 (i64s ps)) (by kernel_rfl) (keepS _ (Ext.drew (Ext.refl _))) (fun hHeld => ?_)
    refine held_take 0 rfl (by kernel_rfl) (by kernel_rfl) (by kernel_rfl) (fun _ _ _ _ h => h) (by rfl) ?_ ?_ (by assumption) ?_
    rotate_left
    · (intro wx hSx; (try dsimp only at hSx); go_simp)
      all_goals with_reducible rfl
    (try simp only [Act.put, List.setIfInBounds_toArray, List.set_cons_zero, List.set_cons_succ])
    refine held_take 1 rfl (by kernel_rfl) (by kernel_rfl) (by kernel_rfl) (fun _ _ _ _ h => h) (by rfl) ?_ ?_ (by assumption) ?_
    rotate_left
    · (intro wx hSx; (try dsimp only at hSx); go_simp)
      all_goals with_reducible rfl
    (try simp only [Act.put, List.setIfInBounds_toArray, List.set_cons_zero, List.set_cons_succ])
    refine held_take 2 rfl (by kernel_rfl) (by kernel_rfl) (by kernel_rfl) (fun _ _ _ _ h => h) (by rfl) ?_ ?_ (by assumption) ?_
    rotate_left
    · (intro wx hSx; (try dsimp only at hSx); go_simp)
      all_goals with_reducible rfl
    (try simp only [Act.put, List.setIfInBounds_toArray, List.set_cons_zero, List.set_cons_succ])
    refine held_take 3 rfl (by kernel_rfl) (by kernel_rfl) (by kernel_rfl) (fun _ _ _ _ h => h) (by rfl) ?_ ?_ (by assumption) ?_
    rotate_left
    · (intro wx hSx; (try dsimp only at hSx); go_simp)
      all_goals with_reducible rfl
    (try simp only [Act.put, List.setIfInBounds_toArray, List.set_cons_zero, List.set_cons_succ])
    refine held_take 4 rfl (by kernel_rfl) (by kernel_rfl) (by kernel_rfl) (fun _ _ _ _ h => h) (by rfl) ?_ ?_ (by assumption) ?_
    rotate_left
    · (intro wx hSx; (try dsimp only at hSx); go_simp)
      all_goals with_reducible rfl
    (try simp only [Act.put, List.setIfInBounds_toArray, List.set_cons_zero, List.set_cons_succ])
    refine held_take 5 rfl (by kernel_rfl) (by kernel_rfl) (by kernel_rfl) (fun _ _ _ _ h => h) (by rfl) ?_ ?_ (by assumption) ?_
    rotate_left
    · (intro wx hSx; (try dsimp only at hSx); go_simp)
      all_goals with_reducible rfl
    (try simp only [Act.put, List.setIfInBounds_toArray, List.set_cons_zero, List.set_cons_succ])
    refine held_take 6 rfl (by kernel_rfl) (by kernel_rfl) (by kernel_rfl) (fun _ _ _ _ h => h) (by rfl) ?_ ?_ (by assumption) ?_
    rotate_left
    · (intro wx hSx; (try dsimp only at hSx); go_simp)
      all_goals with_reducible rfl
    (try simp only [Act.put, List.setIfInBounds_toArray, List.set_cons_zero, List.set_cons_succ])
    refine held_take 7 rfl (by kernel_rfl) (by kernel_rfl) (by kernel_rfl) (fun _ _ _ _ h => h) (by rfl) ?_ ?_ (by assumption) ?_
    rotate_left
    · (intro wx hSx; (try dsimp only at hSx); go_simp)
      all_goals with_reducible rfl
    (try simp only [Act.put, List.setIfInBounds_toArray, List.set_cons_zero, List.set_cons_succ])
    refine held_take 8 rfl (by kernel_rfl) (by kernel_rfl) (by kernel_rfl) (fun _ _ _ _ h => h) (by rfl) ?_ ?_ (by assumption) ?_
    rotate_left
    · (intro wx hSx; (try dsimp only at hSx); go_simp)
      all_goals with_reducible rfl
    (try simp only [Act.put, List.setIfInBounds_toArray, List.set_cons_zero, List.set_cons_succ])
    refine held_take 9 rfl (by kernel_rfl) (by kernel_rfl) (by kernel_rfl) (fun _ _ _ _ h => h) (by rfl) ?_ ?_ (by assumption) ?_
    rotate_left
    · (intro wx hSx; (try dsimp only at hSx); go_simp)
      all_goals with_reducible rfl
    (try simp only [Act.put, List.setIfInBounds_toArray, List.set_cons_zero, List.set_cons_succ])
    refine held_take 10 rfl (by kernel_rfl) (by kernel_rfl) (by kernel_rfl) (fun _ _ _ _ h => h) (by rfl) ?_ ?_ (by assumption) ?_
    rotate_left
    · (intro wx hSx; (try dsimp only at hSx); go_simp)
      all_goals with_reducible rfl
    (try simp only [Act.put, List.setIfInBounds_toArray, List.set_cons_zero, List.set_cons_succ])
    refine held_take 11 rfl (by kernel_rfl) (by kernel_rfl) (by kernel_rfl) (fun _ _ _ _ h => h) (by rfl) ?_ ?_ (by assumption) ?_
    rotate_left
    · (intro wx hSx; (try dsimp only at hSx); go_simp)
      all_goals with_reducible rfl
    (try simp only [Act.put, List.setIfInBounds_toArray, List.set_cons_zero, List.set_cons_succ])
    refine held_load 12 rfl (by kernel_rfl) (by kernel_rfl) (by kernel_rfl) (fun _ _ _ _ h => h) (by rfl) 38 (.tmp 14) rfl w6.heap.size (i64s ps) _ rfl (fun wx hSx => hSx.2.2) hu rfl hi1 (by assumption) ?_
    (try simp only [Act.put, List.setIfInBounds_toArray, List.set_cons_zero, List.set_cons_succ])
    refine held_load 13 rfl (by kernel_rfl) (by kernel_rfl) (by kernel_rfl) (fun _ _ _ _ h => h) (by rfl) 38 (.tmp 4) rfl w.heap.size (i64s ps) _ rfl (fun wx hSx => hSx.1) hu rfl hi1 (by assumption) ?_
    (try simp only [Act.put, List.setIfInBounds_toArray, List.set_cons_zero, List.set_cons_succ])
    refine held_take 14 rfl (by kernel_rfl) (by kernel_rfl) (by kernel_rfl) (fun _ _ _ _ h => h) (by rfl) ?_ ?_ (by assumption) ?_
    rotate_left
    · (intro wx hSx; (try dsimp only at hSx); go_simp)
      all_goals with_reducible rfl
    (try simp only [Act.put, List.setIfInBounds_toArray, List.set_cons_zero, List.set_cons_succ])
    refine held_take 15 rfl (by kernel_rfl) (by kernel_rfl) (by kernel_rfl) (fun _ _ _ _ h => h) (by rfl) ?_ ?_ (by assumption) ?_
    rotate_left
    · (intro wx hSx; (try dsimp only at hSx); go_simp)
      all_goals with_reducible rfl
    (try simp only [Act.put, List.setIfInBounds_toArray, List.set_cons_zero, List.set_cons_succ])
    refine held_take 16 rfl (by kernel_rfl) (by kernel_rfl) (by kernel_rfl) (fun _ _ _ _ h => h) (by rfl) ?_ ?_ (by assumption) ?_
    rotate_left
    · (intro wx hSx; (try dsimp only at hSx); go_simp)
      all_goals with_reducible rfl
    (try simp only [Act.put, List.setIfInBounds_toArray, List.set_cons_zero, List.set_cons_succ])
    refine held_take 17 rfl (by kernel_rfl) (by kernel_rfl) (by kernel_rfl) (fun _ _ _ _ h => h) (by rfl) ?_ ?_ (by assumption) ?_
    rotate_left
    · (intro wx hSx; (try dsimp only at hSx); go_simp)
      all_goals with_reducible rfl
    (try simp only [Act.put, List.setIfInBounds_toArray, List.set_cons_zero, List.set_cons_succ])
    refine held_load 18 rfl (by kernel_rfl) (by kernel_rfl) (by kernel_rfl) (fun _ _ _ _ h => h) (by rfl) 38 (.tmp 5) rfl w0.heap.size (i64s qs) _ rfl (fun wx hSx => hSx.2.1) hu rfl hi2 (by assumption) ?_
    (try simp only [Act.put, List.setIfInBounds_toArray, List.set_cons_zero, List.set_cons_succ])
    refine held_load 20 rfl (by kernel_rfl) (by kernel_rfl) (by kernel_rfl) (fun _ _ _ _ h => h) (by rfl) 38 (.tmp 5) rfl w0.heap.size (i64s qs) _ rfl (fun wx hSx => hSx.2.1) hu rfl hi2 (by assumption) ?_
    (try simp only [Act.put, List.setIfInBounds_toArray, List.set_cons_zero, List.set_cons_succ])
    refine held_take 21 rfl (by kernel_rfl) (by kernel_rfl) (by kernel_rfl) (fun _ _ _ _ h => h) (by rfl) (.agg (i64s z12).toArray) (fun wx _ => held_bld rfl bld_fan wx) (by assumption) ?_
    (try simp only [Act.put, List.setIfInBounds_toArray, List.set_cons_zero, List.set_cons_succ])
    refine held_take 22 rfl (by kernel_rfl) (by kernel_rfl) (by kernel_rfl) (fun _ _ _ _ h => h) (by rfl) ?_ ?_ (by assumption) ?_
    rotate_left
    · (intro wx hSx; (try dsimp only at hSx); go_simp)
      all_goals with_reducible rfl
    (try simp only [Act.put, List.setIfInBounds_toArray, List.set_cons_zero, List.set_cons_succ])
    refine held_call 19 rfl (by kernel_rfl) (fun K hK => ?_)
    go_simp
    go_at_call 34
    refine (HM _).mono ?_
    rintro e w10 ⟨rfl, hE10⟩
    have hE10 : Ext w8 w10 := (Ext.drew (Ext.refl _)).trans hE10
    go_wp2_with fail
    refine hK.out _ _ (keepS _ hE10) (fun hHeld => ?_)
    clear hK K
    (try simp only [Act.put, List.setIfInBounds_toArray, List.set_cons_zero, List.set_cons_succ])
    refine held_take 23 rfl (by kernel_rfl) (by kernel_rfl) (by kernel_rfl) (fun _ _ _ _ h => h) (by rfl) ?_ ?_ (by assumption) ?_
    rotate_left
    · (intro wx hSx; (try dsimp only at hSx); go_simp)
      all_goals with_reducible rfl
    (try simp only [Act.put, List.setIfInBounds_toArray, List.set_cons_zero, List.set_cons_succ])
    refine held_take 24 rfl (by kernel_rfl) (by kernel_rfl) (by kernel_rfl) (fun _ _ _ _ h => h) (by rfl) ?_ ?_ (by assumption) ?_
    rotate_left
    · (intro wx hSx; (try dsimp only at hSx); go_simp)
      all_goals with_reducible rfl
    (try simp only [Act.put, List.setIfInBounds_toArray, List.set_cons_zero, List.set_cons_succ])
    refine held_take 25 rfl (by kernel_rfl) (by kernel_rfl) (by kernel_rfl) (fun _ _ _ _ h => h) (by rfl) ?_ ?_ (by assumption) ?_
    rotate_left
    · (intro wx hSx; (try dsimp only at hSx); go_simp)
      all_goals with_reducible rfl
    (try simp only [Act.put, List.setIfInBounds_toArray, List.set_cons_zero, List.set_cons_succ])
    refine held_call 26 rfl (by kernel_rfl) (fun K hK => ?_)
    go_simp
    go_at_call 29
    refine (law8_awake _).mono ?_
    rintro e w11 ⟨rfl, hE11⟩
    go_wp2_with fail
    refine hK.out _ _ (keepS _ (hE10.trans hE11)) (fun hHeld => ?_)
    clear hK K
    (try simp only [Act.put, List.setIfInBounds_toArray, List.set_cons_zero, List.set_cons_succ])
    refine held_take 27 rfl (by kernel_rfl) (by kernel_rfl) (by kernel_rfl) (fun _ _ _ _ h => h) (by rfl) ?_ ?_ (by assumption) ?_
    rotate_left
    · (intro wx hSx; (try dsimp only at hSx); go_simp)
      all_goals with_reducible rfl
    (try simp only [Act.put, List.setIfInBounds_toArray, List.set_cons_zero, List.set_cons_succ])
    refine held_take 28 rfl (by kernel_rfl) (by kernel_rfl) (by kernel_rfl) (fun _ _ _ _ h => h) (by rfl) ?_ ?_ (by assumption) ?_
    rotate_left
    · (intro wx hSx; (try dsimp only at hSx); go_simp)
      all_goals with_reducible rfl
    (try simp only [Act.put, List.setIfInBounds_toArray, List.set_cons_zero, List.set_cons_succ])
    refine wpAnyH_done (by kernel_rfl) ?_ _
    clear hHeld
    go_wp2
    go_ret
    exact ⟨rfl, hF8.trans (hE10.trans hE11)⟩
  · have hyI : ((y : Int) == 0) = false := by simp; omega
    have hno : kindOf ((sealOf 80 (ptrB ps)).set p (x8 x y)) ≠ 80 := by rw [HF.out hy0]; omega
    obtain ⟨r1, r2⟩ := read_no hno
    clear hno
    refine (ptr_Read _ _ _ _ _ hst.sl (hbs.set _ (x8_lt x y))).mono ?_
    rintro e w6 ⟨rfl, hE6⟩
    rw [r1, r2]
    clear r1 r2
    go_wp2_with (first
      | (with_reducible refine ag_alloc (o := ⟨some 14, _, _, _, _, _⟩) rfl 38 rfl _ 12 zero_fan rfl (by omega) (i64s_one _) w6.heap.size (Nat.le_refl _) ?_; intro w7 hR7 hE7 hz7)
      | (with_reducible refine ag_store (o := ⟨none, _, _, _, _, _⟩) rfl 38 (.tmp 14) (.tmp 87) rfl w6.heap.size 12 w6.heap.size 38 _ _ rfl rfl hR7 (by rw [i64s_len, z12_len]) (i64s_one _) info_fan ?_; intro w8 hR8 hG8
         have hE8 : Ext w6 w8 := hE7.grown hG8 (by simp)))
    have hF8 : Ext w w8 := hE5.trans (hE6.trans hE8)
    have hB8 := hB5.ext (hE6.trans hE8)
    have hC8 := hC5.ext (hE6.trans hE8)
    have keepS : ∀ w', Ext w8 w' → w'.rangeAt w.heap.size 0 (i64s ps) ∧ w'.rangeAt w0.heap.size 0 (i64s qs) := fun w' hE => ⟨(hB8.ext hE).range, (hC8.ext hE).range⟩
    refine wp_region_held_drew (S := fun w' => w'.rangeAt w.heap.size 0 (i64s ps) ∧ w'.rangeAt w0.heap.size 0 (i64s qs)) (by kernel_rfl) (keepS _ (Ext.drew (Ext.refl _))) (fun hHeld => ?_)
    refine held_take 0 rfl (by kernel_rfl) (by kernel_rfl) (by kernel_rfl) (fun _ _ _ _ h => h) (by rfl) ?_ ?_ (by assumption) ?_
    rotate_left
    · (intro wx hSx; (try dsimp only at hSx); go_simp)
      all_goals with_reducible rfl
    (try simp only [Act.put, List.setIfInBounds_toArray, List.set_cons_zero, List.set_cons_succ])
    refine held_take 1 rfl (by kernel_rfl) (by kernel_rfl) (by kernel_rfl) (fun _ _ _ _ h => h) (by rfl) ?_ ?_ (by assumption) ?_
    rotate_left
    · (intro wx hSx; (try dsimp only at hSx); go_simp)
      all_goals with_reducible rfl
    (try simp only [Act.put, List.setIfInBounds_toArray, List.set_cons_zero, List.set_cons_succ])
    refine held_take 2 rfl (by kernel_rfl) (by kernel_rfl) (by kernel_rfl) (fun _ _ _ _ h => h) (by rfl) ?_ ?_ (by assumption) ?_
    rotate_left
    · (intro wx hSx; (try dsimp only at hSx); go_simp)
      all_goals with_reducible rfl
    (try simp only [Act.put, List.setIfInBounds_toArray, List.set_cons_zero, List.set_cons_succ])
    refine held_take 3 rfl (by kernel_rfl) (by kernel_rfl) (by kernel_rfl) (fun _ _ _ _ h => h) (by rfl) ?_ ?_ (by assumption) ?_
    rotate_left
    · (intro wx hSx; (try dsimp only at hSx); go_simp)
      all_goals with_reducible rfl
    (try simp only [Act.put, List.setIfInBounds_toArray, List.set_cons_zero, List.set_cons_succ])
    refine held_take 4 rfl (by kernel_rfl) (by kernel_rfl) (by kernel_rfl) (fun _ _ _ _ h => h) (by rfl) ?_ ?_ (by assumption) ?_
    rotate_left
    · (intro wx hSx; (try dsimp only at hSx); go_simp)
      all_goals with_reducible rfl
    (try simp only [Act.put, List.setIfInBounds_toArray, List.set_cons_zero, List.set_cons_succ])
    refine held_take 5 rfl (by kernel_rfl) (by kernel_rfl) (by kernel_rfl) (fun _ _ _ _ h => h) (by rfl) ?_ ?_ (by assumption) ?_
    rotate_left
    · (intro wx hSx; (try dsimp only at hSx); go_simp)
      all_goals with_reducible rfl
    (try simp only [Act.put, List.setIfInBounds_toArray, List.set_cons_zero, List.set_cons_succ])
    refine held_take 6 rfl (by kernel_rfl) (by kernel_rfl) (by kernel_rfl) (fun _ _ _ _ h => h) (by rfl) ?_ ?_ (by assumption) ?_
    rotate_left
    · (intro wx hSx; (try dsimp only at hSx); go_simp)
      all_goals with_reducible rfl
    (try simp only [Act.put, List.setIfInBounds_toArray, List.set_cons_zero, List.set_cons_succ])
    refine held_take 7 rfl (by kernel_rfl) (by kernel_rfl) (by kernel_rfl) (fun _ _ _ _ h => h) (by rfl) ?_ ?_ (by assumption) ?_
    rotate_left
    · (intro wx hSx; (try dsimp only at hSx); go_simp)
      all_goals with_reducible rfl
    (try simp only [Act.put, List.setIfInBounds_toArray, List.set_cons_zero, List.set_cons_succ])
    refine held_take 8 rfl (by kernel_rfl) (by kernel_rfl) (by kernel_rfl) (fun _ _ _ _ h => h) (by rfl) ?_ ?_ (by assumption) ?_
    rotate_left
    · (intro wx hSx; (try dsimp only at hSx); go_simp)
      all_goals with_reducible rfl
    (try simp only [Act.put, List.setIfInBounds_toArray, List.set_cons_zero, List.set_cons_succ])
    refine held_take 9 rfl (by kernel_rfl) (by kernel_rfl) (by kernel_rfl) (fun _ _ _ _ h => h) (by rfl) ?_ ?_ (by assumption) ?_
    rotate_left
    · (intro wx hSx; (try dsimp only at hSx); go_simp)
      all_goals with_reducible rfl
    (try simp only [Act.put, List.setIfInBounds_toArray, List.set_cons_zero, List.set_cons_succ])
    refine held_take 10 rfl (by kernel_rfl) (by kernel_rfl) (by kernel_rfl) (fun _ _ _ _ h => h) (by rfl) ?_ ?_ (by assumption) ?_
    rotate_left
    · (intro wx hSx; (try dsimp only at hSx); go_simp)
      all_goals with_reducible rfl
    (try simp only [Act.put, List.setIfInBounds_toArray, List.set_cons_zero, List.set_cons_succ])
    refine held_take 11 rfl (by kernel_rfl) (by kernel_rfl) (by kernel_rfl) (fun _ _ _ _ h => h) (by rfl) ?_ ?_ (by assumption) ?_
    rotate_left
    · (intro wx hSx; (try dsimp only at hSx); go_simp)
      all_goals with_reducible rfl
    (try simp only [Act.put, List.setIfInBounds_toArray, List.set_cons_zero, List.set_cons_succ])
    refine held_skip 12 rfl (by kernel_rfl) (by kernel_rfl) (by kernel_rfl) (fun _ _ _ _ h => h) (by rfl) (by assumption) ?_
    (try simp only [Act.put, List.setIfInBounds_toArray, List.set_cons_zero, List.set_cons_succ])
    refine held_skip 13 rfl (by kernel_rfl) (by kernel_rfl) (by kernel_rfl) (fun _ _ _ _ h => h) (by rfl) (by assumption) ?_
    (try simp only [Act.put, List.setIfInBounds_toArray, List.set_cons_zero, List.set_cons_succ])
    refine held_skip 14 rfl (by kernel_rfl) (by kernel_rfl) (by kernel_rfl) (fun _ _ _ _ h => h) (by rfl) (by assumption) ?_
    (try simp only [Act.put, List.setIfInBounds_toArray, List.set_cons_zero, List.set_cons_succ])
    refine held_take 15 rfl (by kernel_rfl) (by kernel_rfl) (by kernel_rfl) (fun _ _ _ _ h => h) (by rfl) ?_ ?_ (by assumption) ?_
    rotate_left
    · (intro wx hSx; (try dsimp only at hSx); go_simp)
      all_goals with_reducible rfl
    (try simp only [Act.put, List.setIfInBounds_toArray, List.set_cons_zero, List.set_cons_succ])
    refine held_take 16 rfl (by kernel_rfl) (by kernel_rfl) (by kernel_rfl) (fun _ _ _ _ h => h) (by rfl) ?_ ?_ (by assumption) ?_
    rotate_left
    · (intro wx hSx; (try dsimp only at hSx); go_simp)
      all_goals with_reducible rfl
    (try simp only [Act.put, List.setIfInBounds_toArray, List.set_cons_zero, List.set_cons_succ])
    refine held_take 17 rfl (by kernel_rfl) (by kernel_rfl) (by kernel_rfl) (fun _ _ _ _ h => h) (by rfl) ?_ ?_ (by assumption) ?_
    rotate_left
    · (intro wx hSx; (try dsimp only at hSx); go_simp)
      all_goals with_reducible rfl
    (try simp only [Act.put, List.setIfInBounds_toArray, List.set_cons_zero, List.set_cons_succ])
    refine held_load 18 rfl (by kernel_rfl) (by kernel_rfl) (by kernel_rfl) (fun _ _ _ _ h => h) (by rfl) 38 (.tmp 5) rfl w0.heap.size (i64s qs) _ rfl (fun wx hSx => hSx.2) hu rfl hi2 (by assumption) ?_
    (try simp only [Act.put, List.setIfInBounds_toArray, List.set_cons_zero, List.set_cons_succ])
    refine held_load 20 rfl (by kernel_rfl) (by kernel_rfl) (by kernel_rfl) (fun _ _ _ _ h => h) (by rfl) 38 (.tmp 5) rfl w0.heap.size (i64s qs) _ rfl (fun wx hSx => hSx.2) hu rfl hi2 (by assumption) ?_
    (try simp only [Act.put, List.setIfInBounds_toArray, List.set_cons_zero, List.set_cons_succ])
    refine held_take 21 rfl (by kernel_rfl) (by kernel_rfl) (by kernel_rfl) (fun _ _ _ _ h => h) (by rfl) (.agg (i64s z12).toArray) (fun wx _ => held_bld rfl bld_fan wx) (by assumption) ?_
    (try simp only [Act.put, List.setIfInBounds_toArray, List.set_cons_zero, List.set_cons_succ])
    refine held_take 22 rfl (by kernel_rfl) (by kernel_rfl) (by kernel_rfl) (fun _ _ _ _ h => h) (by rfl) ?_ ?_ (by assumption) ?_
    rotate_left
    · (intro wx hSx; (try dsimp only at hSx); go_simp)
      all_goals with_reducible rfl
    (try simp only [Act.put, List.setIfInBounds_toArray, List.set_cons_zero, List.set_cons_succ])
    refine held_call 19 rfl (by kernel_rfl) (fun K hK => ?_)
    go_simp
    go_at_call 34
    refine (HM _).mono ?_
    rintro e w10 ⟨rfl, hE10⟩
    have hE10 : Ext w8 w10 := (Ext.drew (Ext.refl _)).trans hE10
    go_wp2_with fail
    refine hK.out _ _ (keepS _ hE10) (fun hHeld => ?_)
    clear hK K
    (try simp only [Act.put, List.setIfInBounds_toArray, List.set_cons_zero, List.set_cons_succ])
    refine held_take 23 rfl (by kernel_rfl) (by kernel_rfl) (by kernel_rfl) (fun _ _ _ _ h => h) (by rfl) ?_ ?_ (by assumption) ?_
    rotate_left
    · (intro wx hSx; (try dsimp only at hSx); go_simp)
      all_goals with_reducible rfl
    (try simp only [Act.put, List.setIfInBounds_toArray, List.set_cons_zero, List.set_cons_succ])
    refine held_take 24 rfl (by kernel_rfl) (by kernel_rfl) (by kernel_rfl) (fun _ _ _ _ h => h) (by rfl) ?_ ?_ (by assumption) ?_
    rotate_left
    · (intro wx hSx; (try dsimp only at hSx); go_simp)
      all_goals with_reducible rfl
    (try simp only [Act.put, List.setIfInBounds_toArray, List.set_cons_zero, List.set_cons_succ])
    refine held_take 25 rfl (by kernel_rfl) (by kernel_rfl) (by kernel_rfl) (fun _ _ _ _ h => h) (by rfl) ?_ ?_ (by assumption) ?_
    rotate_left
    · (intro wx hSx; (try dsimp only at hSx); go_simp)
      all_goals with_reducible rfl
    (try simp only [Act.put, List.setIfInBounds_toArray, List.set_cons_zero, List.set_cons_succ])
    refine held_call 26 rfl (by kernel_rfl) (fun K hK => ?_)
    go_simp
    go_at_call 29
    refine (law8_awake _).mono ?_
    rintro e w11 ⟨rfl, hE11⟩
    go_wp2_with fail
    refine hK.out _ _ (keepS _ (hE10.trans hE11)) (fun hHeld => ?_)
    clear hK K
    (try simp only [Act.put, List.setIfInBounds_toArray, List.set_cons_zero, List.set_cons_succ])
    refine held_take 27 rfl (by kernel_rfl) (by kernel_rfl) (by kernel_rfl) (fun _ _ _ _ h => h) (by rfl) ?_ ?_ (by assumption) ?_
    rotate_left
    · (intro wx hSx; (try dsimp only at hSx); go_simp)
      all_goals with_reducible rfl
    (try simp only [Act.put, List.setIfInBounds_toArray, List.set_cons_zero, List.set_cons_succ])
    refine held_take 28 rfl (by kernel_rfl) (by kernel_rfl) (by kernel_rfl) (fun _ _ _ _ h => h) (by rfl) ?_ ?_ (by assumption) ?_
    rotate_left
    · (intro wx hSx; (try dsimp only at hSx); go_simp)
      all_goals with_reducible rfl
    (try simp only [Act.put, List.setIfInBounds_toArray, List.set_cons_zero, List.set_cons_succ])
    refine wpAnyH_done (by kernel_rfl) ?_ _
    clear hHeld
    go_wp2
    go_ret
    exact ⟨rfl, hF8.trans (hE10.trans hE11)⟩
end Go.Proofs.Ythfkacgehdfciaa
