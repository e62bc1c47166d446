/- The statements on blocks of pointers. -/
import Derived.Test.YthfkacgehdfciaaPtrW
import Derived.Test.YthfkacgehdfciaaSum
import Derived.Test.YthfkacgehdfciaaFlat
import Derived.Deep.RegionHeld3
namespace Go.Proofs.Ythfkacgehdfciaa
open Go.RowKit

def f7 : List Int := [0, 0, 0, 700, 0, 0, 0, 0, 0, 0, 0, 0]
theorem bld_f7 (w : World) : (Instr.build 38 #[(3, .int .i64 700)]).run Try.prog w = .ok (.agg (i64s f7).toArray) w := by kernel_rfl
theorem f7_ok : f7.all word = true := by decide
theorem lay_f7 : layPL f7 = sealOf 80 (ptrB f7) ∧ layPE f7 = 0 := by
  unfold layPL layPE
  rw [if_pos f7_ok, if_pos f7_ok]
  exact ⟨rfl, rfl⟩
theorem read_ok {ps : List Int} (hl : ps.length = 12) (h : ps.all word = true) : readPL (sealOf 80 (ptrB ps)) = ps ∧ readPE (sealOf 80 (ptrB ps)) = 0 := by
  obtain ⟨h1, h2⟩ := read_lay hl h
  unfold readPL readPE
  rw [if_pos h1, if_pos h1]
  exact ⟨h2, rfl⟩
theorem kind_first {b : List Nat} {k : Nat} (h : kindOf b = k) (hk : 0 < k) : b.getD 0 0 = k := by
  unfold kindOf at h
  split at h <;> simp_all
theorem read_no {b : List Nat} (h : kindOf b ≠ 80) : readPL b = z12 ∧ readPE b = 3 := by
  have hn : ¬ readPOk b := fun hh => h hh.1
  unfold readPL readPE
  rw [if_neg hn, if_neg hn]
  exact ⟨rfl, rfl⟩
theorem lay_sz (ps : List Int) (hl : ps.length = 12) : (layPL ps).length = 128 ∨ layPL ps = [] := by
  unfold layPL
  split
  · left; exact sealOf_len (by rw [ptrB_len]; omega)
  · right; rfl
theorem Bytes.layPL (ps : List Int) : Bytes (layPL ps) := by
  unfold Go.Proofs.Ythfkacgehdfciaa.layPL
  split
  · exact Bytes.sealOf (by omega) (Bytes.ptrB ps)
  · exact Bytes.nil

set_option maxHeartbeats 1000000 in
theorem law8_awake (w : World) : Calls Try.prog 29 #[] w fun e w' => e = .returned (.bool true) ∧ Ext w w' := by
  have hf7 : f7.length = 12 := rfl
  have HLP := hide lay_f7
  have HRP := hide (read_ok hf7 f7_ok)
  have hz : readPL (List.replicate 128 0) = z12 ∧ readPE (List.replicate 128 0) = 3 := read_no (fun h => by have := kind_first h (by omega); simp at this)
  have HZ := hide hz
  clear hz hf7
  have hb : Bytes (sealOf 80 (ptrB f7)) := Bytes.sealOf (by omega) (Bytes.ptrB _)
  go_enter Try.func29, Try.ntmps29
  go_wp2_with (with_reducible refine ag_build (o := ⟨some 8, _, _, _, _, _⟩) rfl 38 _ rfl _ (bld_f7 _) ?_)
  refine (ptr_Lay f7 rfl _).mono ?_
  rintro e w1 ⟨A1, n1, c1, rfl, hn1, hO1, hE1⟩
  rw [HLP.out.2]
  rw [HLP.out.1] at hO1
  have hl1 : n1 = 128 := by have := hO1.len; rw [by8_len, sealOf_len (by rw [ptrB_len]; decide)] at this; omega
  subst hl1
  go_wp2_with fail
  refine (ptr_Read _ _ _ _ _ hO1.sl hb).mono ?_
  rintro e w2 ⟨rfl, hE2⟩
  rw [HRP.out.1, HRP.out.2]
  go_wp2_with (first
    | (with_reducible refine ag_alloc (o := ⟨some 3, _, _, _, _, _⟩) rfl 38 rfl _ 12 zero_fan rfl (by omega) (i64s_one _) w2.heap.size (Nat.le_refl _) ?_; intro w3 hR3 hE3 hz3)
    | (with_reducible refine ag_store (o := ⟨none, _, _, _, _, _⟩) rfl 38 (.tmp 3) (.tmp 15) rfl w2.heap.size 12 w2.heap.size 38 _ _ rfl rfl hR3 rfl (i64s_one _) info_fan ?_; intro w4 hR4 hG4
       have hE4 : Ext w2 w4 := hE3.grown hG4 (by simp))
    | (with_reducible refine mkl8 (o := ⟨some 18, _, _, _, _, _⟩) rfl _ _ rfl .i64 .i64 128 128 128 128 rfl rfl rfl rfl (Nat.le_refl _) (by omega) w4.heap.size (Nat.le_refl _) ?_; intro w5 hO5 hE5))
  rw [show (Value.int .u8 0) = Value.int .u8 ((0 : Nat) : Int) from rfl, by8_rep] at hO5
  refine (ptr_Read _ _ _ _ _ hO5.sl (Bytes.rep 128)).mono ?_
  rintro e w6 ⟨rfl, hE6⟩
  rw [HZ.out.1, HZ.out.2]
  have hR6 := hR4.ext (hE5.trans hE6)
  go_wp2_with (first
    | (with_reducible refine ag_alloc (o := ⟨some 5, _, _, _, _, _⟩) rfl 38 rfl _ 12 zero_fan rfl (by omega) (i64s_one _) w6.heap.size (Nat.le_refl _) ?_; intro w7 hR7 hE7 hz7)
    | (with_reducible refine ag_store (o := ⟨none, _, _, _, _, _⟩) rfl 38 (.tmp 5) (.tmp 20) rfl w6.heap.size 12 w6.heap.size 38 _ _ rfl rfl hR7 rfl (i64s_one _) info_fan ?_; intro w8 hR8 hG8
       have hE8 : Ext w6 w8 := hE7.grown hG8 (by simp)
       have hc8 : w8.cell? ⟨w2.heap.size, 3, none⟩ = some (.int .i64 700) := by rw [(hR6.ext hE8).cellAt 3 (by omega)]; rfl)
    | (with_reducible refine ag_zero (o := ⟨some 43, _, _, _, _, _⟩) ?hz1 38 rfl _ (bld_fan _) ?_; case hz1 => go_simp)
    | (go_at_call 34; refine (ptr_Empty z12 z12_len _).mono ?_; rintro e w9 ⟨rfl, hE9⟩; rw [decide_eq_true (rfl : z12 = z12)])
    | (with_reducible refine ag_load (o := ⟨some 47, _, _, _, _, _⟩) ?hz2 38 (.tmp 3) rfl w2.heap.size 12 w2.heap.size 38 _ rfl (hR6.ext (hE8.trans hE9)) agg_fan info_fan ?_; case hz2 => go_simp)
    | (go_at_call 34; refine (ptr_Empty f7 rfl _).mono ?_; rintro e w10 ⟨rfl, hE10⟩; rw [decide_eq_false (by decide : ¬ f7 = z12)]))
  go_ret
  exact ⟨rfl, hE1.trans (hE2.trans (hE4.trans (hE5.trans (hE6.trans (hE8.trans (hE9.trans hE10))))))⟩

set_option maxRecDepth 100000 in
set_option maxHeartbeats 2000000 in
theorem law_PtrTells (w : World) (ps : List Int) (hl : ps.length = 12) (_hp : ∀ p ∈ ps, -9223372036854775808 ≤ p ∧ p ≤ 9223372036854775807) (A : Option Addr) (n c : Nat) (xs : List Nat) (h : Sl w A n c (by8 xs)) (hb : Bytes xs) :
    Calls Try.prog 7 #[.agg (i64s ps).toArray, .slice A n c] w fun e w' => e = .returned (.bool true) ∧ Ext w w' := by
  have hxl : xs.length = n := by have := h.len; rwa [by8_len] at this
  have HX := hide hxl
  have HL := hide hl
  clear hxl hl
  by_cases hn : (200 : Int) < n
  · go_enter Try.func7, Try.ntmps7
    go_wp2_with (first
      | (with_reducible refine ag_box (o := ⟨some 2, _, _, _, _, _⟩) rfl 38 _ rfl _ 12 rfl (by rw [i64s_len]; exact HL.out) (by omega) (i64s_one ps) w.heap.size (Nat.le_refl _) ?_; intro w1 hB1 hE1 hz1)
      | (go_at_call 29; refine (law8_awake _).mono ?_; rintro e w2 ⟨rfl, hE2⟩))
    go_ret
    exact ⟨rfl, hE1.trans hE2⟩
  go_enter Try.func7, Try.ntmps7
  go_wp2_with (with_reducible refine ag_box (o := ⟨some 2, _, _, _, _, _⟩) rfl 38 _ rfl _ 12 rfl (by rw [i64s_len]; exact HL.out) (by omega) (i64s_one ps) w.heap.size (Nat.le_refl _) ?_; intro w0 hB0 hE0 hz0)
  refine (LendBytes _ _ _ _ _ (h.ext hE0) (by omega)).mono ?_
  rintro e w1 ⟨g1, rfl, hL1, hE1⟩
  have hF1 : Ext w w1 := hE0.trans hE1
  have hS1 : Sl w1 (some ⟨g1, 0, none⟩) n (n + 3) (by8 xs) := by
    have := hL1.sl.pre (m := n) (by omega)
    rw [by8_take, List.take_append_of_le_length (by rw [HX.out]; omega), List.take_of_length_le (by rw [HX.out]; omega)] at this
    exact this
  go_wp2_with (with_reducible refine ag_load (o := ⟨some 24, _, _, _, _, _⟩) rfl 38 (.tmp 2) rfl w.heap.size 12 w.heap.size 38 _ rfl (hB0.ext hE1) agg_fan info_fan ?_)
  refine (ptr_Lay ps HL.out _).mono ?_
  rintro e w2 ⟨A2, n2, c2, rfl, hn2, hO2, hE2⟩
  go_wp2_with (with_reducible refine ag_load (o := ⟨some 29, _, _, _, _, _⟩) rfl 38 (.tmp 2) rfl w.heap.size 12 w.heap.size 38 _ rfl (hB0.ext (hE1.trans hE2)) agg_fan info_fan ?_)
  refine (refptr_Lay ps HL.out _).mono ?_
  rintro e w3 ⟨A3, n3, c3, rfl, hn3, hO3, hE3⟩
  have hF3 : Ext w1 w3 := hE2.trans hE3
  go_wp2_with fail
  refine (ptr_Read _ _ _ _ _ (hS1.ext hF3) hb).mono ?_
  rintro e w4 ⟨rfl, hE4⟩
  go_wp2_with (first
    | (with_reducible refine ag_alloc (o := ⟨some 10, _, _, _, _, _⟩) rfl 38 rfl _ 12 zero_fan rfl (by omega) (i64s_one _) w4.heap.size (Nat.le_refl _) ?_; intro w5 hU5 hE5 hz5)
    | (with_reducible refine ag_store (o := ⟨none, _, _, _, _, _⟩) rfl 38 (.tmp 10) (.tmp 36) rfl w4.heap.size 12 w4.heap.size 38 _ _ rfl rfl hU5 (by rw [i64s_len, readPL_len]) (i64s_one _) info_fan ?_; intro w6 hU6 hG6
       have hE6 : Ext w4 w6 := hE5.grown hG6 (by simp)))
  have hF6 : Ext w1 w6 := hF3.trans (hE4.trans hE6)
  refine (refptr_Read _ _ _ _ _ (h.ext (hF1.trans hF6)) hb).mono ?_
  rintro e w7 ⟨rfl, hE7⟩
  go_wp2_with (first
    | (with_reducible refine ag_alloc (o := ⟨some 12, _, _, _, _, _⟩) rfl 38 rfl _ 12 zero_fan rfl (by omega) (i64s_one _) w7.heap.size (Nat.le_refl _) ?_; intro w8 hV8 hE8 hz8)
    | (with_reducible refine ag_store (o := ⟨none, _, _, _, _, _⟩) rfl 38 (.tmp 12) (.tmp 41) rfl w7.heap.size 12 w7.heap.size 38 _ _ rfl rfl hV8 (by rw [i64s_len, readPL_len]) (i64s_one _) info_fan ?_; intro w9 hV9 hG9
       have hE9 : Ext w7 w9 := hE8.grown hG9 (by simp)))
  have hF9 : Ext w1 w9 := hF6.trans (hE7.trans hE9)
  have hO29 := hO2.ext (hE3.trans (hE4.trans (hE6.trans (hE7.trans hE9))))
  refine (ptr_Read _ _ _ _ _ hO29.sl (Bytes.layPL ps)).mono ?_
  rintro e w10 ⟨rfl, hE10⟩
  go_wp2_with (first
    | (with_reducible refine ag_alloc (o := ⟨some 14, _, _, _, _, _⟩) rfl 38 rfl _ 12 zero_fan rfl (by omega) (i64s_one _) w10.heap.size (Nat.le_refl _) ?_; intro w11 hT11 hE11 hz11)
    | (with_reducible refine ag_store (o := ⟨none, _, _, _, _, _⟩) rfl 38 (.tmp 14) (.tmp 46) rfl w10.heap.size 12 w10.heap.size 38 _ _ rfl rfl hT11 (by rw [i64s_len, readPL_len]) (i64s_one _) info_fan ?_; intro w12 hT12 hG12
       have hE12 : Ext w10 w12 := hE11.grown hG12 (by simp)))
  have hF12 : Ext w1 w12 := hF9.trans (hE10.trans hE12)
  have hB12 := hB0.ext (hE1.trans hF12)
  have hU12 := hU6.ext (hE7.trans (hE9.trans (hE10.trans hE12)))
  have hV12 := hV9.ext (hE10.trans hE12)
  have hX12 := hO29.ext (hE10.trans hE12)
  have hY12 := hO3.ext (hE4.trans (hE6.trans (hE7.trans (hE9.trans (hE10.trans hE12)))))
  have keepS : ∀ w', Ext w12 w' → w'.rangeAt w.heap.size 0 (i64s ps) ∧ w'.rangeAt w4.heap.size 0 (i64s (readPL xs)) ∧ w'.rangeAt w7.heap.size 0 (i64s (readPL xs)) ∧ w'.rangeAt w10.heap.size 0 (i64s (readPL (layPL ps))) :=
    fun w' hE => ⟨(hB12.ext hE).range, (hU12.ext hE).range, (hV12.ext hE).range, (hT12.ext hE).range⟩
  have hu := Try.underlying38
  have hi1 : (Try.prog.info? 38).map (·.size) = some (i64s ps).length := by rw [i64s_len, HL.out]; exact info_fan
  have hi2 : (Try.prog.info? 38).map (·.size) = some (i64s (readPL xs)).length := by rw [i64s_len, readPL_len]; exact info_fan
  have hi3 : (Try.prog.info? 38).map (·.size) = some (i64s (readPL (layPL ps))).length := by rw [i64s_len, readPL_len]; exact info_fan
  have hq1 : ∀ w1, (Op.equalIn 10000 38 (.agg (i64s (readPL xs)).toArray) (.agg (i64s (readPL xs)).toArray)).run Try.prog w1 = .ok true w1 := by
    intro w1
    rw [eq_fan _ _ (readPL_len _) (readPL_len _), decide_eq_true rfl]
  have hq2 : ∀ w1, (Op.equalIn 10000 38 (.agg (i64s ps).toArray) (.agg (i64s z12).toArray)).run Try.prog w1 = .ok (decide (ps = z12)) w1 := fun w1 => eq_fan _ _ HL.out z12_len w1
  have hbld := bld_fan
  have HM := fun w1 => ptr_Empty ps HL.out w1
  generalize decide (ps = z12) = bz at hq2 HM
  clear hB0 hE0 hz0 hO2 hn3 hO3 hU5 hE5 hz5 hU6 hG6 hV8 hE8 hz8 hV9 hG9 hT11 hE11 hz11 hG12 hO29 hB12 hU12 hV12 hT12
  by_cases hok : ps.all word = true
  · have he1 : layPE ps = 0 := by unfold layPE; rw [if_pos hok]
    have hll : layPL ps = sealOf 80 (ptrB ps) := by unfold layPL; rw [if_pos hok]
    obtain ⟨hr1, hr2⟩ := read_ok HL.out hok
    rw [← hll] at hr1 hr2
    rw [he1, hr2]
    rw [hr1] at hi3 keepS
    have hq3 : ∀ w1, (Op.equalIn 10000 38 (.agg (i64s ps).toArray) (.agg (i64s ps).toArray)).run Try.prog w1 = .ok true w1 := by
      intro w1
      rw [eq_fan _ _ HL.out HL.out, decide_eq_true rfl]
    clear hok he1 hll hr1 hr2
    refine wp_region_held_drew (S := fun w' => w'.rangeAt w.heap.size 0 (i64s ps) ∧ w'.rangeAt w4.heap.size 0 (i64s (readPL xs)) ∧ w'.rangeAt w7.heap.size 0 (i64s (readPL xs)) ∧ w'.rangeAt w10.heap.size 0 (i64s ps)) (by kernel_rfl) (keepS _ (Ext.drew (Ext.refl _))) (fun hHeld => ?_)
    refine held_take 0 rfl (by kernel_rfl) (by kernel_rfl) (by kernel_rfl) (fun _ _ _ _ h => h) (by rfl) ?_ ?_ (by assumption) ?_
    rotate_left
    · (intro wx hSx; (try dsimp only at hSx); go_simp)
      all_goals with_reducible rfl
    (try simp only [Act.put, List.setIfInBounds_toArray, List.set_cons_zero, List.set_cons_succ])
    refine held_take 1 rfl (by kernel_rfl) (by kernel_rfl) (by kernel_rfl) (fun _ _ _ _ h => h) (by rfl) ?_ ?_ (by assumption) ?_
    rotate_left
    · (intro wx hSx; (try dsimp only at hSx); go_simp)
      all_goals with_reducible rfl
    (try simp only [Act.put, List.setIfInBounds_toArray, List.set_cons_zero, List.set_cons_succ])
    refine held_call 2 rfl (by kernel_rfl) (fun K hK => ?_)
    go_simp
    go_at_call 21
    refine (SameBytes _ _ _ _ _ _ _ _ _ (hX12.ext (Ext.drew (Ext.refl _))).sl (hY12.ext (Ext.drew (Ext.refl _))).sl (Bytes.layPL ps) (Bytes.layPL ps)).mono ?_
    rintro e w13 ⟨rfl, j13, hw13⟩
    have hE13 : Ext w12 w13 := by rw [hw13]; exact (Ext.drew (Ext.refl _)).drewN _
    clear hw13
    rw [decide_eq_true (rfl : layPL ps = layPL ps)]
    go_wp2_with fail
    refine hK.out _ _ (keepS _ hE13) (fun hHeld => ?_)
    clear hK K
    (try simp only [Act.put, List.setIfInBounds_toArray, List.set_cons_zero, List.set_cons_succ])
    refine held_take 3 rfl (by kernel_rfl) (by kernel_rfl) (by kernel_rfl) (fun _ _ _ _ h => h) (by rfl) ?_ ?_ (by assumption) ?_
    rotate_left
    · (intro wx hSx; (try dsimp only at hSx); go_simp)
      all_goals with_reducible rfl
    (try simp only [Act.put, List.setIfInBounds_toArray, List.set_cons_zero, List.set_cons_succ])
    refine held_take 4 rfl (by kernel_rfl) (by kernel_rfl) (by kernel_rfl) (fun _ _ _ _ h => h) (by rfl) ?_ ?_ (by assumption) ?_
    rotate_left
    · (intro wx hSx; (try dsimp only at hSx); go_simp)
      all_goals with_reducible rfl
    (try simp only [Act.put, List.setIfInBounds_toArray, List.set_cons_zero, List.set_cons_succ])
    refine held_take 5 rfl (by kernel_rfl) (by kernel_rfl) (by kernel_rfl) (fun _ _ _ _ h => h) (by rfl) ?_ ?_ (by assumption) ?_
    rotate_left
    · (intro wx hSx; (try dsimp only at hSx); go_simp)
      all_goals with_reducible rfl
    (try simp only [Act.put, List.setIfInBounds_toArray, List.set_cons_zero, List.set_cons_succ])
    refine held_take 6 rfl (by kernel_rfl) (by kernel_rfl) (by kernel_rfl) (fun _ _ _ _ h => h) (by rfl) ?_ ?_ (by assumption) ?_
    rotate_left
    · (intro wx hSx; (try dsimp only at hSx); go_simp)
      all_goals with_reducible rfl
    (try simp only [Act.put, List.setIfInBounds_toArray, List.set_cons_zero, List.set_cons_succ])
    refine held_take 7 rfl (by kernel_rfl) (by kernel_rfl) (by kernel_rfl) (fun _ _ _ _ h => h) (by rfl) ?_ ?_ (by assumption) ?_
    rotate_left
    · (intro wx hSx; (try dsimp only at hSx); go_simp)
      all_goals with_reducible rfl
    (try simp only [Act.put, List.setIfInBounds_toArray, List.set_cons_zero, List.set_cons_succ])
    refine held_take 8 rfl (by kernel_rfl) (by kernel_rfl) (by kernel_rfl) (fun _ _ _ _ h => h) (by rfl) ?_ ?_ (by assumption) ?_
    rotate_left
    · (intro wx hSx; (try dsimp only at hSx); go_simp)
      all_goals with_reducible rfl
    (try simp only [Act.put, List.setIfInBounds_toArray, List.set_cons_zero, List.set_cons_succ])
    refine held_load 9 rfl (by kernel_rfl) (by kernel_rfl) (by kernel_rfl) (fun _ _ _ _ h => h) (by rfl) 38 (.tmp 10) rfl w4.heap.size (i64s (readPL xs)) _ rfl (fun wx hSx => hSx.2.1) hu rfl hi2 (by assumption) ?_
    (try simp only [Act.put, List.setIfInBounds_toArray, List.set_cons_zero, List.set_cons_succ])
    refine held_load 10 rfl (by kernel_rfl) (by kernel_rfl) (by kernel_rfl) (fun _ _ _ _ h => h) (by rfl) 38 (.tmp 12) rfl w7.heap.size (i64s (readPL xs)) _ rfl (fun wx hSx => hSx.2.2.1) hu rfl hi2 (by assumption) ?_
    (try simp only [Act.put, List.setIfInBounds_toArray, List.set_cons_zero, List.set_cons_succ])
    refine held_take 11 rfl (by kernel_rfl) (by kernel_rfl) (by kernel_rfl) (fun _ _ _ _ h => h) (by rfl) ?_ ?_ (by assumption) ?_
    rotate_left
    · (intro wx hSx; (try dsimp only at hSx); go_simp)
      all_goals with_reducible rfl
    (try simp only [Act.put, List.setIfInBounds_toArray, List.set_cons_zero, List.set_cons_succ])
    refine held_take 12 rfl (by kernel_rfl) (by kernel_rfl) (by kernel_rfl) (fun _ _ _ _ h => h) (by rfl) ?_ ?_ (by assumption) ?_
    rotate_left
    · (intro wx hSx; (try dsimp only at hSx); go_simp)
      all_goals with_reducible rfl
    (try simp only [Act.put, List.setIfInBounds_toArray, List.set_cons_zero, List.set_cons_succ])
    refine held_take 13 rfl (by kernel_rfl) (by kernel_rfl) (by kernel_rfl) (fun _ _ _ _ h => h) (by rfl) ?_ ?_ (by assumption) ?_
    rotate_left
    · (intro wx hSx; (try dsimp only at hSx); go_simp)
      all_goals with_reducible rfl
    (try simp only [Act.put, List.setIfInBounds_toArray, List.set_cons_zero, List.set_cons_succ])
    refine held_take 14 rfl (by kernel_rfl) (by kernel_rfl) (by kernel_rfl) (fun _ _ _ _ h => h) (by rfl) ?_ ?_ (by assumption) ?_
    rotate_left
    · (intro wx hSx; (try dsimp only at hSx); go_simp)
      all_goals with_reducible rfl
    (try simp only [Act.put, List.setIfInBounds_toArray, List.set_cons_zero, List.set_cons_succ])
    refine held_take 15 rfl (by kernel_rfl) (by kernel_rfl) (by kernel_rfl) (fun _ _ _ _ h => h) (by rfl) ?_ ?_ (by assumption) ?_
    rotate_left
    · (intro wx hSx; (try dsimp only at hSx); go_simp)
      all_goals with_reducible rfl
    (try simp only [Act.put, List.setIfInBounds_toArray, List.set_cons_zero, List.set_cons_succ])
    refine held_take 16 rfl (by kernel_rfl) (by kernel_rfl) (by kernel_rfl) (fun _ _ _ _ h => h) (by rfl) ?_ ?_ (by assumption) ?_
    rotate_left
    · (intro wx hSx; (try dsimp only at hSx); go_simp)
      all_goals with_reducible rfl
    (try simp only [Act.put, List.setIfInBounds_toArray, List.set_cons_zero, List.set_cons_succ])
    refine held_take 17 rfl (by kernel_rfl) (by kernel_rfl) (by kernel_rfl) (fun _ _ _ _ h => h) (by rfl) ?_ ?_ (by assumption) ?_
    rotate_left
    · (intro wx hSx; (try dsimp only at hSx); go_simp)
      all_goals with_reducible rfl
    (try simp only [Act.put, List.setIfInBounds_toArray, List.set_cons_zero, List.set_cons_succ])
    refine held_take 18 rfl (by kernel_rfl) (by kernel_rfl) (by kernel_rfl) (fun _ _ _ _ h => h) (by rfl) ?_ ?_ (by assumption) ?_
    rotate_left
    · (intro wx hSx; (try dsimp only at hSx); go_simp)
      all_goals with_reducible rfl
    (try simp only [Act.put, List.setIfInBounds_toArray, List.set_cons_zero, List.set_cons_succ])
    refine held_load 19 rfl (by kernel_rfl) (by kernel_rfl) (by kernel_rfl) (fun _ _ _ _ h => h) (by rfl) 38 (.tmp 2) rfl w.heap.size (i64s ps) _ rfl (fun wx hSx => hSx.1) hu rfl hi1 (by assumption) ?_
    (try simp only [Act.put, List.setIfInBounds_toArray, List.set_cons_zero, List.set_cons_succ])
    refine held_load 21 rfl (by kernel_rfl) (by kernel_rfl) (by kernel_rfl) (fun _ _ _ _ h => h) (by rfl) 38 (.tmp 2) rfl w.heap.size (i64s ps) _ rfl (fun wx hSx => hSx.1) hu rfl hi1 (by assumption) ?_
    (try simp only [Act.put, List.setIfInBounds_toArray, List.set_cons_zero, List.set_cons_succ])
    refine held_take 22 rfl (by kernel_rfl) (by kernel_rfl) (by kernel_rfl) (fun _ _ _ _ h => h) (by rfl) (.agg (i64s z12).toArray) (fun wx _ => held_bld rfl bld_fan wx) (by assumption) ?_
    (try simp only [Act.put, List.setIfInBounds_toArray, List.set_cons_zero, List.set_cons_succ])
    refine held_take 23 rfl (by kernel_rfl) (by kernel_rfl) (by kernel_rfl) (fun _ _ _ _ h => h) (by rfl) ?_ ?_ (by assumption) ?_
    rotate_left
    · (intro wx hSx; (try dsimp only at hSx); go_simp)
      all_goals with_reducible rfl
    (try simp only [Act.put, List.setIfInBounds_toArray, List.set_cons_zero, List.set_cons_succ])
    refine held_call 20 rfl (by kernel_rfl) (fun K hK => ?_)
    go_simp
    go_at_call 34
    refine (HM _).mono ?_
    rintro e w14 ⟨rfl, hE14⟩
    go_wp2_with fail
    refine hK.out _ _ (keepS _ (hE13.trans hE14)) (fun hHeld => ?_)
    clear hK K
    (try simp only [Act.put, List.setIfInBounds_toArray, List.set_cons_zero, List.set_cons_succ])
    refine held_take 24 rfl (by kernel_rfl) (by kernel_rfl) (by kernel_rfl) (fun _ _ _ _ h => h) (by rfl) ?_ ?_ (by assumption) ?_
    rotate_left
    · (intro wx hSx; (try dsimp only at hSx); go_simp)
      all_goals with_reducible rfl
    (try simp only [Act.put, List.setIfInBounds_toArray, List.set_cons_zero, List.set_cons_succ])
    refine held_take 25 rfl (by kernel_rfl) (by kernel_rfl) (by kernel_rfl) (fun _ _ _ _ h => h) (by rfl) ?_ ?_ (by assumption) ?_
    rotate_left
    · (intro wx hSx; (try dsimp only at hSx); go_simp)
      all_goals with_reducible rfl
    (try simp only [Act.put, List.setIfInBounds_toArray, List.set_cons_zero, List.set_cons_succ])
    refine held_take 26 rfl (by kernel_rfl) (by kernel_rfl) (by kernel_rfl) (fun _ _ _ _ h => h) (by rfl) ?_ ?_ (by assumption) ?_
    rotate_left
    · (intro wx hSx; (try dsimp only at hSx); go_simp)
      all_goals with_reducible rfl
    (try simp only [Act.put, List.setIfInBounds_toArray, List.set_cons_zero, List.set_cons_succ])
    refine held_take 27 rfl (by kernel_rfl) (by kernel_rfl) (by kernel_rfl) (fun _ _ _ _ h => h) (by rfl) ?_ ?_ (by assumption) ?_
    rotate_left
    · (intro wx hSx; (try dsimp only at hSx); go_simp)
      all_goals with_reducible rfl
    (try simp only [Act.put, List.setIfInBounds_toArray, List.set_cons_zero, List.set_cons_succ])
    refine held_take 28 rfl (by kernel_rfl) (by kernel_rfl) (by kernel_rfl) (fun _ _ _ _ h => h) (by rfl) ?_ ?_ (by assumption) ?_
    rotate_left
    · (intro wx hSx; (try dsimp only at hSx); go_simp)
      all_goals with_reducible rfl
    (try simp only [Act.put, List.setIfInBounds_toArray, List.set_cons_zero, List.set_cons_succ])
    refine held_take 29 rfl (by kernel_rfl) (by kernel_rfl) (by kernel_rfl) (fun _ _ _ _ h => h) (by rfl) ?_ ?_ (by assumption) ?_
    rotate_left
    · (intro wx hSx; (try dsimp only at hSx); go_simp)
      all_goals with_reducible rfl
    (try simp only [Act.put, List.setIfInBounds_toArray, List.set_cons_zero, List.set_cons_succ])
    refine held_take 30 rfl (by kernel_rfl) (by kernel_rfl) (by kernel_rfl) (fun _ _ _ _ h => h) (by rfl) ?_ ?_ (by assumption) ?_
    rotate_left
    · (intro wx hSx; (try dsimp only at hSx); go_simp)
      all_goals with_reducible rfl
    (try simp only [Act.put, List.setIfInBounds_toArray, List.set_cons_zero, List.set_cons_succ])
    refine held_take 31 rfl (by kernel_rfl) (by kernel_rfl) (by kernel_rfl) (fun _ _ _ _ h => h) (by rfl) ?_ ?_ (by assumption) ?_
    rotate_left
    · (intro wx hSx; (try dsimp only at hSx); go_simp)
      all_goals with_reducible rfl
    (try simp only [Act.put, List.setIfInBounds_toArray, List.set_cons_zero, List.set_cons_succ])
    refine held_take 32 rfl (by kernel_rfl) (by kernel_rfl) (by kernel_rfl) (fun _ _ _ _ h => h) (by rfl) ?_ ?_ (by assumption) ?_
    rotate_left
    · (intro wx hSx; (try dsimp only at hSx); go_simp)
      all_goals with_reducible rfl
    (try simp only [Act.put, List.setIfInBounds_toArray, List.set_cons_zero, List.set_cons_succ])
    refine held_load 33 rfl (by kernel_rfl) (by kernel_rfl) (by kernel_rfl) (fun _ _ _ _ h => h) (by rfl) 38 (.tmp 14) rfl w10.heap.size (i64s ps) _ rfl (fun wx hSx => hSx.2.2.2) hu rfl hi1 (by assumption) ?_
    (try simp only [Act.put, List.setIfInBounds_toArray, List.set_cons_zero, List.set_cons_succ])
    refine held_load 34 rfl (by kernel_rfl) (by kernel_rfl) (by kernel_rfl) (fun _ _ _ _ h => h) (by rfl) 38 (.tmp 2) rfl w.heap.size (i64s ps) _ rfl (fun wx hSx => hSx.1) hu rfl hi1 (by assumption) ?_
    (try simp only [Act.put, List.setIfInBounds_toArray, List.set_cons_zero, List.set_cons_succ])
    refine held_take 35 rfl (by kernel_rfl) (by kernel_rfl) (by kernel_rfl) (fun _ _ _ _ h => h) (by rfl) ?_ ?_ (by assumption) ?_
    rotate_left
    · (intro wx hSx; (try dsimp only at hSx); go_simp)
      all_goals with_reducible rfl
    (try simp only [Act.put, List.setIfInBounds_toArray, List.set_cons_zero, List.set_cons_succ])
    refine held_take 36 rfl (by kernel_rfl) (by kernel_rfl) (by kernel_rfl) (fun _ _ _ _ h => h) (by rfl) ?_ ?_ (by assumption) ?_
    rotate_left
    · (intro wx hSx; (try dsimp only at hSx); go_simp)
      all_goals with_reducible rfl
    (try simp only [Act.put, List.setIfInBounds_toArray, List.set_cons_zero, List.set_cons_succ])
    refine held_take 37 rfl (by kernel_rfl) (by kernel_rfl) (by kernel_rfl) (fun _ _ _ _ h => h) (by rfl) ?_ ?_ (by assumption) ?_
    rotate_left
    · (intro wx hSx; (try dsimp only at hSx); go_simp)
      all_goals with_reducible rfl
    (try simp only [Act.put, List.setIfInBounds_toArray, List.set_cons_zero, List.set_cons_succ])
    refine held_take 38 rfl (by kernel_rfl) (by kernel_rfl) (by kernel_rfl) (fun _ _ _ _ h => h) (by rfl) ?_ ?_ (by assumption) ?_
    rotate_left
    · (intro wx hSx; (try dsimp only at hSx); go_simp)
      all_goals with_reducible rfl
    (try simp only [Act.put, List.setIfInBounds_toArray, List.set_cons_zero, List.set_cons_succ])
    refine held_take 39 rfl (by kernel_rfl) (by kernel_rfl) (by kernel_rfl) (fun _ _ _ _ h => h) (by rfl) ?_ ?_ (by assumption) ?_
    rotate_left
    · (intro wx hSx; (try dsimp only at hSx); go_simp)
      all_goals with_reducible rfl
    (try simp only [Act.put, List.setIfInBounds_toArray, List.set_cons_zero, List.set_cons_succ])
    refine wpAnyH_done (by kernel_rfl) ?_ _
    clear hHeld keepS hu hi1 hi2 hi3 hq1 hbld hq2 HM hq3
    have hD14 : Ext w12 w14 := hE13.trans hE14
    have hz12 := (hF1.trans hF12).size
    go_wp2_with fail
    refine (OverBytes _ _ _ _ _ _ (hX12.ext hD14) (by have := hF12.size; have := hD14.size; omega) (by omega)).mono ?_
    rintro e w15 ⟨rfl, hG15⟩
    have hD15 : Ext w1 w15 := (hF12.trans hD14).grown hG15 (fun q hq => (hX12.block q hq).1)
    have hL15 := hL1.ext hD15
    go_wp2_with fail
    refine (KeptBytes _ _ _ _ _ _ _ _ _ hL15.sl HX.out (by omega) (h.ext (hF1.trans hD15)) hb hb).mono ?_
    rintro e w16 ⟨rfl, j16, hw16⟩
    have hD16 : Ext w15 w16 := by rw [hw16]; exact (Ext.refl _).drewN _
    clear hw16
    rw [decide_eq_true (rfl : xs = xs)]
    go_wp2_with (go_at_call 29; refine (law8_awake _).mono ?_; rintro e w17 ⟨rfl, hE17⟩)
    go_ret
    exact ⟨rfl, hF1.trans (hD15.trans (hD16.trans hE17))⟩
  · have he1 : layPE ps = 2 := by unfold layPE; rw [if_neg hok]
    rw [he1]
    clear hok he1
    refine wp_region_held_drew (S := fun w' => w'.rangeAt w.heap.size 0 (i64s ps) ∧ w'.rangeAt w4.heap.size 0 (i64s (readPL xs)) ∧ w'.rangeAt w7.heap.size 0 (i64s (readPL xs)) ∧ w'.rangeAt w10.heap.size 0 (i64s (readPL (layPL ps)))) (by kernel_rfl) (keepS _ (Ext.drew (Ext.refl _))) (fun hHeld => ?_)
    refine held_take 0 rfl (by kernel_rfl) (by kernel_rfl) (by kernel_rfl) (fun _ _ _ _ h => h) (by rfl) ?_ ?_ (by assumption) ?_
    rotate_left
    · (intro wx hSx; (try dsimp only at hSx); go_simp)
      all_goals with_reducible rfl
    (try simp only [Act.put, List.setIfInBounds_toArray, List.set_cons_zero, List.set_cons_succ])
    refine held_take 1 rfl (by kernel_rfl) (by kernel_rfl) (by kernel_rfl) (fun _ _ _ _ h => h) (by rfl) ?_ ?_ (by assumption) ?_
    rotate_left
    · (intro wx hSx; (try dsimp only at hSx); go_simp)
      all_goals with_reducible rfl
    (try simp only [Act.put, List.setIfInBounds_toArray, List.set_cons_zero, List.set_cons_succ])
    refine held_call 2 rfl (by kernel_rfl) (fun K hK => ?_)
    go_simp
    go_at_call 21
    refine (SameBytes _ _ _ _ _ _ _ _ _ (hX12.ext (Ext.drew (Ext.refl _))).sl (hY12.ext (Ext.drew (Ext.refl _))).sl (Bytes.layPL ps) (Bytes.layPL ps)).mono ?_
    rintro e w13 ⟨rfl, j13, hw13⟩
    have hE13 : Ext w12 w13 := by rw [hw13]; exact (Ext.drew (Ext.refl _)).drewN _
    clear hw13
    rw [decide_eq_true (rfl : layPL ps = layPL ps)]
    go_wp2_with fail
    refine hK.out _ _ (keepS _ hE13) (fun hHeld => ?_)
    clear hK K
    (try simp only [Act.put, List.setIfInBounds_toArray, List.set_cons_zero, List.set_cons_succ])
    refine held_take 3 rfl (by kernel_rfl) (by kernel_rfl) (by kernel_rfl) (fun _ _ _ _ h => h) (by rfl) ?_ ?_ (by assumption) ?_
    rotate_left
    · (intro wx hSx; (try dsimp only at hSx); go_simp)
      all_goals with_reducible rfl
    (try simp only [Act.put, List.setIfInBounds_toArray, List.set_cons_zero, List.set_cons_succ])
    refine held_take 4 rfl (by kernel_rfl) (by kernel_rfl) (by kernel_rfl) (fun _ _ _ _ h => h) (by rfl) ?_ ?_ (by assumption) ?_
    rotate_left
    · (intro wx hSx; (try dsimp only at hSx); go_simp)
      all_goals with_reducible rfl
    (try simp only [Act.put, List.setIfInBounds_toArray, List.set_cons_zero, List.set_cons_succ])
    refine held_take 5 rfl (by kernel_rfl) (by kernel_rfl) (by kernel_rfl) (fun _ _ _ _ h => h) (by rfl) ?_ ?_ (by assumption) ?_
    rotate_left
    · (intro wx hSx; (try dsimp only at hSx); go_simp)
      all_goals with_reducible rfl
    (try simp only [Act.put, List.setIfInBounds_toArray, List.set_cons_zero, List.set_cons_succ])
    refine held_take 6 rfl (by kernel_rfl) (by kernel_rfl) (by kernel_rfl) (fun _ _ _ _ h => h) (by rfl) ?_ ?_ (by assumption) ?_
    rotate_left
    · (intro wx hSx; (try dsimp only at hSx); go_simp)
      all_goals with_reducible rfl
    (try simp only [Act.put, List.setIfInBounds_toArray, List.set_cons_zero, List.set_cons_succ])
    refine held_take 7 rfl (by kernel_rfl) (by kernel_rfl) (by kernel_rfl) (fun _ _ _ _ h => h) (by rfl) ?_ ?_ (by assumption) ?_
    rotate_left
    · (intro wx hSx; (try dsimp only at hSx); go_simp)
      all_goals with_reducible rfl
    (try simp only [Act.put, List.setIfInBounds_toArray, List.set_cons_zero, List.set_cons_succ])
    refine held_take 8 rfl (by kernel_rfl) (by kernel_rfl) (by kernel_rfl) (fun _ _ _ _ h => h) (by rfl) ?_ ?_ (by assumption) ?_
    rotate_left
    · (intro wx hSx; (try dsimp only at hSx); go_simp)
      all_goals with_reducible rfl
    (try simp only [Act.put, List.setIfInBounds_toArray, List.set_cons_zero, List.set_cons_succ])
    refine held_load 9 rfl (by kernel_rfl) (by kernel_rfl) (by kernel_rfl) (fun _ _ _ _ h => h) (by rfl) 38 (.tmp 10) rfl w4.heap.size (i64s (readPL xs)) _ rfl (fun wx hSx => hSx.2.1) hu rfl hi2 (by assumption) ?_
    (try simp only [Act.put, List.setIfInBounds_toArray, List.set_cons_zero, List.set_cons_succ])
    refine held_load 10 rfl (by kernel_rfl) (by kernel_rfl) (by kernel_rfl) (fun _ _ _ _ h => h) (by rfl) 38 (.tmp 12) rfl w7.heap.size (i64s (readPL xs)) _ rfl (fun wx hSx => hSx.2.2.1) hu rfl hi2 (by assumption) ?_
    (try simp only [Act.put, List.setIfInBounds_toArray, List.set_cons_zero, List.set_cons_succ])
    refine held_take 11 rfl (by kernel_rfl) (by kernel_rfl) (by kernel_rfl) (fun _ _ _ _ h => h) (by rfl) ?_ ?_ (by assumption) ?_
    rotate_left
    · (intro wx hSx; (try dsimp only at hSx); go_simp)
      all_goals with_reducible rfl
    (try simp only [Act.put, List.setIfInBounds_toArray, List.set_cons_zero, List.set_cons_succ])
    refine held_take 12 rfl (by kernel_rfl) (by kernel_rfl) (by kernel_rfl) (fun _ _ _ _ h => h) (by rfl) ?_ ?_ (by assumption) ?_
    rotate_left
    · (intro wx hSx; (try dsimp only at hSx); go_simp)
      all_goals with_reducible rfl
    (try simp only [Act.put, List.setIfInBounds_toArray, List.set_cons_zero, List.set_cons_succ])
    refine held_take 13 rfl (by kernel_rfl) (by kernel_rfl) (by kernel_rfl) (fun _ _ _ _ h => h) (by rfl) ?_ ?_ (by assumption) ?_
    rotate_left
    · (intro wx hSx; (try dsimp only at hSx); go_simp)
      all_goals with_reducible rfl
    (try simp only [Act.put, List.setIfInBounds_toArray, List.set_cons_zero, List.set_cons_succ])
    refine held_take 14 rfl (by kernel_rfl) (by kernel_rfl) (by kernel_rfl) (fun _ _ _ _ h => h) (by rfl) ?_ ?_ (by assumption) ?_
    rotate_left
    · (intro wx hSx; (try dsimp only at hSx); go_simp)
      all_goals with_reducible rfl
    (try simp only [Act.put, List.setIfInBounds_toArray, List.set_cons_zero, List.set_cons_succ])
    refine held_take 15 rfl (by kernel_rfl) (by kernel_rfl) (by kernel_rfl) (fun _ _ _ _ h => h) (by rfl) ?_ ?_ (by assumption) ?_
    rotate_left
    · (intro wx hSx; (try dsimp only at hSx); go_simp)
      all_goals with_reducible rfl
    (try simp only [Act.put, List.setIfInBounds_toArray, List.set_cons_zero, List.set_cons_succ])
    refine held_take 16 rfl (by kernel_rfl) (by kernel_rfl) (by kernel_rfl) (fun _ _ _ _ h => h) (by rfl) ?_ ?_ (by assumption) ?_
    rotate_left
    · (intro wx hSx; (try dsimp only at hSx); go_simp)
      all_goals with_reducible rfl
    (try simp only [Act.put, List.setIfInBounds_toArray, List.set_cons_zero, List.set_cons_succ])
    refine held_take 17 rfl (by kernel_rfl) (by kernel_rfl) (by kernel_rfl) (fun _ _ _ _ h => h) (by rfl) ?_ ?_ (by assumption) ?_
    rotate_left
    · (intro wx hSx; (try dsimp only at hSx); go_simp)
      all_goals with_reducible rfl
    (try simp only [Act.put, List.setIfInBounds_toArray, List.set_cons_zero, List.set_cons_succ])
    refine held_take 18 rfl (by kernel_rfl) (by kernel_rfl) (by kernel_rfl) (fun _ _ _ _ h => h) (by rfl) ?_ ?_ (by assumption) ?_
    rotate_left
    · (intro wx hSx; (try dsimp only at hSx); go_simp)
      all_goals with_reducible rfl
    (try simp only [Act.put, List.setIfInBounds_toArray, List.set_cons_zero, List.set_cons_succ])
    refine held_load 19 rfl (by kernel_rfl) (by kernel_rfl) (by kernel_rfl) (fun _ _ _ _ h => h) (by rfl) 38 (.tmp 2) rfl w.heap.size (i64s ps) _ rfl (fun wx hSx => hSx.1) hu rfl hi1 (by assumption) ?_
    (try simp only [Act.put, List.setIfInBounds_toArray, List.set_cons_zero, List.set_cons_succ])
    refine held_load 21 rfl (by kernel_rfl) (by kernel_rfl) (by kernel_rfl) (fun _ _ _ _ h => h) (by rfl) 38 (.tmp 2) rfl w.heap.size (i64s ps) _ rfl (fun wx hSx => hSx.1) hu rfl hi1 (by assumption) ?_
    (try simp only [Act.put, List.setIfInBounds_toArray, List.set_cons_zero, List.set_cons_succ])
    refine held_take 22 rfl (by kernel_rfl) (by kernel_rfl) (by kernel_rfl) (fun _ _ _ _ h => h) (by rfl) (.agg (i64s z12).toArray) (fun wx _ => held_bld rfl bld_fan wx) (by assumption) ?_
    (try simp only [Act.put, List.setIfInBounds_toArray, List.set_cons_zero, List.set_cons_succ])
    refine held_take 23 rfl (by kernel_rfl) (by kernel_rfl) (by kernel_rfl) (fun _ _ _ _ h => h) (by rfl) ?_ ?_ (by assumption) ?_
    rotate_left
    · (intro wx hSx; (try dsimp only at hSx); go_simp)
      all_goals with_reducible rfl
    (try simp only [Act.put, List.setIfInBounds_toArray, List.set_cons_zero, List.set_cons_succ])
    refine held_call 20 rfl (by kernel_rfl) (fun K hK => ?_)
    go_simp
    go_at_call 34
    refine (HM _).mono ?_
    rintro e w14 ⟨rfl, hE14⟩
    go_wp2_with fail
    refine hK.out _ _ (keepS _ (hE13.trans hE14)) (fun hHeld => ?_)
    clear hK K
    (try simp only [Act.put, List.setIfInBounds_toArray, List.set_cons_zero, List.set_cons_succ])
    refine held_take 24 rfl (by kernel_rfl) (by kernel_rfl) (by kernel_rfl) (fun _ _ _ _ h => h) (by rfl) ?_ ?_ (by assumption) ?_
    rotate_left
    · (intro wx hSx; (try dsimp only at hSx); go_simp)
      all_goals with_reducible rfl
    (try simp only [Act.put, List.setIfInBounds_toArray, List.set_cons_zero, List.set_cons_succ])
    refine held_take 25 rfl (by kernel_rfl) (by kernel_rfl) (by kernel_rfl) (fun _ _ _ _ h => h) (by rfl) ?_ ?_ (by assumption) ?_
    rotate_left
    · (intro wx hSx; (try dsimp only at hSx); go_simp)
      all_goals with_reducible rfl
    (try simp only [Act.put, List.setIfInBounds_toArray, List.set_cons_zero, List.set_cons_succ])
    refine held_take 26 rfl (by kernel_rfl) (by kernel_rfl) (by kernel_rfl) (fun _ _ _ _ h => h) (by rfl) ?_ ?_ (by assumption) ?_
    rotate_left
    · (intro wx hSx; (try dsimp only at hSx); go_simp)
      all_goals with_reducible rfl
    (try simp only [Act.put, List.setIfInBounds_toArray, List.set_cons_zero, List.set_cons_succ])
    refine held_take 27 rfl (by kernel_rfl) (by kernel_rfl) (by kernel_rfl) (fun _ _ _ _ h => h) (by rfl) ?_ ?_ (by assumption) ?_
    rotate_left
    · (intro wx hSx; (try dsimp only at hSx); go_simp)
      all_goals with_reducible rfl
    (try simp only [Act.put, List.setIfInBounds_toArray, List.set_cons_zero, List.set_cons_succ])
    refine held_take 28 rfl (by kernel_rfl) (by kernel_rfl) (by kernel_rfl) (fun _ _ _ _ h => h) (by rfl) ?_ ?_ (by assumption) ?_
    rotate_left
    · (intro wx hSx; (try dsimp only at hSx); go_simp)
      all_goals with_reducible rfl
    (try simp only [Act.put, List.setIfInBounds_toArray, List.set_cons_zero, List.set_cons_succ])
    refine held_take 29 rfl (by kernel_rfl) (by kernel_rfl) (by kernel_rfl) (fun _ _ _ _ h => h) (by rfl) ?_ ?_ (by assumption) ?_
    rotate_left
    · (intro wx hSx; (try dsimp only at hSx); go_simp)
      all_goals with_reducible rfl
    (try simp only [Act.put, List.setIfInBounds_toArray, List.set_cons_zero, List.set_cons_succ])
    refine held_skip 30 rfl (by kernel_rfl) (by kernel_rfl) (by kernel_rfl) (fun _ _ _ _ h => h) (by rfl) (by assumption) ?_
    (try simp only [Act.put, List.setIfInBounds_toArray, List.set_cons_zero, List.set_cons_succ])
    refine held_skip 31 rfl (by kernel_rfl) (by kernel_rfl) (by kernel_rfl) (fun _ _ _ _ h => h) (by rfl) (by assumption) ?_
    (try simp only [Act.put, List.setIfInBounds_toArray, List.set_cons_zero, List.set_cons_succ])
    refine held_skip 32 rfl (by kernel_rfl) (by kernel_rfl) (by kernel_rfl) (fun _ _ _ _ h => h) (by rfl) (by assumption) ?_
    (try simp only [Act.put, List.setIfInBounds_toArray, List.set_cons_zero, List.set_cons_succ])
    refine held_skip 33 rfl (by kernel_rfl) (by kernel_rfl) (by kernel_rfl) (fun _ _ _ _ h => h) (by rfl) (by assumption) ?_
    (try simp only [Act.put, List.setIfInBounds_toArray, List.set_cons_zero, List.set_cons_succ])
    refine held_skip 34 rfl (by kernel_rfl) (by kernel_rfl) (by kernel_rfl) (fun _ _ _ _ h => h) (by rfl) (by assumption) ?_
    (try simp only [Act.put, List.setIfInBounds_toArray, List.set_cons_zero, List.set_cons_succ])
    refine held_skip 35 rfl (by kernel_rfl) (by kernel_rfl) (by kernel_rfl) (fun _ _ _ _ h => h) (by rfl) (by assumption) ?_
    (try simp only [Act.put, List.setIfInBounds_toArray, List.set_cons_zero, List.set_cons_succ])
    refine held_skip 36 rfl (by kernel_rfl) (by kernel_rfl) (by kernel_rfl) (fun _ _ _ _ h => h) (by rfl) (by assumption) ?_
    (try simp only [Act.put, List.setIfInBounds_toArray, List.set_cons_zero, List.set_cons_succ])
    refine held_take 37 rfl (by kernel_rfl) (by kernel_rfl) (by kernel_rfl) (fun _ _ _ _ h => h) (by rfl) ?_ ?_ (by assumption) ?_
    rotate_left
    · (intro wx hSx; (try dsimp only at hSx); go_simp)
      all_goals with_reducible rfl
    (try simp only [Act.put, List.setIfInBounds_toArray, List.set_cons_zero, List.set_cons_succ])
    refine held_take 38 rfl (by kernel_rfl) (by kernel_rfl) (by kernel_rfl) (fun _ _ _ _ h => h) (by rfl) ?_ ?_ (by assumption) ?_
    rotate_left
    · (intro wx hSx; (try dsimp only at hSx); go_simp)
      all_goals with_reducible rfl
    (try simp only [Act.put, List.setIfInBounds_toArray, List.set_cons_zero, List.set_cons_succ])
    refine held_take 39 rfl (by kernel_rfl) (by kernel_rfl) (by kernel_rfl) (fun _ _ _ _ h => h) (by rfl) ?_ ?_ (by assumption) ?_
    rotate_left
    · (intro wx hSx; (try dsimp only at hSx); go_simp)
      all_goals with_reducible rfl
    (try simp only [Act.put, List.setIfInBounds_toArray, List.set_cons_zero, List.set_cons_succ])
    refine wpAnyH_done (by kernel_rfl) ?_ _
    clear hHeld keepS hu hi1 hi2 hi3 hq1 hbld hq2 HM
    have hD14 : Ext w12 w14 := hE13.trans hE14
    have hz12 := (hF1.trans hF12).size
    go_wp2_with fail
    refine (OverBytes _ _ _ _ _ _ (hX12.ext hD14) (by have := hF12.size; have := hD14.size; omega) (by omega)).mono ?_
    rintro e w15 ⟨rfl, hG15⟩
    have hD15 : Ext w1 w15 := (hF12.trans hD14).grown hG15 (fun q hq => (hX12.block q hq).1)
    have hL15 := hL1.ext hD15
    go_wp2_with fail
    refine (KeptBytes _ _ _ _ _ _ _ _ _ hL15.sl HX.out (by omega) (h.ext (hF1.trans hD15)) hb hb).mono ?_
    rintro e w16 ⟨rfl, j16, hw16⟩
    have hD16 : Ext w15 w16 := by rw [hw16]; exact (Ext.refl _).drewN _
    clear hw16
    rw [decide_eq_true (rfl : xs = xs)]
    go_wp2_with (go_at_call 29; refine (law8_awake _).mono ?_; rintro e w17 ⟨rfl, hE17⟩)
    go_ret
    exact ⟨rfl, hF1.trans (hD15.trans (hD16.trans hE17))⟩
end Go.Proofs.Ythfkacgehdfciaa
