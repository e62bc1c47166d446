/- The statements on inodes: the document's answer. -/
import Derived.Test.YthbdnaogjmnagaaLaw7c
namespace Go.Proofs.Ythbdnaogjmnagaa
set_option linter.unusedVariables false
open Go.RowKit

set_option maxRecDepth 100000 in
set_option maxHeartbeats 2000000 in
theorem law_InodeTells (w : World) (is : List Int) (hl : is.length = 44) (_hp : ∀ p ∈ is, -9223372036854775808 ≤ p ∧ p ≤ 9223372036854775807) (A : Option Addr) (n c : Nat) (xs : List Nat) (h : Sl w A n c (by8 xs)) (hb : Bytes xs)
    (k : Int) (k0 : -9223372036854775808 ≤ k) (_k1 : k ≤ 9223372036854775807) :
    Calls Try.prog 9 #[.agg (i64s is).toArray, .slice A n c, .int .i64 k] w fun e w' => e = .returned (.bool true) ∧ Ext w w' := by
  have hxl : xs.length = n := by have := h.len; rwa [by8_len] at this
  have HX := hide hxl
  have HL := hide hl
  have HLL := hide (i64s_len' hl)
  clear hxl hl _hp _k1
  by_cases hn : (200 : Int) < n
  · go_enter Try.func9, Try.ntmps9
    go_wp2_with (first
      | (with_reducible refine ag_box (o := ⟨some 3, _, _, _, _, _⟩) rfl 49 _ rfl _ 44 rfl HLL.out (by omega) (i64s_one is) w.heap.size (Nat.le_refl _) ?_; intro w1 hB1 hE1 hz1)
      | (go_at_call 43; refine (law7_awake _).mono ?_; rintro e w2 ⟨rfl, hE2⟩))
    go_ret
    exact ⟨rfl, hE1.trans hE2⟩
  go_enter Try.func9, Try.ntmps9
  go_wp2_with (with_reducible refine ag_box (o := ⟨some 3, _, _, _, _, _⟩) rfl 49 _ rfl _ 44 rfl HLL.out (by omega) (i64s_one is) w.heap.size (Nat.le_refl _) ?_; intro w0 hB0 hE0 hz0)
  refine (LendBytes _ _ _ _ _ (h.ext hE0) (by omega)).mono ?_
  rintro e w1 ⟨g1, rfl, hL1, hE1⟩
  have hF1 : Ext w w1 := hE0.trans hE1
  have hS1 : Sl w1 (some ⟨g1, 0, none⟩) n (n + 3) (by8 xs) := by
    have := hL1.sl.pre (m := n) (by omega)
    rw [by8_take, List.take_append_of_le_length (by rw [HX.out]; omega), List.take_of_length_le (by rw [HX.out]; omega)] at this
    exact this
  go_wp2_with (with_reducible refine ag_load rfl 49 (.tmp 3) rfl w.heap.size 44 w.heap.size 49 _ rfl (hB0.ext hE1) agg_inodes info_inodes ?_)
  refine (inode_Lay is HL.out _).mono ?_
  rintro e w2 ⟨A2, n2, c2, rfl, hn2, hO2, hE2⟩
  go_wp2_with (with_reducible refine ag_load rfl 49 (.tmp 3) rfl w.heap.size 44 w.heap.size 49 _ rfl (hB0.ext (hE1.trans hE2)) agg_inodes info_inodes ?_)
  refine (ref7_Lay is HL.out _).mono ?_
  rintro e w3 ⟨A3, n3, c3, rfl, hn3, hO3, hE3⟩
  have hF3 : Ext w1 w3 := hE2.trans hE3
  go_wp2_with fail
  refine (inode_Read _ _ _ _ _ (hS1.ext hF3) hb).mono ?_
  rintro e w4 ⟨rfl, hE4⟩
  go_wp2_with (first
    | (with_reducible refine ag_alloc (o := ⟨some 12, _, _, _, _, _⟩) rfl 49 rfl _ 44 zero_inodes rfl (by omega) (i64s_one _) w4.heap.size (Nat.le_refl _) ?_; intro w5 hU5 hE5 hz5)
    | (with_reducible refine ag_store (o := ⟨none, _, _, _, _, _⟩) rfl 49 (.tmp 12) (.tmp 42) rfl w4.heap.size 44 w4.heap.size 49 _ _ rfl rfl hU5 (i64s_len' (rdL_len _)) (i64s_one _) info_inodes ?_; intro w6 hU6 hG6
       have hE6 : Ext w4 w6 := hE5.grown hG6 (by simp)))
  have hF6 : Ext w1 w6 := hF3.trans (hE4.trans hE6)
  refine (ref7_Read _ _ _ _ _ (h.ext (hF1.trans hF6)) hb).mono ?_
  rintro e w7 ⟨rfl, hE7⟩
  go_wp2_with (first
    | (with_reducible refine ag_alloc (o := ⟨some 14, _, _, _, _, _⟩) rfl 49 rfl _ 44 zero_inodes rfl (by omega) (i64s_one _) w7.heap.size (Nat.le_refl _) ?_; intro w8 hV8 hE8 hz8)
    | (with_reducible refine ag_store (o := ⟨none, _, _, _, _, _⟩) rfl 49 (.tmp 14) (.tmp 47) rfl w7.heap.size 44 w7.heap.size 49 _ _ rfl rfl hV8 (i64s_len' (rdL_len _)) (i64s_one _) info_inodes ?_; intro w9 hV9 hG9
       have hE9 : Ext w7 w9 := hE8.grown hG9 (by simp)))
  refine (inode_Place k _).mono ?_
  rintro e w' ⟨rfl, rfl⟩
  go_wp2_with fail
  refine (ref7_Place k _).mono ?_
  rintro e w' ⟨rfl, rfl⟩
  have hF9 : Ext w1 w9 := hF6.trans (hE7.trans hE9)
  have hB9 := hB0.ext (hE1.trans hF9)
  have hU9 := hU6.ext (hE7.trans hE9)
  have hX9 := hO2.ext (hE3.trans (hE4.trans (hE6.trans (hE7.trans hE9))))
  have hY9 := hO3.ext (hE4.trans (hE6.trans (hE7.trans hE9)))
  have hz9 := (hF1.trans hF9).size
  have hz29 := (hE2.trans (hE3.trans (hE4.trans (hE6.trans (hE7.trans hE9))))).size
  have hpre : ∀ {w' : World}, w'.rangeAt w.heap.size 0 (i64s is) → w'.rangeAt w.heap.size 0 (i64s (nth is 0)) := by
    intro w' hr j v hj
    have e : i64s (nth is 0) = ((i64s is).drop 0).take 11 := (nth_at is).1
    rw [e, List.drop_zero, List.getElem?_take] at hj
    split at hj
    · exact hr j v hj
    · cases hj
  have keepS : ∀ w', Ext w9 w' → w'.rangeAt w4.heap.size 0 (i64s (rdL xs)) ∧ w'.rangeAt w7.heap.size 0 (i64s (rdL xs)) ∧ w'.rangeAt w.heap.size 0 (i64s (nth is 0)) :=
    fun w' hE => ⟨(hU9.ext hE).range, (hV9.ext hE).range, hpre (hB9.ext hE).range⟩
  have hu := Try.underlying49
  have hi2 : (Try.prog.info? 49).map (·.size) = some (i64s (rdL xs)).length := by rw [i64s_len' (rdL_len _)]; exact info_inodes
  have hi3 : (Try.prog.info? 48).map (·.size) = some (i64s (nth is 0)).length := by rw [i64s_len' (nth_len HL.out (by omega))]; exact info_inode
  have hq1 : ∀ w1, (Op.equalIn 10000 49 (.agg (i64s (rdL xs)).toArray) (.agg (i64s (rdL xs)).toArray)).run Try.prog w1 = .ok true w1 := by
    intro w1
    rw [eq_inodes _ _ (rdL_len _) (rdL_len _), decide_eq_true rfl]
  have HM1 := fun w1 => inode_May (nth is 0) (nth_len HL.out (by omega)) w1
  have HM2 := fun w1 => ref7_May (nth is 0) (nth_len HL.out (by omega)) w1
  generalize decide (mayI (nth is 0)) = dm at HM1 HM2
  have HN1 := fun w1 => inode_Need k k0 w1
  have HN2 := fun w1 => ref7_Need k k0 w1
  generalize needI k = nk at HN1 HN2
  clear hB0 hE0 hz0 hO2 hn3 hO3 hU5 hE5 hz5 hU6 hG6 hV8 hE8 hz8 hG9 hE1 hE2 hE3 hE4 hE6 hE7 hE9 hU9 hF3 hF6 hpre
  go_upto_region 10 with fail
  refine wp_region_held_drew (S := fun w' => w'.rangeAt w4.heap.size 0 (i64s (rdL xs)) ∧ w'.rangeAt w7.heap.size 0 (i64s (rdL xs)) ∧ w'.rangeAt w.heap.size 0 (i64s (nth is 0))) (by kernel_rfl) (keepS _ (Ext.drew (Ext.refl _))) (fun hHeld => ?_)
  refine held_take 0 rfl (by kernel_rfl) (by kernel_rfl) (by kernel_rfl) (fun _ _ _ _ h => h) (by rfl) ?_ ?_ (by assumption) ?_
  rotate_left
  · (intro wx hSx; (try dsimp only at hSx); go_simp)
    all_goals with_reducible rfl
  (try simp only [Act.put, List.setIfInBounds_toArray, List.set_cons_zero, List.set_cons_succ])
  refine held_take 1 rfl (by kernel_rfl) (by kernel_rfl) (by kernel_rfl) (fun _ _ _ _ h => h) (by rfl) ?_ ?_ (by assumption) ?_
  rotate_left
  · (intro wx hSx; (try dsimp only at hSx); go_simp)
    all_goals with_reducible rfl
  (try simp only [Act.put, List.setIfInBounds_toArray, List.set_cons_zero, List.set_cons_succ])
  refine held_call 2 rfl (by kernel_rfl) (fun K hK => ?_)
  go_simp
  go_at_call 42
  refine (SameBytes _ _ _ _ _ _ _ _ _ (hX9.ext (Ext.drew (Ext.refl _))).sl (hY9.ext (Ext.drew (Ext.refl _))).sl (Bytes.layIL is) (Bytes.layIL is)).mono ?_
  rintro e w13 ⟨rfl, j13, hw13⟩
  have hE13 : Ext w9 w13 := by rw [hw13]; exact (Ext.drew (Ext.refl _)).drewN _
  clear hw13
  rw [decide_eq_true (rfl : layIL is = layIL is)]
  go_wp2_with fail
  refine hK.out _ _ (keepS _ hE13) (fun hHeld => ?_)
  clear hK K
  (try simp only [Act.put, List.setIfInBounds_toArray, List.set_cons_zero, List.set_cons_succ])
  refine held_take 3 rfl (by kernel_rfl) (by kernel_rfl) (by kernel_rfl) (fun _ _ _ _ h => h) (by rfl) ?_ ?_ (by assumption) ?_
  rotate_left
  · (intro wx hSx; (try dsimp only at hSx); go_simp)
    all_goals with_reducible rfl
  (try simp only [Act.put, List.setIfInBounds_toArray, List.set_cons_zero, List.set_cons_succ])
  refine held_take 4 rfl (by kernel_rfl) (by kernel_rfl) (by kernel_rfl) (fun _ _ _ _ h => h) (by rfl) ?_ ?_ (by assumption) ?_
  rotate_left
  · (intro wx hSx; (try dsimp only at hSx); go_simp)
    all_goals with_reducible rfl
  (try simp only [Act.put, List.setIfInBounds_toArray, List.set_cons_zero, List.set_cons_succ])
  refine held_take 5 rfl (by kernel_rfl) (by kernel_rfl) (by kernel_rfl) (fun _ _ _ _ h => h) (by rfl) ?_ ?_ (by assumption) ?_
  rotate_left
  · (intro wx hSx; (try dsimp only at hSx); go_simp)
    all_goals with_reducible rfl
  (try simp only [Act.put, List.setIfInBounds_toArray, List.set_cons_zero, List.set_cons_succ])
  refine held_take 6 rfl (by kernel_rfl) (by kernel_rfl) (by kernel_rfl) (fun _ _ _ _ h => h) (by rfl) ?_ ?_ (by assumption) ?_
  rotate_left
  · (intro wx hSx; (try dsimp only at hSx); go_simp)
    all_goals with_reducible rfl
  (try simp only [Act.put, List.setIfInBounds_toArray, List.set_cons_zero, List.set_cons_succ])
  refine held_take 7 rfl (by kernel_rfl) (by kernel_rfl) (by kernel_rfl) (fun _ _ _ _ h => h) (by rfl) ?_ ?_ (by assumption) ?_
  rotate_left
  · (intro wx hSx; (try dsimp only at hSx); go_simp)
    all_goals with_reducible rfl
  (try simp only [Act.put, List.setIfInBounds_toArray, List.set_cons_zero, List.set_cons_succ])
  refine held_take 8 rfl (by kernel_rfl) (by kernel_rfl) (by kernel_rfl) (fun _ _ _ _ h => h) (by rfl) ?_ ?_ (by assumption) ?_
  rotate_left
  · (intro wx hSx; (try dsimp only at hSx); go_simp)
    all_goals with_reducible rfl
  (try simp only [Act.put, List.setIfInBounds_toArray, List.set_cons_zero, List.set_cons_succ])
  refine held_load 9 rfl (by kernel_rfl) (by kernel_rfl) (by kernel_rfl) (fun _ _ _ _ h => h) (by rfl) 49 (.tmp 12) rfl w4.heap.size (i64s (rdL xs)) _ rfl (fun wx hSx => hSx.1) hu rfl hi2 (by assumption) ?_
  (try simp only [Act.put, List.setIfInBounds_toArray, List.set_cons_zero, List.set_cons_succ])
  refine held_load 10 rfl (by kernel_rfl) (by kernel_rfl) (by kernel_rfl) (fun _ _ _ _ h => h) (by rfl) 49 (.tmp 14) rfl w7.heap.size (i64s (rdL xs)) _ rfl (fun wx hSx => hSx.2.1) hu rfl hi2 (by assumption) ?_
  (try simp only [Act.put, List.setIfInBounds_toArray, List.set_cons_zero, List.set_cons_succ])
  refine held_take 11 rfl (by kernel_rfl) (by kernel_rfl) (by kernel_rfl) (fun _ _ _ _ h => h) (by rfl) ?_ ?_ (by assumption) ?_
  rotate_left
  · (intro wx hSx; (try dsimp only at hSx); go_simp)
    all_goals with_reducible rfl
  (try simp only [Act.put, List.setIfInBounds_toArray, List.set_cons_zero, List.set_cons_succ])
  refine held_take 12 rfl (by kernel_rfl) (by kernel_rfl) (by kernel_rfl) (fun _ _ _ _ h => h) (by rfl) ?_ ?_ (by assumption) ?_
  rotate_left
  · (intro wx hSx; (try dsimp only at hSx); go_simp)
    all_goals with_reducible rfl
  (try simp only [Act.put, List.setIfInBounds_toArray, List.set_cons_zero, List.set_cons_succ])
  refine held_take 13 rfl (by kernel_rfl) (by kernel_rfl) (by kernel_rfl) (fun _ _ _ _ h => h) (by rfl) ?_ ?_ (by assumption) ?_
  rotate_left
  · (intro wx hSx; (try dsimp only at hSx); go_simp)
    all_goals with_reducible rfl
  (try simp only [Act.put, List.setIfInBounds_toArray, List.set_cons_zero, List.set_cons_succ])
  refine held_take 14 rfl (by kernel_rfl) (by kernel_rfl) (by kernel_rfl) (fun _ _ _ _ h => h) (by rfl) ?_ ?_ (by assumption) ?_
  rotate_left
  · (intro wx hSx; (try dsimp only at hSx); go_simp)
    all_goals with_reducible rfl
  (try simp only [Act.put, List.setIfInBounds_toArray, List.set_cons_zero, List.set_cons_succ])
  refine held_take 15 rfl (by kernel_rfl) (by kernel_rfl) (by kernel_rfl) (fun _ _ _ _ h => h) (by rfl) ?_ ?_ (by assumption) ?_
  rotate_left
  · (intro wx hSx; (try dsimp only at hSx); go_simp)
    all_goals with_reducible rfl
  (try simp only [Act.put, List.setIfInBounds_toArray, List.set_cons_zero, List.set_cons_succ])
  refine held_take 16 rfl (by kernel_rfl) (by kernel_rfl) (by kernel_rfl) (fun _ _ _ _ h => h) (by rfl) ?_ ?_ (by assumption) ?_
  rotate_left
  · (intro wx hSx; (try dsimp only at hSx); go_simp)
    all_goals with_reducible rfl
  (try simp only [Act.put, List.setIfInBounds_toArray, List.set_cons_zero, List.set_cons_succ])
  refine held_take 17 rfl (by kernel_rfl) (by kernel_rfl) (by kernel_rfl) (fun _ _ _ _ h => h) (by rfl) ?_ ?_ (by assumption) ?_
  rotate_left
  · (intro wx hSx; (try dsimp only at hSx); go_simp)
    all_goals with_reducible rfl
  (try simp only [Act.put, List.setIfInBounds_toArray, List.set_cons_zero, List.set_cons_succ])
  refine held_take 18 rfl (by kernel_rfl) (by kernel_rfl) (by kernel_rfl) (fun _ _ _ _ h => h) (by rfl) ?_ ?_ (by assumption) ?_
  rotate_left
  · (intro wx hSx; (try dsimp only at hSx); go_simp)
    all_goals with_reducible rfl
  (try simp only [Act.put, List.setIfInBounds_toArray, List.set_cons_zero, List.set_cons_succ])
  refine held_take 19 rfl (by kernel_rfl) (by kernel_rfl) (by kernel_rfl) (fun _ _ _ _ h => h) (by rfl) ?_ ?_ (by assumption) ?_
  rotate_left
  · (intro wx hSx; (try dsimp only at hSx); go_simp)
    all_goals with_reducible rfl
  (try simp only [Act.put, List.setIfInBounds_toArray, List.set_cons_zero, List.set_cons_succ])
  refine held_take 20 rfl (by kernel_rfl) (by kernel_rfl) (by kernel_rfl) (fun _ _ _ _ h => h) (by rfl) ?_ ?_ (by assumption) ?_
  rotate_left
  · (intro wx hSx; (try dsimp only at hSx); go_simp)
    all_goals with_reducible rfl
  (try simp only [Act.put, List.setIfInBounds_toArray, List.set_cons_zero, List.set_cons_succ])
  refine held_take 21 rfl (by kernel_rfl) (by kernel_rfl) (by kernel_rfl) (fun _ _ _ _ h => h) (by rfl) ?_ ?_ (by assumption) ?_
  rotate_left
  · (intro wx hSx; (try dsimp only at hSx); go_simp)
    all_goals with_reducible rfl
  (try simp only [Act.put, List.setIfInBounds_toArray, List.set_cons_zero, List.set_cons_succ])
  refine held_take 22 rfl (by kernel_rfl) (by kernel_rfl) (by kernel_rfl) (fun _ _ _ _ h => h) (by rfl) ?_ ?_ (by assumption) ?_
  rotate_left
  · (intro wx hSx; (try dsimp only at hSx); go_simp)
    all_goals with_reducible rfl
  (try simp only [Act.put, List.setIfInBounds_toArray, List.set_cons_zero, List.set_cons_succ])
  refine held_take 23 rfl (by kernel_rfl) (by kernel_rfl) (by kernel_rfl) (fun _ _ _ _ h => h) (by rfl) ?_ ?_ (by assumption) ?_
  rotate_left
  · (intro wx hSx; (try dsimp only at hSx); go_simp)
    all_goals with_reducible rfl
  (try simp only [Act.put, List.setIfInBounds_toArray, List.set_cons_zero, List.set_cons_succ])
  refine held_take 24 rfl (by kernel_rfl) (by kernel_rfl) (by kernel_rfl) (fun _ _ _ _ h => h) (by rfl) ?_ ?_ (by assumption) ?_
  rotate_left
  · (intro wx hSx; (try dsimp only at hSx); go_simp)
    all_goals with_reducible rfl
  (try simp only [Act.put, List.setIfInBounds_toArray, List.set_cons_zero, List.set_cons_succ])
  refine held_take 25 rfl (by kernel_rfl) (by kernel_rfl) (by kernel_rfl) (fun _ _ _ _ h => h) (by rfl) ?_ ?_ (by assumption) ?_
  rotate_left
  · (intro wx hSx; (try dsimp only at hSx); go_simp)
    all_goals with_reducible rfl
  (try simp only [Act.put, List.setIfInBounds_toArray, List.set_cons_zero, List.set_cons_succ])
  refine held_take 26 rfl (by kernel_rfl) (by kernel_rfl) (by kernel_rfl) (fun _ _ _ _ h => h) (by rfl) ?_ ?_ (by assumption) ?_
  rotate_left
  · (intro wx hSx; (try dsimp only at hSx); go_simp)
    all_goals with_reducible rfl
  (try simp only [Act.put, List.setIfInBounds_toArray, List.set_cons_zero, List.set_cons_succ])
  refine held_take 27 rfl (by kernel_rfl) (by kernel_rfl) (by kernel_rfl) (fun _ _ _ _ h => h) (by rfl) ?_ ?_ (by assumption) ?_
  rotate_left
  · (intro wx hSx; (try dsimp only at hSx); go_simp)
    all_goals with_reducible rfl
  (try simp only [Act.put, List.setIfInBounds_toArray, List.set_cons_zero, List.set_cons_succ])
  refine held_take 28 rfl (by kernel_rfl) (by kernel_rfl) (by kernel_rfl) (fun _ _ _ _ h => h) (by rfl) ?_ ?_ (by assumption) ?_
  rotate_left
  · (intro wx hSx; (try dsimp only at hSx); go_simp)
    all_goals with_reducible rfl
  (try simp only [Act.put, List.setIfInBounds_toArray, List.set_cons_zero, List.set_cons_succ])
  refine held_take 29 rfl (by kernel_rfl) (by kernel_rfl) (by kernel_rfl) (fun _ _ _ _ h => h) (by rfl) ?_ ?_ (by assumption) ?_
  rotate_left
  · (intro wx hSx; (try dsimp only at hSx); go_simp)
    all_goals with_reducible rfl
  (try simp only [Act.put, List.setIfInBounds_toArray, List.set_cons_zero, List.set_cons_succ])
  refine held_take 30 rfl (by kernel_rfl) (by kernel_rfl) (by kernel_rfl) (fun _ _ _ _ h => h) (by rfl) ?_ ?_ (by assumption) ?_
  rotate_left
  · (intro wx hSx; (try dsimp only at hSx); go_simp)
    all_goals with_reducible rfl
  (try simp only [Act.put, List.setIfInBounds_toArray, List.set_cons_zero, List.set_cons_succ])
  refine held_take 31 rfl (by kernel_rfl) (by kernel_rfl) (by kernel_rfl) (fun _ _ _ _ h => h) (by rfl) ?_ ?_ (by assumption) ?_
  rotate_left
  · (intro wx hSx; (try dsimp only at hSx); go_simp)
    all_goals with_reducible rfl
  (try simp only [Act.put, List.setIfInBounds_toArray, List.set_cons_zero, List.set_cons_succ])
  refine held_take 32 rfl (by kernel_rfl) (by kernel_rfl) (by kernel_rfl) (fun _ _ _ _ h => h) (by rfl) ?_ ?_ (by assumption) ?_
  rotate_left
  · (intro wx hSx; (try dsimp only at hSx); go_simp)
    all_goals with_reducible rfl
  (try simp only [Act.put, List.setIfInBounds_toArray, List.set_cons_zero, List.set_cons_succ])
  refine held_take 33 rfl (by kernel_rfl) (by kernel_rfl) (by kernel_rfl) (fun _ _ _ _ h => h) (by rfl) ?_ ?_ (by assumption) ?_
  rotate_left
  · (intro wx hSx; (try dsimp only at hSx); go_simp)
    all_goals with_reducible rfl
  (try simp only [Act.put, List.setIfInBounds_toArray, List.set_cons_zero, List.set_cons_succ])
  refine held_take 34 rfl (by kernel_rfl) (by kernel_rfl) (by kernel_rfl) (fun _ _ _ _ h => h) (by rfl) ?_ ?_ (by assumption) ?_
  rotate_left
  · (intro wx hSx; (try dsimp only at hSx); go_simp)
    all_goals with_reducible rfl
  (try simp only [Act.put, List.setIfInBounds_toArray, List.set_cons_zero, List.set_cons_succ])
  refine held_take 36 rfl (by kernel_rfl) (by kernel_rfl) (by kernel_rfl) (fun _ _ _ _ h => h) (by rfl) ?_ ?_ (by assumption) ?_
  rotate_left
  · (intro wx hSx; (try dsimp only at hSx); go_simp)
    all_goals with_reducible rfl
  (try simp only [Act.put, List.setIfInBounds_toArray, List.set_cons_zero, List.set_cons_succ])
  refine held_call 35 rfl (by kernel_rfl) (fun K hK => ?_)
  go_simp
  go_at_call 51
  refine (HN1 _).mono ?_
  rintro e w' ⟨rfl, rfl⟩
  go_wp2_with fail
  refine hK.out _ _ (keepS _ hE13) (fun hHeld => ?_)
  clear hK K
  (try simp only [Act.put, List.setIfInBounds_toArray, List.set_cons_zero, List.set_cons_succ])
  refine held_call 37 rfl (by kernel_rfl) (fun K hK => ?_)
  go_simp
  go_at_call 52
  refine (HN2 _).mono ?_
  rintro e w' ⟨rfl, rfl⟩
  go_wp2_with fail
  refine hK.out _ _ (keepS _ hE13) (fun hHeld => ?_)
  clear hK K
  (try simp only [Act.put, List.setIfInBounds_toArray, List.set_cons_zero, List.set_cons_succ])
  refine held_take 38 rfl (by kernel_rfl) (by kernel_rfl) (by kernel_rfl) (fun _ _ _ _ h => h) (by rfl) ?_ ?_ (by assumption) ?_
  rotate_left
  · (intro wx hSx; (try dsimp only at hSx); go_simp)
    all_goals with_reducible rfl
  (try simp only [Act.put, List.setIfInBounds_toArray, List.set_cons_zero, List.set_cons_succ])
  refine held_take 39 rfl (by kernel_rfl) (by kernel_rfl) (by kernel_rfl) (fun _ _ _ _ h => h) (by rfl) ?_ ?_ (by assumption) ?_
  rotate_left
  · (intro wx hSx; (try dsimp only at hSx); go_simp)
    all_goals with_reducible rfl
  (try simp only [Act.put, List.setIfInBounds_toArray, List.set_cons_zero, List.set_cons_succ])
  refine held_take 40 rfl (by kernel_rfl) (by kernel_rfl) (by kernel_rfl) (fun _ _ _ _ h => h) (by rfl) ?_ ?_ (by assumption) ?_
  rotate_left
  · (intro wx hSx; (try dsimp only at hSx); go_simp)
    all_goals with_reducible rfl
  (try simp only [Act.put, List.setIfInBounds_toArray, List.set_cons_zero, List.set_cons_succ])
  refine held_take 41 rfl (by kernel_rfl) (by kernel_rfl) (by kernel_rfl) (fun _ _ _ _ h => h) (by rfl) ?_ ?_ (by assumption) ?_
  rotate_left
  · (intro wx hSx; (try dsimp only at hSx); go_simp)
    all_goals with_reducible rfl
  (try simp only [Act.put, List.setIfInBounds_toArray, List.set_cons_zero, List.set_cons_succ])
  refine held_take 44 rfl (by kernel_rfl) (by kernel_rfl) (by kernel_rfl) (fun _ _ _ _ h => h) (by rfl) ?_ ?_ (by assumption) ?_
  rotate_left
  · (intro wx hSx; (try dsimp only at hSx); go_simp)
    all_goals with_reducible rfl
  (try simp only [Act.put, List.setIfInBounds_toArray, List.set_cons_zero, List.set_cons_succ])
  have hu := Try.underlying48
  refine held_load 42 rfl (by kernel_rfl) (by kernel_rfl) (by kernel_rfl) (fun _ _ _ _ h => h) (by rfl) 48 (.tmp 102) rfl w.heap.size (i64s (nth is 0)) _ rfl (fun wx hSx => hSx.2.2) hu rfl hi3 (by assumption) ?_
  (try simp only [Act.put, List.setIfInBounds_toArray, List.set_cons_zero, List.set_cons_succ])
  refine held_load 45 rfl (by kernel_rfl) (by kernel_rfl) (by kernel_rfl) (fun _ _ _ _ h => h) (by rfl) 48 (.tmp 105) rfl w.heap.size (i64s (nth is 0)) _ rfl (fun wx hSx => hSx.2.2) hu rfl hi3 (by assumption) ?_
  (try simp only [Act.put, List.setIfInBounds_toArray, List.set_cons_zero, List.set_cons_succ])
  refine held_call 43 rfl (by kernel_rfl) (fun K hK => ?_)
  go_simp
  go_at_call 53
  refine (HM1 _).mono ?_
  rintro e w14 ⟨rfl, hE14⟩
  go_wp2_with fail
  refine hK.out _ _ (keepS _ (hE13.trans hE14)) (fun hHeld => ?_)
  clear hK K
  (try simp only [Act.put, List.setIfInBounds_toArray, List.set_cons_zero, List.set_cons_succ])
  refine held_call 46 rfl (by kernel_rfl) (fun K hK => ?_)
  go_simp
  go_at_call 54
  refine (HM2 _).mono ?_
  rintro e w15 ⟨rfl, hE15⟩
  have hD15 : Ext w9 w15 := hE13.trans (hE14.trans hE15)
  go_wp2_with fail
  refine hK.out _ _ (keepS _ hD15) (fun hHeld => ?_)
  clear hK K
  (try simp only [Act.put, List.setIfInBounds_toArray, List.set_cons_zero, List.set_cons_succ])
  refine held_take 47 rfl (by kernel_rfl) (by kernel_rfl) (by kernel_rfl) (fun _ _ _ _ h => h) (by rfl) ?_ ?_ (by assumption) ?_
  rotate_left
  · (intro wx hSx; (try dsimp only at hSx); go_simp)
    all_goals with_reducible rfl
  (try simp only [Act.put, List.setIfInBounds_toArray, List.set_cons_zero, List.set_cons_succ])
  refine held_take 48 rfl (by kernel_rfl) (by kernel_rfl) (by kernel_rfl) (fun _ _ _ _ h => h) (by rfl) ?_ ?_ (by assumption) ?_
  rotate_left
  · (intro wx hSx; (try dsimp only at hSx); go_simp)
    all_goals with_reducible rfl
  (try simp only [Act.put, List.setIfInBounds_toArray, List.set_cons_zero, List.set_cons_succ])
  refine held_take 49 rfl (by kernel_rfl) (by kernel_rfl) (by kernel_rfl) (fun _ _ _ _ h => h) (by rfl) ?_ ?_ (by assumption) ?_
  rotate_left
  · (intro wx hSx; (try dsimp only at hSx); go_simp)
    all_goals with_reducible rfl
  (try simp only [Act.put, List.setIfInBounds_toArray, List.set_cons_zero, List.set_cons_succ])
  refine wpAnyH_done (by kernel_rfl) ?_ _
  clear hHeld keepS hu hi2 hi3 hq1 HM1 HM2 HN1 HN2
  have hz15 := hD15.size
  go_wp2_with fail
  refine (OverBytes _ _ _ _ _ _ (hX9.ext hD15) (by omega) (by omega)).mono ?_
  rintro e w16 ⟨rfl, hG16⟩
  have hD16 : Ext w1 w16 := (hF9.trans hD15).grown hG16 (fun q hq => (hX9.block q hq).1)
  have hL16 := hL1.ext hD16
  go_wp2_with fail
  refine (KeptBytes _ _ _ _ _ _ _ _ _ hL16.sl HX.out (by omega) (h.ext (hF1.trans hD16)) hb hb).mono ?_
  rintro e w17 ⟨rfl, j17, hw17⟩
  have hD17 : Ext w16 w17 := by rw [hw17]; exact (Ext.refl _).drewN _
  clear hw17
  rw [decide_eq_true (rfl : xs = xs)]
  go_wp2_with (go_at_call 43; refine (law7_awake _).mono ?_; rintro e w18 ⟨rfl, hE18⟩)
  go_ret
  exact ⟨rfl, hF1.trans (hD16.trans (hD17.trans hE18))⟩
end Go.Proofs.Ythbdnaogjmnagaa
