/- The statements on inodes: what was laid is read again. -/
import Derived.Test.YthbdnaogjmnagaaLaw7
namespace Go.Proofs.Ythbdnaogjmnagaa
set_option linter.unusedVariables false
open Go.RowKit

theorem Lay_good (is : List Int) (hl : is.length = 44) (ha : allI is 4) (w : World) : Calls Try.prog 45 #[.agg (i64s is).toArray] w fun e w' => ∃ A' c', e = .returned (.tuple #[.slice A' 128 c', .int .i64 0]) ∧ Own w' w.heap.size 5 A' 128 c' (by8 (layIL is)) ∧ Ext w w' :=
  (inode_Lay is hl w).mono (by
    rintro e w' ⟨A', n', c', rfl, hn, hO, hE⟩
    have h := hO.len
    rw [by8_len, layIL_len hl ha] at h
    rw [layIE_zero.2 ha]
    subst h
    exact ⟨A', c', rfl, hO, hE⟩)
theorem layIL_no {is : List Int} (ha : ¬ allI is 4) : layIL is = [] := if_neg ha
theorem layIE_no {is : List Int} (ha : ¬ allI is 4) : layIE is = 2 := if_neg ha
theorem Lay_bad (is : List Int) (hl : is.length = 44) (ha : ¬ allI is 4) (w : World) : Calls Try.prog 45 #[.agg (i64s is).toArray] w fun e w' => ∃ A' c', e = .returned (.tuple #[.slice A' 0 c', .int .i64 2]) ∧ Own w' w.heap.size 5 A' 0 c' (by8 (layIL is)) ∧ Ext w w' :=
  (inode_Lay is hl w).mono (by
    rintro e w' ⟨A', n', c', rfl, hn, hO, hE⟩
    have h := hO.len
    rw [by8_len, layIL_no ha] at h
    rw [layIE_no ha]
    subst h
    exact ⟨A', c', rfl, hO, hE⟩)
theorem allI_four (is : List Int) : allI is 4 ↔ mayI (nth is 0) ∧ mayI (nth is 1) ∧ mayI (nth is 2) ∧ mayI (nth is 3) := by
  constructor
  · intro h; exact ⟨h 0 (by omega), h 1 (by omega), h 2 (by omega), h 3 (by omega)⟩
  · rintro ⟨h0, h1, h2, h3⟩ j hj
    rcases (show j = 0 ∨ j = 1 ∨ j = 2 ∨ j = 3 by omega) with rfl | rfl | rfl | rfl
    · exact h0
    · exact h1
    · exact h2
    · exact h3
theorem nth_at (is : List Int) : i64s (nth is 0) = ((i64s is).drop 0).take 11 ∧ i64s (nth is 1) = ((i64s is).drop 11).take 11 ∧ i64s (nth is 2) = ((i64s is).drop 22).take 11 ∧ i64s (nth is 3) = ((i64s is).drop 33).take 11 :=
  ⟨(nth_i64s is 0).symm, (nth_i64s is 1).symm, (nth_i64s is 2).symm, (nth_i64s is 3).symm⟩

set_option maxRecDepth 100000 in
set_option maxHeartbeats 2000000 in
theorem law_InodeBack (w : World) (is : List Int) (hl : is.length = 44) (_hp : ∀ p ∈ is, -9223372036854775808 ≤ p ∧ p ≤ 9223372036854775807) :
    Calls Try.prog 10 #[.agg (i64s is).toArray] w fun e w' => e = .returned (.bool true) ∧ Ext w w' := by
  clear _hp
  have hll := i64s_len' hl
  have HLL := hide hll
  have HN := hide (nth_at is)
  have m0 := fun w => inode_May (nth is 0) (nth_len hl (by omega)) w
  have m1 := fun w => inode_May (nth is 1) (nth_len hl (by omega)) w
  have m2 := fun w => inode_May (nth is 2) (nth_len hl (by omega)) w
  have m3 := fun w => inode_May (nth is 3) (nth_len hl (by omega)) w
  have hF := Ext.refl w
  by_cases ha : allI is 4
  · obtain ⟨b0, b1, b2, b3⟩ := (allI_four is).1 ha
    rw [decide_eq_true b0] at m0
    rw [decide_eq_true b1] at m1
    rw [decide_eq_true b2] at m2
    rw [decide_eq_true b3] at m3
    clear b0 b1 b2 b3
    have x4 := fun A n c w h hb => inode_Read A n c (layIL is) w h hb
    rw [(read_laid hl ha).1, (read_laid hl ha).2] at x4
    have hbb := Bytes.layIL is
    have hlay := fun w => Lay_good is hl ha w
    have heq := fun w => eq_inodes is is hl hl w
    rw [decide_eq_true rfl] at heq
    clear ha hl hll
    go_enter Try.func10, Try.ntmps10
    go_wp2_with (first
      | (with_reducible refine ag_box rfl 49 (.tmp 0) rfl _ 44 rfl HLL.out (by omega) (i64s_one is) w.heap.size (Nat.le_refl _) ?_; intro w1 hB hE1 hz1; replace hF := hF.trans hE1)
      | (with_reducible refine ag_load rfl 49 (.tmp 1) rfl w.heap.size 44 w.heap.size 49 _ rfl hB agg_inodes info_inodes ?_)
      | (go_at_call 45; refine (hlay _).mono ?_; rintro e w2 ⟨A1, c1, rfl, hO1, hE2⟩; have hS := hO1.sl; replace hB := hB.ext hE2; replace hF := hF.trans hE2)
      | (with_reducible refine ag_loadIs (i64s (nth is 0)) rfl 48 _ rfl w.heap.size 0 11 44 44 w.heap.size 49 _ HN.out.1 rfl hB agg_inode info_inode (by omega) ?_)
      | (with_reducible refine ag_loadIs (i64s (nth is 1)) rfl 48 _ rfl w.heap.size 11 11 44 44 w.heap.size 49 _ HN.out.2.1 rfl hB agg_inode info_inode (by omega) ?_)
      | (with_reducible refine ag_loadIs (i64s (nth is 2)) rfl 48 _ rfl w.heap.size 22 11 44 44 w.heap.size 49 _ HN.out.2.2.1 rfl hB agg_inode info_inode (by omega) ?_)
      | (with_reducible refine ag_loadIs (i64s (nth is 3)) rfl 48 _ rfl w.heap.size 33 11 44 44 w.heap.size 49 _ HN.out.2.2.2 rfl hB agg_inode info_inode (by omega) ?_)
      | (go_at_call 53; with_reducible refine (m0 _).mono ?_; rintro e w2 ⟨rfl, hE2⟩; replace hS := hS.ext hE2; replace hB := hB.ext hE2; replace hF := hF.trans hE2)
      | (go_at_call 53; with_reducible refine (m1 _).mono ?_; rintro e w2 ⟨rfl, hE2⟩; replace hS := hS.ext hE2; replace hB := hB.ext hE2; replace hF := hF.trans hE2)
      | (go_at_call 53; with_reducible refine (m2 _).mono ?_; rintro e w2 ⟨rfl, hE2⟩; replace hS := hS.ext hE2; replace hB := hB.ext hE2; replace hF := hF.trans hE2)
      | (go_at_call 53; with_reducible refine (m3 _).mono ?_; rintro e w2 ⟨rfl, hE2⟩; replace hS := hS.ext hE2; replace hB := hB.ext hE2; replace hF := hF.trans hE2))
    refine (x4 _ _ _ _ hS hbb).mono ?_
    rintro e w2 ⟨rfl, hE2⟩
    replace hB := hB.ext hE2
    replace hF := hF.trans hE2
    go_wp2_with (first
      | (with_reducible refine ag_alloc (o := ⟨some 6, _, _, _, _, _⟩) rfl 49 rfl _ 44 zero_inodes rfl (by omega) (i64s_one _) w2.heap.size (Nat.le_refl _) ?_; intro w3 hR3 hE3 hz3)
      | (with_reducible refine ag_store (o := ⟨none, _, _, _, _, _⟩) rfl 49 (.tmp 6) (.tmp 46) rfl w2.heap.size 44 w2.heap.size 49 _ (i64s is) rfl rfl hR3 HLL.out (i64s_one _) info_inodes ?_; intro w4 hR4 hG4
         replace hB := hB.ext (hE3.grown hG4 (by simp))
         replace hF := hF.trans (hE3.grown hG4 (by simp)))
      | (with_reducible refine ag_load rfl 49 (.tmp 6) rfl w2.heap.size 44 w2.heap.size 49 _ rfl hR4 agg_inodes info_inodes ?_)
      | (with_reducible refine ag_load rfl 49 (.tmp 1) rfl w.heap.size 44 w.heap.size 49 _ rfl hB agg_inodes info_inodes ?_)
      | (go_at_call 43; refine (law7_awake _).mono ?_; rintro e w5 ⟨rfl, hE5⟩))
    go_ret
    exact ⟨rfl, hF.trans hE5⟩
  · have hlay := fun w => Lay_bad is hl ha w
    have hcase : (decide (mayI (nth is 0)) = false) ∨ (decide (mayI (nth is 0)) = true ∧ decide (mayI (nth is 1)) = false) ∨ (decide (mayI (nth is 0)) = true ∧ decide (mayI (nth is 1)) = true ∧ decide (mayI (nth is 2)) = false) ∨
        (decide (mayI (nth is 0)) = true ∧ decide (mayI (nth is 1)) = true ∧ decide (mayI (nth is 2)) = true ∧ decide (mayI (nth is 3)) = false) := by
      rw [allI_four] at ha
      simp only [decide_eq_true_iff, decide_eq_false_iff_not]
      by_cases b0 : mayI (nth is 0)
      · by_cases b1 : mayI (nth is 1)
        · by_cases b2 : mayI (nth is 2)
          · exact .inr (.inr (.inr ⟨b0, b1, b2, fun b3 => ha ⟨b0, b1, b2, b3⟩⟩))
          · exact .inr (.inr (.inl ⟨b0, b1, b2⟩))
        · exact .inr (.inl ⟨b0, b1⟩)
      · exact .inl b0
    clear ha hl hll
    generalize decide (mayI (nth is 0)) = d0 at *
    generalize decide (mayI (nth is 1)) = d1 at *
    generalize decide (mayI (nth is 2)) = d2 at *
    generalize decide (mayI (nth is 3)) = d3 at *
    rcases hcase with rfl | ⟨rfl, rfl⟩ | ⟨rfl, rfl, rfl⟩ | ⟨rfl, rfl, rfl, rfl⟩ <;>
      (go_enter Try.func10, Try.ntmps10
       go_wp2_with (first
        | (with_reducible refine ag_box rfl 49 (.tmp 0) rfl _ 44 rfl HLL.out (by omega) (i64s_one is) w.heap.size (Nat.le_refl _) ?_; intro w1 hB hE1 hz1; replace hF := hF.trans hE1)
        | (with_reducible refine ag_load rfl 49 (.tmp 1) rfl w.heap.size 44 w.heap.size 49 _ rfl hB agg_inodes info_inodes ?_)
        | (go_at_call 45; refine (hlay _).mono ?_; rintro e w2 ⟨A1, c1, rfl, hO1, hE2⟩; replace hB := hB.ext hE2; replace hF := hF.trans hE2)
        | (with_reducible refine ag_loadIs (i64s (nth is 0)) rfl 48 _ rfl w.heap.size 0 11 44 44 w.heap.size 49 _ HN.out.1 rfl hB agg_inode info_inode (by omega) ?_)
        | (with_reducible refine ag_loadIs (i64s (nth is 1)) rfl 48 _ rfl w.heap.size 11 11 44 44 w.heap.size 49 _ HN.out.2.1 rfl hB agg_inode info_inode (by omega) ?_)
        | (with_reducible refine ag_loadIs (i64s (nth is 2)) rfl 48 _ rfl w.heap.size 22 11 44 44 w.heap.size 49 _ HN.out.2.2.1 rfl hB agg_inode info_inode (by omega) ?_)
        | (with_reducible refine ag_loadIs (i64s (nth is 3)) rfl 48 _ rfl w.heap.size 33 11 44 44 w.heap.size 49 _ HN.out.2.2.2 rfl hB agg_inode info_inode (by omega) ?_)
        | (go_at_call 53; with_reducible refine (m0 _).mono ?_; rintro e w2 ⟨rfl, hE2⟩; replace hB := hB.ext hE2; replace hF := hF.trans hE2)
        | (go_at_call 53; with_reducible refine (m1 _).mono ?_; rintro e w2 ⟨rfl, hE2⟩; replace hB := hB.ext hE2; replace hF := hF.trans hE2)
        | (go_at_call 53; with_reducible refine (m2 _).mono ?_; rintro e w2 ⟨rfl, hE2⟩; replace hB := hB.ext hE2; replace hF := hF.trans hE2)
        | (go_at_call 53; with_reducible refine (m3 _).mono ?_; rintro e w2 ⟨rfl, hE2⟩; replace hB := hB.ext hE2; replace hF := hF.trans hE2)
        | (go_at_call 43; refine (law7_awake _).mono ?_; rintro e w5 ⟨rfl, hE5⟩))
       go_ret
       exact ⟨rfl, hF.trans hE5⟩)
end Go.Proofs.Ythbdnaogjmnagaa
