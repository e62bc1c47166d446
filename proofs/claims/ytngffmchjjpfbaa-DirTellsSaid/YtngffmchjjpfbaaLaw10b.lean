/- The statements on records: what the document says. -/
import Derived.Test.YtngffmchjjpfbaaLaw10
import Derived.Deep.RegionHeld3
namespace Go.Proofs.Ytngffmchjjpfbaa
set_option linter.unusedVariables false
open Go.RowKit

theorem ownBk (a : Addr) (n c : Nat) : (Value.slice (some a) n c).ownBlock = some a.block := rfl
theorem drewE {w w' : World} (h : ∃ k, w' = w.drewN k) : Ext w w' := by
  obtain ⟨k, rfl⟩ := h
  exact (Ext.refl _).drewN _
theorem lend_slR {w : World} {g n : Nat} {xs : List Nat} {B e : Nat} (hL : Own w B e (some ⟨g, 0, none⟩) (n + 3) (n + 3) (by8 (xs ++ [119, 119, 119]))) (hl : xs.length = n) : Sl w (some ⟨g, 0, none⟩) n (n + 3) (by8 xs) := by
  have := hL.sl.pre (m := n) (by omega)
  rw [by8_take, List.take_append_of_le_length (by omega), List.take_of_length_le (by omega)] at this
  exact this
/-- What is laid, whatever record it is, and what that is read as. -/
theorem Lay_any (r : Rec) : ∃ n1 e1 : Nat, n1 ≤ 128 ∧ (∀ w, Calls Try.prog 11 #[.agg (rV r).toArray] w fun e w' => ∃ A' c', e = .returned (.tuple #[.slice A' n1 c', .int .i64 (e1 : Nat)]) ∧ Own w' w.heap.size 5 A' n1 c' (by8 (layRL r)) ∧ Ext w w') ∧
    (∀ w, Calls Try.prog 12 #[.agg (rV r).toArray] w fun e w' => ∃ A' c', e = .returned (.tuple #[.slice A' n1 c', .int .i64 (e1 : Nat)]) ∧ Own w' w.heap.size 5 A' n1 c' (by8 (layRL r)) ∧ Ext w w') ∧
    ∃ (r2 : Rec) (i2 : Nat), readRL (layRL r) = r2 ∧ readRE (layRL r) = i2 ∧ ((mayR r = true ∧ n1 = 128 ∧ e1 = 0 ∧ r2 = r ∧ i2 = 0) ∨ (mayR r = false ∧ n1 = 0 ∧ e1 = 2 ∧ r2 = zR ∧ i2 = 3)) := by
  have ref : ∀ n1 : Nat, (layRL r).length = n1 → ∀ w, Calls Try.prog 12 #[.agg (rV r).toArray] w fun e w' => ∃ A' c', e = .returned (.tuple #[.slice A' n1 c', .int .i64 (layRE r : Nat)]) ∧ Own w' w.heap.size 5 A' n1 c' (by8 (layRL r)) ∧ Ext w w' := by
    intro n1 hn1 w
    refine (ref10_Lay r w).mono ?_
    rintro e w' ⟨A', n', c', rfl, hn, hO, hE⟩
    have hl := hO.len
    rw [by8_len, hn1] at hl
    subst hl
    exact ⟨A', c', rfl, hO, hE⟩
  cases hm : mayR r
  · obtain ⟨e1, e2⟩ := layRL_bad hm
    have hr := ref 0 (by rw [e1]; rfl)
    rw [e2] at hr
    exact ⟨0, 2, by omega, Lay_recN r hm, hr, zR, 3, by rw [e1]; exact readR_nil.1, by rw [e1]; exact readR_nil.2, .inr ⟨rfl, rfl, rfl, rfl, rfl⟩⟩
  · obtain ⟨e1, e2, e3⟩ := layRL_good hm
    have hr := ref 128 e3
    rw [e2] at hr
    exact ⟨128, 0, by omega, Lay_rec r hm, hr, r, 0, (readR_laid hm).1, (readR_laid hm).2, .inl ⟨rfl, rfl, rfl, rfl, rfl⟩⟩
set_option maxRecDepth 100000 in
set_option maxHeartbeats 4000000 in
theorem law_RecordTells (w : World) (r : Rec) (A : Option Addr) (n c : Nat) (xs : List Nat) (h : Sl w A n c (by8 xs)) (hb : Bytes xs) :
    Calls Try.prog 3 #[.agg (rV r).toArray, .slice A n c] w fun e w' => e = .returned (.bool true) ∧ Ext w w' := by
  have HX := hide (show xs.length = n by have := h.len; rwa [by8_len] at this)
  have hF := Ext.refl w
  obtain ⟨n1, e1, hn1, hlay, href, r2, i2, hr2, hi2, hcase⟩ := Lay_any r
  have hmay := fun w => rec_May r w
  have hrmay := fun w => ref10_May r w
  have hback := fun A n c w h hb => rec_Read A n c (layRL r) w h hb
  rw [hr2, hi2] at hback
  have heq2 := fun w => eq_rec r2 r w
  have heq1 := fun w => eq_rec (readRL xs) (readRL xs) w
  rw [decide_eq_true rfl] at heq1
  have HB := hide hback
  have HM := hide hmay
  have HRM := hide hrmay
  have HLL := hide hlay
  have HRL := hide href
  have HC := hide hcase
  have bl := Bytes.layRL r
  have hc5 : ∀ (w' : World) (g : Nat), Own w' g 23 (some ⟨g, 0, none⟩) 7 7 (rV r) → w'.cell? ⟨g, 5, none⟩ = some (.string r.2.2.2.2.2.1) ∧ w'.cell? ⟨g, 6, none⟩ = some (.string r.2.2.2.2.2.2) := fun w' g hO => ⟨hO.cellAt 5 (by omega), hO.cellAt 6 (by omega)⟩
  have HC5 := hide hc5
  clear hr2 hi2 hback hmay hrmay hlay href hcase hc5
  by_cases l1 : (100 : Int) < r.2.2.2.2.2.1.size
  · go_enter Try.func3, Try.ntmps3
    go_wp2_with (first
      | (with_reducible refine ag_box rfl 23 (.tmp 0) rfl _ 7 rfl rfl (by omega) (rV_one r) w.heap.size (Nat.le_refl _) ?_; intro w1 hO hE1 hz1; replace hF := hF.trans hE1; have hx1 := (HC5.out _ _ hO).1; have hx2 := (HC5.out _ _ hO).2)
      | (go_at_call 9; refine (law10_awake _).mono ?_; rintro e w5 ⟨rfl, hE5⟩))
    go_ret
    exact ⟨rfl, hF.trans hE5⟩
  by_cases l2 : (100 : Int) < r.2.2.2.2.2.2.size
  · go_enter Try.func3, Try.ntmps3
    go_wp2_with (first
      | (with_reducible refine ag_box rfl 23 (.tmp 0) rfl _ 7 rfl rfl (by omega) (rV_one r) w.heap.size (Nat.le_refl _) ?_; intro w1 hO hE1 hz1; replace hF := hF.trans hE1; have hx1 := (HC5.out _ _ hO).1; have hx2 := (HC5.out _ _ hO).2)
      | (go_at_call 9; refine (law10_awake _).mono ?_; rintro e w5 ⟨rfl, hE5⟩))
    go_ret
    exact ⟨rfl, hF.trans hE5⟩
  by_cases l3 : (200 : Int) < n
  · go_enter Try.func3, Try.ntmps3
    go_wp2_with (first
      | (with_reducible refine ag_box rfl 23 (.tmp 0) rfl _ 7 rfl rfl (by omega) (rV_one r) w.heap.size (Nat.le_refl _) ?_; intro w1 hO hE1 hz1; replace hF := hF.trans hE1; have hx1 := (HC5.out _ _ hO).1; have hx2 := (HC5.out _ _ hO).2)
      | (go_at_call 9; refine (law10_awake _).mono ?_; rintro e w5 ⟨rfl, hE5⟩))
    go_ret
    exact ⟨rfl, hF.trans hE5⟩
  go_enter Try.func3, Try.ntmps3
  go_wp2_with (with_reducible refine ag_box rfl 23 (.tmp 0) rfl _ 7 rfl rfl (by omega) (rV_one r) w.heap.size (Nat.le_refl _) ?_; intro w1 hO hE1 hz1; replace hF := hF.trans hE1; have hx1 := (HC5.out _ _ hO).1; have hx2 := (HC5.out _ _ hO).2)
  clear hx1 hx2
  refine (LendBytes _ _ _ _ _ (h.ext hF) (by omega)).mono ?_
  rintro e w2 ⟨g1, rfl, hP1, hE2⟩
  have y2 := hP1.block
  have z2 := hF.size
  have z3 := hE2.size
  replace hO := hO.ext hE2
  replace hF := hF.trans hE2
  go_wp2_with (with_reducible refine ag_load rfl 23 (.tmp 2) rfl w.heap.size 7 w.heap.size 23 _ rfl hO agg_rec info_rec ?_)
  refine (HLL.out _).mono ?_
  rintro e w3 ⟨A3, c3, rfl, hX, hE3⟩
  replace hO := hO.ext hE3
  replace hP1 := hP1.ext hE3
  replace hF := hF.trans hE3
  have hG := hE3
  have xB := hX.block
  go_wp2_with (with_reducible refine ag_load rfl 23 (.tmp 2) rfl w.heap.size 7 w.heap.size 23 _ rfl hO agg_rec info_rec ?_)
  refine (HRL.out _).mono ?_
  rintro e w4 ⟨A4, c4, rfl, hY, hE4⟩
  replace hO := hO.ext hE4
  replace hP1 := hP1.ext hE4
  replace hF := hF.trans hE4
  replace hX := hX.ext hE4
  replace hG := hG.trans hE4
  go_wp2_with fail
  refine (rec_Read _ _ _ _ _ (lend_slR hP1 HX.out) hb).mono ?_
  rintro e w5 ⟨rfl, hE5⟩
  replace hO := hO.ext hE5
  replace hP1 := hP1.ext hE5
  replace hF := hF.trans hE5
  replace hX := hX.ext hE5
  replace hY := hY.ext hE5
  replace hG := hG.trans hE5
  go_wp2_with (first
    | (with_reducible refine ag_alloc (o := ⟨some 10, _, _, _, _, _⟩) rfl 23 rfl _ 7 zero_rec rfl (by omega) (rV_one zR) w5.heap.size (Nat.le_refl _) ?_; intro w6 hR6 hE6 hz6)
    | (with_reducible refine ag_store (o := ⟨none, _, _, _, _, _⟩) rfl 23 (.tmp 10) (.tmp 48) rfl w5.heap.size 7 w5.heap.size 23 _ (rV (readRL xs)) rfl rfl hR6 rfl (rV_one _) info_rec ?_; intro w7 hU hG7
       have hE7 := hE6.grown hG7 (by simp)
       replace hO := hO.ext hE7
       replace hP1 := hP1.ext hE7
       replace hF := hF.trans hE7
       replace hX := hX.ext hE7
       replace hY := hY.ext hE7
       replace hG := hG.trans hE7))
  refine (ref10_Read _ _ _ _ _ (h.ext hF) hb).mono ?_
  rintro e w8 ⟨rfl, hE8⟩
  replace hO := hO.ext hE8
  replace hP1 := hP1.ext hE8
  replace hF := hF.trans hE8
  replace hX := hX.ext hE8
  replace hY := hY.ext hE8
  replace hU := hU.ext hE8
  replace hG := hG.trans hE8
  go_wp2_with (first
    | (with_reducible refine ag_alloc (o := ⟨some 12, _, _, _, _, _⟩) rfl 23 rfl _ 7 zero_rec rfl (by omega) (rV_one zR) w8.heap.size (Nat.le_refl _) ?_; intro w9 hR9 hE9 hz9)
    | (with_reducible refine ag_store (o := ⟨none, _, _, _, _, _⟩) rfl 23 (.tmp 12) (.tmp 53) rfl w8.heap.size 7 w8.heap.size 23 _ (rV (readRL xs)) rfl rfl hR9 rfl (rV_one _) info_rec ?_; intro w10 hV hG10
       have hE10 := hE9.grown hG10 (by simp)
       replace hO := hO.ext hE10
       replace hP1 := hP1.ext hE10
       replace hF := hF.trans hE10
       replace hX := hX.ext hE10
       replace hY := hY.ext hE10
       replace hU := hU.ext hE10
       replace hG := hG.trans hE10))
  refine (HB.out _ _ _ _ hX.sl bl).mono ?_
  rintro e w11 ⟨rfl, hE11⟩
  replace hO := hO.ext hE11
  replace hP1 := hP1.ext hE11
  replace hF := hF.trans hE11
  replace hX := hX.ext hE11
  replace hY := hY.ext hE11
  replace hU := hU.ext hE11
  replace hV := hV.ext hE11
  replace hG := hG.trans hE11
  go_upto_region 9 with (first
    | (with_reducible refine ag_alloc (o := ⟨some 14, _, _, _, _, _⟩) rfl 23 rfl _ 7 zero_rec rfl (by omega) (rV_one zR) w11.heap.size (Nat.le_refl _) ?_; intro w12 hR12 hE12 hz12)
    | (with_reducible refine ag_store (o := ⟨none, _, _, _, _, _⟩) rfl 23 (.tmp 14) (.tmp 58) rfl w11.heap.size 7 w11.heap.size 23 _ (rV r2) rfl rfl hR12 rfl (rV_one _) info_rec ?_; intro w13 hW hG13
       have hE13 := hE12.grown hG13 (by simp)
       replace hO := hO.ext hE13
       replace hP1 := hP1.ext hE13
       replace hF := hF.trans hE13
       replace hX := hX.ext hE13
       replace hY := hY.ext hE13
       replace hU := hU.ext hE13
       replace hV := hV.ext hE13
       replace hG := hG.trans hE13))
  clear hR6 hE6 hz6 hG7 hE7 hR9 hE9 hz9 hG10 hE10 hR12 hE12 hz12 hG13 hE13 hE2 hE3 hE4 hE5 hE8 hE11
  have hu := Try.underlying23
  have hi1 : (Try.prog.info? 23).map (·.size) = some (rV r).length := info_rec
  have hi2 : (Try.prog.info? 23).map (·.size) = some (rV (readRL xs)).length := info_rec
  have hi3 : (Try.prog.info? 23).map (·.size) = some (rV r2).length := info_rec
  have keepS : ∀ w', Ext w13 w' → w'.rangeAt w.heap.size 0 (rV r) ∧ w'.rangeAt w5.heap.size 0 (rV (readRL xs)) ∧ w'.rangeAt w8.heap.size 0 (rV (readRL xs)) ∧ w'.rangeAt w11.heap.size 0 (rV r2) :=
    fun w' hE => ⟨(hO.ext hE).range, (hU.ext hE).range, (hV.ext hE).range, (hW.ext hE).range⟩
  go_cut [16] (fun v wx => v = .bool true ∧ Ext w13 wx)
  case first =>
    refine wp_region_held_drew (S := fun w' => w'.rangeAt w.heap.size 0 (rV r) ∧ w'.rangeAt w5.heap.size 0 (rV (readRL xs)) ∧ w'.rangeAt w8.heap.size 0 (rV (readRL xs)) ∧ w'.rangeAt w11.heap.size 0 (rV r2)) (by kernel_rfl) (keepS _ (Ext.drew (Ext.refl _))) (fun hHeld => ?_)
    refine held_take 0 rfl (by kernel_rfl) (by kernel_rfl) (by kernel_rfl) (fun _ _ _ _ h => h) (by rfl) ?_ ?_ (by assumption) ?_
    rotate_left
    · (intro wx hSx; (try dsimp only at hSx); go_simp)
      all_goals with_reducible rfl
    (try simp only [Act.put, List.setIfInBounds_toArray, List.set_cons_zero, List.set_cons_succ])
    refine held_take 1 rfl (by kernel_rfl) (by kernel_rfl) (by kernel_rfl) (fun _ _ _ _ h => h) (by rfl) ?_ ?_ (by assumption) ?_
    rotate_left
    · (intro wx hSx; (try dsimp only at hSx); go_simp)
      all_goals with_reducible rfl
    (try simp only [Act.put, List.setIfInBounds_toArray, List.set_cons_zero, List.set_cons_succ])
    refine held_call 2 rfl (by kernel_rfl) (fun K hK => ?_)
    go_simp
    go_at_call 15
    refine (SameBytes _ _ _ _ _ _ _ _ _ (hX.ext (Ext.drew (Ext.refl _))).sl (hY.ext (Ext.drew (Ext.refl _))).sl bl bl).mono ?_
    rintro e w14 ⟨rfl, j4, hw4⟩
    have hE4 : Ext w13 w14 := by rw [hw4]; exact (Ext.drew (Ext.refl _)).drewN _
    clear hw4
    rw [decide_eq_true rfl]
    go_wp2_with fail
    refine hK.out _ _ (keepS _ hE4) (fun hHeld => ?_)
    clear hK K
    (try simp only [Act.put, List.setIfInBounds_toArray, List.set_cons_zero, List.set_cons_succ])
    refine held_take 3 rfl (by kernel_rfl) (by kernel_rfl) (by kernel_rfl) (fun _ _ _ _ h => h) (by rfl) ?_ ?_ (by assumption) ?_
    rotate_left
    · (intro wx hSx; (try dsimp only at hSx); go_simp)
      all_goals with_reducible rfl
    (try simp only [Act.put, List.setIfInBounds_toArray, List.set_cons_zero, List.set_cons_succ])
    refine held_take 4 rfl (by kernel_rfl) (by kernel_rfl) (by kernel_rfl) (fun _ _ _ _ h => h) (by rfl) ?_ ?_ (by assumption) ?_
    rotate_left
    · (intro wx hSx; (try dsimp only at hSx); go_simp)
      all_goals with_reducible rfl
    (try simp only [Act.put, List.setIfInBounds_toArray, List.set_cons_zero, List.set_cons_succ])
    refine held_take 5 rfl (by kernel_rfl) (by kernel_rfl) (by kernel_rfl) (fun _ _ _ _ h => h) (by rfl) ?_ ?_ (by assumption) ?_
    rotate_left
    · (intro wx hSx; (try dsimp only at hSx); go_simp)
      all_goals with_reducible rfl
    (try simp only [Act.put, List.setIfInBounds_toArray, List.set_cons_zero, List.set_cons_succ])
    refine held_take 6 rfl (by kernel_rfl) (by kernel_rfl) (by kernel_rfl) (fun _ _ _ _ h => h) (by rfl) ?_ ?_ (by assumption) ?_
    rotate_left
    · (intro wx hSx; (try dsimp only at hSx); go_simp)
      all_goals with_reducible rfl
    (try simp only [Act.put, List.setIfInBounds_toArray, List.set_cons_zero, List.set_cons_succ])
    refine held_take 7 rfl (by kernel_rfl) (by kernel_rfl) (by kernel_rfl) (fun _ _ _ _ h => h) (by rfl) ?_ ?_ (by assumption) ?_
    rotate_left
    · (intro wx hSx; (try dsimp only at hSx); go_simp)
      all_goals with_reducible rfl
    (try simp only [Act.put, List.setIfInBounds_toArray, List.set_cons_zero, List.set_cons_succ])
    refine held_take 8 rfl (by kernel_rfl) (by kernel_rfl) (by kernel_rfl) (fun _ _ _ _ h => h) (by rfl) ?_ ?_ (by assumption) ?_
    rotate_left
    · (intro wx hSx; (try dsimp only at hSx); go_simp)
      all_goals with_reducible rfl
    (try simp only [Act.put, List.setIfInBounds_toArray, List.set_cons_zero, List.set_cons_succ])
    refine held_load 9 rfl (by kernel_rfl) (by kernel_rfl) (by kernel_rfl) (fun _ _ _ _ h => h) (by rfl) 23 (.tmp 10) rfl w5.heap.size (rV (readRL xs)) _ rfl (fun wx hSx => hSx.2.1) hu rfl hi2 (by assumption) ?_
    (try simp only [Act.put, List.setIfInBounds_toArray, List.set_cons_zero, List.set_cons_succ])
    refine held_load 10 rfl (by kernel_rfl) (by kernel_rfl) (by kernel_rfl) (fun _ _ _ _ h => h) (by rfl) 23 (.tmp 12) rfl w8.heap.size (rV (readRL xs)) _ rfl (fun wx hSx => hSx.2.2.1) hu rfl hi2 (by assumption) ?_
    (try simp only [Act.put, List.setIfInBounds_toArray, List.set_cons_zero, List.set_cons_succ])
    refine held_take 11 rfl (by kernel_rfl) (by kernel_rfl) (by kernel_rfl) (fun _ _ _ _ h => h) (by rfl) ?_ ?_ (by assumption) ?_
    rotate_left
    · (intro wx hSx; (try dsimp only at hSx); go_simp)
      all_goals with_reducible rfl
    (try simp only [Act.put, List.setIfInBounds_toArray, List.set_cons_zero, List.set_cons_succ])
    refine held_take 12 rfl (by kernel_rfl) (by kernel_rfl) (by kernel_rfl) (fun _ _ _ _ h => h) (by rfl) ?_ ?_ (by assumption) ?_
    rotate_left
    · (intro wx hSx; (try dsimp only at hSx); go_simp)
      all_goals with_reducible rfl
    (try simp only [Act.put, List.setIfInBounds_toArray, List.set_cons_zero, List.set_cons_succ])
    refine held_take 13 rfl (by kernel_rfl) (by kernel_rfl) (by kernel_rfl) (fun _ _ _ _ h => h) (by rfl) ?_ ?_ (by assumption) ?_
    rotate_left
    · (intro wx hSx; (try dsimp only at hSx); go_simp)
      all_goals with_reducible rfl
    (try simp only [Act.put, List.setIfInBounds_toArray, List.set_cons_zero, List.set_cons_succ])
    refine held_take 14 rfl (by kernel_rfl) (by kernel_rfl) (by kernel_rfl) (fun _ _ _ _ h => h) (by rfl) ?_ ?_ (by assumption) ?_
    rotate_left
    · (intro wx hSx; (try dsimp only at hSx); go_simp)
      all_goals with_reducible rfl
    (try simp only [Act.put, List.setIfInBounds_toArray, List.set_cons_zero, List.set_cons_succ])
    refine held_take 15 rfl (by kernel_rfl) (by kernel_rfl) (by kernel_rfl) (fun _ _ _ _ h => h) (by rfl) ?_ ?_ (by assumption) ?_
    rotate_left
    · (intro wx hSx; (try dsimp only at hSx); go_simp)
      all_goals with_reducible rfl
    (try simp only [Act.put, List.setIfInBounds_toArray, List.set_cons_zero, List.set_cons_succ])
    refine held_take 16 rfl (by kernel_rfl) (by kernel_rfl) (by kernel_rfl) (fun _ _ _ _ h => h) (by rfl) ?_ ?_ (by assumption) ?_
    rotate_left
    · (intro wx hSx; (try dsimp only at hSx); go_simp)
      all_goals with_reducible rfl
    (try simp only [Act.put, List.setIfInBounds_toArray, List.set_cons_zero, List.set_cons_succ])
    refine held_take 17 rfl (by kernel_rfl) (by kernel_rfl) (by kernel_rfl) (fun _ _ _ _ h => h) (by rfl) ?_ ?_ (by assumption) ?_
    rotate_left
    · (intro wx hSx; (try dsimp only at hSx); go_simp)
      all_goals with_reducible rfl
    (try simp only [Act.put, List.setIfInBounds_toArray, List.set_cons_zero, List.set_cons_succ])
    refine held_take 18 rfl (by kernel_rfl) (by kernel_rfl) (by kernel_rfl) (fun _ _ _ _ h => h) (by rfl) ?_ ?_ (by assumption) ?_
    rotate_left
    · (intro wx hSx; (try dsimp only at hSx); go_simp)
      all_goals with_reducible rfl
    (try simp only [Act.put, List.setIfInBounds_toArray, List.set_cons_zero, List.set_cons_succ])
    refine held_load 19 rfl (by kernel_rfl) (by kernel_rfl) (by kernel_rfl) (fun _ _ _ _ h => h) (by rfl) 23 (.tmp 2) rfl w.heap.size (rV r) _ rfl (fun wx hSx => hSx.1) hu rfl hi1 (by assumption) ?_
    (try simp only [Act.put, List.setIfInBounds_toArray, List.set_cons_zero, List.set_cons_succ])
    refine held_load 21 rfl (by kernel_rfl) (by kernel_rfl) (by kernel_rfl) (fun _ _ _ _ h => h) (by rfl) 23 (.tmp 2) rfl w.heap.size (rV r) _ rfl (fun wx hSx => hSx.1) hu rfl hi1 (by assumption) ?_
    (try simp only [Act.put, List.setIfInBounds_toArray, List.set_cons_zero, List.set_cons_succ])
    refine held_call 20 rfl (by kernel_rfl) (fun K hK => ?_)
    go_simp
    go_at_call 16
    refine (HM.out _).mono ?_
    rintro e w15 ⟨rfl, hE5⟩
    replace hE5 := hE4.trans hE5
    go_wp2_with fail
    refine hK.out _ _ (keepS _ hE5) (fun hHeld => ?_)
    clear hK K
    (try simp only [Act.put, List.setIfInBounds_toArray, List.set_cons_zero, List.set_cons_succ])
    refine held_call 22 rfl (by kernel_rfl) (fun K hK => ?_)
    go_simp
    go_at_call 17
    refine (HRM.out _).mono ?_
    rintro e w16 ⟨rfl, hE6⟩
    replace hE6 := hE5.trans hE6
    go_wp2_with fail
    refine hK.out _ _ (keepS _ hE6) (fun hHeld => ?_)
    clear hK K
    (try simp only [Act.put, List.setIfInBounds_toArray, List.set_cons_zero, List.set_cons_succ])
    rcases HC.out with ⟨hm, hq, he, hr, hi⟩ | ⟨hm, hq, he, hr, hi⟩
    · have HM2 := hide (fun w => rec_May r w)
      rw [hm] at HM2
      rw [hm]
      rw [decide_eq_true hr] at heq2
      have t1 : ((e1 : Int) == 0) = true := by rw [he]; rfl
      have t2 : ((e1 : Int) != 0) = false := by rw [he]; rfl
      have t3 : ((i2 : Int) == 0) = true := by rw [hi]; rfl
      clear hm he hr hi hq
      refine held_take 23 rfl (by kernel_rfl) (by kernel_rfl) (by kernel_rfl) (fun _ _ _ _ h => h) (by rfl) ?_ ?_ (by assumption) ?_
      rotate_left
      · (intro wx hSx; (try dsimp only at hSx); go_simp)
        all_goals with_reducible rfl
      (try simp only [Act.put, List.setIfInBounds_toArray, List.set_cons_zero, List.set_cons_succ])
      refine held_take 24 rfl (by kernel_rfl) (by kernel_rfl) (by kernel_rfl) (fun _ _ _ _ h => h) (by rfl) ?_ ?_ (by assumption) ?_
      rotate_left
      · (intro wx hSx; (try dsimp only at hSx); go_simp)
        all_goals with_reducible rfl
      (try simp only [Act.put, List.setIfInBounds_toArray, List.set_cons_zero, List.set_cons_succ])
      refine held_take 25 rfl (by kernel_rfl) (by kernel_rfl) (by kernel_rfl) (fun _ _ _ _ h => h) (by rfl) ?_ ?_ (by assumption) ?_
      rotate_left
      · (intro wx hSx; (try dsimp only at hSx); go_simp)
        all_goals with_reducible rfl
      (try simp only [Act.put, List.setIfInBounds_toArray, List.set_cons_zero, List.set_cons_succ])
      refine held_take 26 rfl (by kernel_rfl) (by kernel_rfl) (by kernel_rfl) (fun _ _ _ _ h => h) (by rfl) ?_ ?_ (by assumption) ?_
      rotate_left
      · (intro wx hSx; (try dsimp only at hSx); go_simp)
        all_goals with_reducible rfl
      (try simp only [Act.put, List.setIfInBounds_toArray, List.set_cons_zero, List.set_cons_succ])
      refine held_take 27 rfl (by kernel_rfl) (by kernel_rfl) (by kernel_rfl) (fun _ _ _ _ h => h) (by rfl) ?_ ?_ (by assumption) ?_
      rotate_left
      · (intro wx hSx; (try dsimp only at hSx); go_simp)
        all_goals with_reducible rfl
      (try simp only [Act.put, List.setIfInBounds_toArray, List.set_cons_zero, List.set_cons_succ])
      refine held_load 28 rfl (by kernel_rfl) (by kernel_rfl) (by kernel_rfl) (fun _ _ _ _ h => h) (by rfl) 23 (.tmp 2) rfl w.heap.size (rV r) _ rfl (fun wx hSx => hSx.1) hu rfl hi1 (by assumption) ?_
      (try simp only [Act.put, List.setIfInBounds_toArray, List.set_cons_zero, List.set_cons_succ])
      refine held_call 29 rfl (by kernel_rfl) (fun K hK => ?_)
      go_simp
      go_at_call 16
      refine (HM2.out _).mono ?_
      rintro e w17 ⟨rfl, hE7⟩
      replace hE7 := hE6.trans hE7
      go_wp2_with fail
      refine hK.out _ _ (keepS _ hE7) (fun hHeld => ?_)
      clear hK K
      (try simp only [Act.put, List.setIfInBounds_toArray, List.set_cons_zero, List.set_cons_succ])
      refine held_take 30 rfl (by kernel_rfl) (by kernel_rfl) (by kernel_rfl) (fun _ _ _ _ h => h) (by rfl) ?_ ?_ (by assumption) ?_
      rotate_left
      · (intro wx hSx; (try dsimp only at hSx); go_simp)
        all_goals with_reducible rfl
      (try simp only [Act.put, List.setIfInBounds_toArray, List.set_cons_zero, List.set_cons_succ])
      refine held_take 31 rfl (by kernel_rfl) (by kernel_rfl) (by kernel_rfl) (fun _ _ _ _ h => h) (by rfl) ?_ ?_ (by assumption) ?_
      rotate_left
      · (intro wx hSx; (try dsimp only at hSx); go_simp)
        all_goals with_reducible rfl
      (try simp only [Act.put, List.setIfInBounds_toArray, List.set_cons_zero, List.set_cons_succ])
      refine held_take 32 rfl (by kernel_rfl) (by kernel_rfl) (by kernel_rfl) (fun _ _ _ _ h => h) (by rfl) ?_ ?_ (by assumption) ?_
      rotate_left
      · (intro wx hSx; (try dsimp only at hSx); go_simp)
        all_goals with_reducible rfl
      (try simp only [Act.put, List.setIfInBounds_toArray, List.set_cons_zero, List.set_cons_succ])
      refine held_take 33 rfl (by kernel_rfl) (by kernel_rfl) (by kernel_rfl) (fun _ _ _ _ h => h) (by rfl) ?_ ?_ (by assumption) ?_
      rotate_left
      · (intro wx hSx; (try dsimp only at hSx); go_simp)
        all_goals with_reducible rfl
      (try simp only [Act.put, List.setIfInBounds_toArray, List.set_cons_zero, List.set_cons_succ])
      refine held_take 34 rfl (by kernel_rfl) (by kernel_rfl) (by kernel_rfl) (fun _ _ _ _ h => h) (by rfl) ?_ ?_ (by assumption) ?_
      rotate_left
      · (intro wx hSx; (try dsimp only at hSx); go_simp)
        all_goals with_reducible rfl
      (try simp only [Act.put, List.setIfInBounds_toArray, List.set_cons_zero, List.set_cons_succ])
      refine held_take 35 rfl (by kernel_rfl) (by kernel_rfl) (by kernel_rfl) (fun _ _ _ _ h => h) (by rfl) ?_ ?_ (by assumption) ?_
      rotate_left
      · (intro wx hSx; (try dsimp only at hSx); go_simp)
        all_goals with_reducible rfl
      (try simp only [Act.put, List.setIfInBounds_toArray, List.set_cons_zero, List.set_cons_succ])
      refine held_take 36 rfl (by kernel_rfl) (by kernel_rfl) (by kernel_rfl) (fun _ _ _ _ h => h) (by rfl) ?_ ?_ (by assumption) ?_
      rotate_left
      · (intro wx hSx; (try dsimp only at hSx); go_simp)
        all_goals with_reducible rfl
      (try simp only [Act.put, List.setIfInBounds_toArray, List.set_cons_zero, List.set_cons_succ])
      refine held_take 37 rfl (by kernel_rfl) (by kernel_rfl) (by kernel_rfl) (fun _ _ _ _ h => h) (by rfl) ?_ ?_ (by assumption) ?_
      rotate_left
      · (intro wx hSx; (try dsimp only at hSx); go_simp)
        all_goals with_reducible rfl
      (try simp only [Act.put, List.setIfInBounds_toArray, List.set_cons_zero, List.set_cons_succ])
      refine held_take 38 rfl (by kernel_rfl) (by kernel_rfl) (by kernel_rfl) (fun _ _ _ _ h => h) (by rfl) ?_ ?_ (by assumption) ?_
      rotate_left
      · (intro wx hSx; (try dsimp only at hSx); go_simp)
        all_goals with_reducible rfl
      (try simp only [Act.put, List.setIfInBounds_toArray, List.set_cons_zero, List.set_cons_succ])
      refine held_load 39 rfl (by kernel_rfl) (by kernel_rfl) (by kernel_rfl) (fun _ _ _ _ h => h) (by rfl) 23 (.tmp 14) rfl w11.heap.size (rV r2) _ rfl (fun wx hSx => hSx.2.2.2) hu rfl hi3 (by assumption) ?_
      (try simp only [Act.put, List.setIfInBounds_toArray, List.set_cons_zero, List.set_cons_succ])
      refine held_load 40 rfl (by kernel_rfl) (by kernel_rfl) (by kernel_rfl) (fun _ _ _ _ h => h) (by rfl) 23 (.tmp 2) rfl w.heap.size (rV r) _ rfl (fun wx hSx => hSx.1) hu rfl hi1 (by assumption) ?_
      (try simp only [Act.put, List.setIfInBounds_toArray, List.set_cons_zero, List.set_cons_succ])
      refine held_take 41 rfl (by kernel_rfl) (by kernel_rfl) (by kernel_rfl) (fun _ _ _ _ h => h) (by rfl) ?_ ?_ (by assumption) ?_
      rotate_left
      · (intro wx hSx; (try dsimp only at hSx); go_simp)
        all_goals with_reducible rfl
      (try simp only [Act.put, List.setIfInBounds_toArray, List.set_cons_zero, List.set_cons_succ])
      refine held_take 42 rfl (by kernel_rfl) (by kernel_rfl) (by kernel_rfl) (fun _ _ _ _ h => h) (by rfl) ?_ ?_ (by assumption) ?_
      rotate_left
      · (intro wx hSx; (try dsimp only at hSx); go_simp)
        all_goals with_reducible rfl
      (try simp only [Act.put, List.setIfInBounds_toArray, List.set_cons_zero, List.set_cons_succ])
      refine held_take 43 rfl (by kernel_rfl) (by kernel_rfl) (by kernel_rfl) (fun _ _ _ _ h => h) (by rfl) ?_ ?_ (by assumption) ?_
      rotate_left
      · (intro wx hSx; (try dsimp only at hSx); go_simp)
        all_goals with_reducible rfl
      (try simp only [Act.put, List.setIfInBounds_toArray, List.set_cons_zero, List.set_cons_succ])
      refine held_take 44 rfl (by kernel_rfl) (by kernel_rfl) (by kernel_rfl) (fun _ _ _ _ h => h) (by rfl) ?_ ?_ (by assumption) ?_
      rotate_left
      · (intro wx hSx; (try dsimp only at hSx); go_simp)
        all_goals with_reducible rfl
      (try simp only [Act.put, List.setIfInBounds_toArray, List.set_cons_zero, List.set_cons_succ])
      refine held_take 45 rfl (by kernel_rfl) (by kernel_rfl) (by kernel_rfl) (fun _ _ _ _ h => h) (by rfl) ?_ ?_ (by assumption) ?_
      rotate_left
      · (intro wx hSx; (try dsimp only at hSx); go_simp)
        all_goals with_reducible rfl
      (try simp only [Act.put, List.setIfInBounds_toArray, List.set_cons_zero, List.set_cons_succ])
      refine wpAnyH_done (by kernel_rfl) ?_ _
      go_wp2_with fail
      go_meet
      exact ⟨rfl, hE7⟩
    · have HM2 := hide (fun w => rec_May r w)
      rw [hm] at HM2
      rw [hm]
      have t1 : ((e1 : Int) == 0) = false := by rw [he]; rfl
      have t2 : ((e1 : Int) != 0) = true := by rw [he]; rfl
      clear hm he hr hi hq
      refine held_take 23 rfl (by kernel_rfl) (by kernel_rfl) (by kernel_rfl) (fun _ _ _ _ h => h) (by rfl) ?_ ?_ (by assumption) ?_
      rotate_left
      · (intro wx hSx; (try dsimp only at hSx); go_simp)
        all_goals with_reducible rfl
      (try simp only [Act.put, List.setIfInBounds_toArray, List.set_cons_zero, List.set_cons_succ])
      refine held_take 24 rfl (by kernel_rfl) (by kernel_rfl) (by kernel_rfl) (fun _ _ _ _ h => h) (by rfl) ?_ ?_ (by assumption) ?_
      rotate_left
      · (intro wx hSx; (try dsimp only at hSx); go_simp)
        all_goals with_reducible rfl
      (try simp only [Act.put, List.setIfInBounds_toArray, List.set_cons_zero, List.set_cons_succ])
      refine held_take 25 rfl (by kernel_rfl) (by kernel_rfl) (by kernel_rfl) (fun _ _ _ _ h => h) (by rfl) ?_ ?_ (by assumption) ?_
      rotate_left
      · (intro wx hSx; (try dsimp only at hSx); go_simp)
        all_goals with_reducible rfl
      (try simp only [Act.put, List.setIfInBounds_toArray, List.set_cons_zero, List.set_cons_succ])
      refine held_take 26 rfl (by kernel_rfl) (by kernel_rfl) (by kernel_rfl) (fun _ _ _ _ h => h) (by rfl) ?_ ?_ (by assumption) ?_
      rotate_left
      · (intro wx hSx; (try dsimp only at hSx); go_simp)
        all_goals with_reducible rfl
      (try simp only [Act.put, List.setIfInBounds_toArray, List.set_cons_zero, List.set_cons_succ])
      refine held_take 27 rfl (by kernel_rfl) (by kernel_rfl) (by kernel_rfl) (fun _ _ _ _ h => h) (by rfl) ?_ ?_ (by assumption) ?_
      rotate_left
      · (intro wx hSx; (try dsimp only at hSx); go_simp)
        all_goals with_reducible rfl
      (try simp only [Act.put, List.setIfInBounds_toArray, List.set_cons_zero, List.set_cons_succ])
      refine held_load 28 rfl (by kernel_rfl) (by kernel_rfl) (by kernel_rfl) (fun _ _ _ _ h => h) (by rfl) 23 (.tmp 2) rfl w.heap.size (rV r) _ rfl (fun wx hSx => hSx.1) hu rfl hi1 (by assumption) ?_
      (try simp only [Act.put, List.setIfInBounds_toArray, List.set_cons_zero, List.set_cons_succ])
      refine held_call 29 rfl (by kernel_rfl) (fun K hK => ?_)
      go_simp
      go_at_call 16
      refine (HM2.out _).mono ?_
      rintro e w17 ⟨rfl, hE7⟩
      replace hE7 := hE6.trans hE7
      go_wp2_with fail
      refine hK.out _ _ (keepS _ hE7) (fun hHeld => ?_)
      clear hK K
      (try simp only [Act.put, List.setIfInBounds_toArray, List.set_cons_zero, List.set_cons_succ])
      refine held_take 30 rfl (by kernel_rfl) (by kernel_rfl) (by kernel_rfl) (fun _ _ _ _ h => h) (by rfl) ?_ ?_ (by assumption) ?_
      rotate_left
      · (intro wx hSx; (try dsimp only at hSx); go_simp)
        all_goals with_reducible rfl
      (try simp only [Act.put, List.setIfInBounds_toArray, List.set_cons_zero, List.set_cons_succ])
      refine held_take 31 rfl (by kernel_rfl) (by kernel_rfl) (by kernel_rfl) (fun _ _ _ _ h => h) (by rfl) ?_ ?_ (by assumption) ?_
      rotate_left
      · (intro wx hSx; (try dsimp only at hSx); go_simp)
        all_goals with_reducible rfl
      (try simp only [Act.put, List.setIfInBounds_toArray, List.set_cons_zero, List.set_cons_succ])
      refine held_take 32 rfl (by kernel_rfl) (by kernel_rfl) (by kernel_rfl) (fun _ _ _ _ h => h) (by rfl) ?_ ?_ (by assumption) ?_
      rotate_left
      · (intro wx hSx; (try dsimp only at hSx); go_simp)
        all_goals with_reducible rfl
      (try simp only [Act.put, List.setIfInBounds_toArray, List.set_cons_zero, List.set_cons_succ])
      refine held_take 33 rfl (by kernel_rfl) (by kernel_rfl) (by kernel_rfl) (fun _ _ _ _ h => h) (by rfl) ?_ ?_ (by assumption) ?_
      rotate_left
      · (intro wx hSx; (try dsimp only at hSx); go_simp)
        all_goals with_reducible rfl
      (try simp only [Act.put, List.setIfInBounds_toArray, List.set_cons_zero, List.set_cons_succ])
      refine held_take 34 rfl (by kernel_rfl) (by kernel_rfl) (by kernel_rfl) (fun _ _ _ _ h => h) (by rfl) ?_ ?_ (by assumption) ?_
      rotate_left
      · (intro wx hSx; (try dsimp only at hSx); go_simp)
        all_goals with_reducible rfl
      (try simp only [Act.put, List.setIfInBounds_toArray, List.set_cons_zero, List.set_cons_succ])
      refine held_take 35 rfl (by kernel_rfl) (by kernel_rfl) (by kernel_rfl) (fun _ _ _ _ h => h) (by rfl) ?_ ?_ (by assumption) ?_
      rotate_left
      · (intro wx hSx; (try dsimp only at hSx); go_simp)
        all_goals with_reducible rfl
      (try simp only [Act.put, List.setIfInBounds_toArray, List.set_cons_zero, List.set_cons_succ])
      refine held_skip 36 rfl (by kernel_rfl) (by kernel_rfl) (by kernel_rfl) (fun _ _ _ _ h => h) (by rfl) (by assumption) ?_
      (try simp only [Act.put, List.setIfInBounds_toArray, List.set_cons_zero, List.set_cons_succ])
      refine held_skip 37 rfl (by kernel_rfl) (by kernel_rfl) (by kernel_rfl) (fun _ _ _ _ h => h) (by rfl) (by assumption) ?_
      (try simp only [Act.put, List.setIfInBounds_toArray, List.set_cons_zero, List.set_cons_succ])
      refine held_skip 38 rfl (by kernel_rfl) (by kernel_rfl) (by kernel_rfl) (fun _ _ _ _ h => h) (by rfl) (by assumption) ?_
      (try simp only [Act.put, List.setIfInBounds_toArray, List.set_cons_zero, List.set_cons_succ])
      refine held_skip 39 rfl (by kernel_rfl) (by kernel_rfl) (by kernel_rfl) (fun _ _ _ _ h => h) (by rfl) (by assumption) ?_
      (try simp only [Act.put, List.setIfInBounds_toArray, List.set_cons_zero, List.set_cons_succ])
      refine held_skip 40 rfl (by kernel_rfl) (by kernel_rfl) (by kernel_rfl) (fun _ _ _ _ h => h) (by rfl) (by assumption) ?_
      (try simp only [Act.put, List.setIfInBounds_toArray, List.set_cons_zero, List.set_cons_succ])
      refine held_skip 41 rfl (by kernel_rfl) (by kernel_rfl) (by kernel_rfl) (fun _ _ _ _ h => h) (by rfl) (by assumption) ?_
      (try simp only [Act.put, List.setIfInBounds_toArray, List.set_cons_zero, List.set_cons_succ])
      refine held_skip 42 rfl (by kernel_rfl) (by kernel_rfl) (by kernel_rfl) (fun _ _ _ _ h => h) (by rfl) (by assumption) ?_
      (try simp only [Act.put, List.setIfInBounds_toArray, List.set_cons_zero, List.set_cons_succ])
      refine held_take 43 rfl (by kernel_rfl) (by kernel_rfl) (by kernel_rfl) (fun _ _ _ _ h => h) (by rfl) ?_ ?_ (by assumption) ?_
      rotate_left
      · (intro wx hSx; (try dsimp only at hSx); go_simp)
        all_goals with_reducible rfl
      (try simp only [Act.put, List.setIfInBounds_toArray, List.set_cons_zero, List.set_cons_succ])
      refine held_take 44 rfl (by kernel_rfl) (by kernel_rfl) (by kernel_rfl) (fun _ _ _ _ h => h) (by rfl) ?_ ?_ (by assumption) ?_
      rotate_left
      · (intro wx hSx; (try dsimp only at hSx); go_simp)
        all_goals with_reducible rfl
      (try simp only [Act.put, List.setIfInBounds_toArray, List.set_cons_zero, List.set_cons_succ])
      refine held_take 45 rfl (by kernel_rfl) (by kernel_rfl) (by kernel_rfl) (fun _ _ _ _ h => h) (by rfl) ?_ ?_ (by assumption) ?_
      rotate_left
      · (intro wx hSx; (try dsimp only at hSx); go_simp)
        all_goals with_reducible rfl
      (try simp only [Act.put, List.setIfInBounds_toArray, List.set_cons_zero, List.set_cons_succ])
      refine wpAnyH_done (by kernel_rfl) ?_ _
      go_wp2_with fail
      go_meet
      exact ⟨rfl, hE7⟩
  case rest =>
    obtain ⟨rfl, hE14⟩ := hcut
    clear keepS hi1 hi2 hi3 hu heq1 heq2
    replace hP1 := hP1.ext hE14
    replace hF := hF.trans hE14
    replace hX := hX.ext hE14
    replace hG := hG.trans hE14
    have s1 := hG.size
    have s2 := hE14.size
    have s0 := hF.size
    go_wp2_with fail
    refine (OverBytes _ _ _ _ _ _ hX (by omega) (by omega)).mono ?_
    rintro e w15 ⟨rfl, hG15⟩
    have y1 := hP1.block
    have hP15 := hP1.kept hG15 (by intro a ha he; have h1 := xB _ he.symm; have h2 := y2 _ (by rw [ha]; exact ownBk _ _ _); omega)
    have hF15 : Ext w w15 := hF.grown hG15 (fun q hq => by have := xB q hq; omega)
    go_wp2_with fail
    refine (KeptBytes _ _ _ _ _ _ _ _ _ hP15.sl HX.out (by omega) (h.ext hF15) hb hb).mono ?_
    rintro e w16 ⟨rfl, j16⟩
    have hE16 := drewE j16
    clear j16
    rw [decide_eq_true rfl]
    go_wp2_with fail
    refine (law10_awake _).mono ?_
    rintro e w17 ⟨rfl, hE17⟩
    go_wp2
    go_ret
    exact ⟨rfl, hF15.trans (hE16.trans hE17)⟩
end Go.Proofs.Ytngffmchjjpfbaa
