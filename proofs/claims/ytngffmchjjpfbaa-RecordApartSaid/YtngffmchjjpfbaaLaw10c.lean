/- The statements on records: sectors that are alike. -/
import Derived.Test.YtngffmchjjpfbaaLaw10b
import Derived.Test.YtngffmchjjpfbaaApart
namespace Go.Proofs.Ytngffmchjjpfbaa
set_option linter.unusedVariables false
open Go.RowKit

set_option maxRecDepth 100000 in
set_option maxHeartbeats 4000000 in
theorem law_RecordApart (w : World) (r q : Rec) (z : Int) (_hz1 : -9223372036854775808 ≤ z) (_hz2 : z ≤ 9223372036854775807) (y : Nat) (hy : y < 256) :
    Calls Try.prog 4 #[.agg (rV r).toArray, .agg (rV q).toArray, .int .i64 z, .int .u8 y] w fun e w' => e = .returned (.bool true) ∧ Ext w w' := by
  have hF := Ext.refl w
  obtain ⟨n1, e1, hn1, hlay1, _, _, _, _, _, hcase1⟩ := Lay_any r
  obtain ⟨n2, e2, hn2, hlay2, _, _, _, _, _, hcase2⟩ := Lay_any q
  have HC := hide (And.intro (show (mayR r = true ∧ n1 = 128 ∧ e1 = 0) ∨ (mayR r = false ∧ n1 = 0 ∧ e1 = 2) from by rcases hcase1 with ⟨a, b, c, _⟩ | ⟨a, b, c, _⟩; exact .inl ⟨a, b, c⟩; exact .inr ⟨a, b, c⟩)
    (show (mayR q = true ∧ n2 = 128 ∧ e2 = 0) ∨ (mayR q = false ∧ n2 = 0 ∧ e2 = 2) from by rcases hcase2 with ⟨a, b, c, _⟩ | ⟨a, b, c, _⟩; exact .inl ⟨a, b, c⟩; exact .inr ⟨a, b, c⟩))
  have Y1 := hide hlay1
  have Y2 := hide hlay2
  have M1 := hide (fun w => rec_May r w)
  have M2 := hide (fun w => rec_May q w)
  have hc5 : ∀ (r : Rec) (w' : World) (B g : Nat), Own w' B 23 (some ⟨g, 0, none⟩) 7 7 (rV r) → w'.cell? ⟨g, 5, none⟩ = some (.string r.2.2.2.2.2.1) ∧ w'.cell? ⟨g, 6, none⟩ = some (.string r.2.2.2.2.2.2) := fun r w' B g hO => ⟨hO.cellAt 5 (by omega), hO.cellAt 6 (by omega)⟩
  have HC5 := hide hc5
  clear hlay1 hlay2 hcase1 hcase2 hc5
  by_cases hgt : (100 : Int) < r.2.2.2.2.2.1.size ∨ (¬ (100 : Int) < r.2.2.2.2.2.1.size ∧ (100 : Int) < r.2.2.2.2.2.2.size) ∨ (¬ (100 : Int) < r.2.2.2.2.2.1.size ∧ ¬ (100 : Int) < r.2.2.2.2.2.2.size ∧ (100 : Int) < q.2.2.2.2.2.1.size) ∨ (¬ (100 : Int) < r.2.2.2.2.2.1.size ∧ ¬ (100 : Int) < r.2.2.2.2.2.2.size ∧ ¬ (100 : Int) < q.2.2.2.2.2.1.size ∧ (100 : Int) < q.2.2.2.2.2.2.size)
  · rcases hgt with l1 | ⟨l1, l2⟩ | ⟨l1, l2, l3⟩ | ⟨l1, l2, l3, l4⟩ <;>
      (go_enter Try.func4, Try.ntmps4
       go_wp2_with (first
        | (with_reducible refine ag_box (o := ⟨some 4, _, _, _, _, _⟩) rfl 23 (.tmp 0) rfl _ 7 rfl rfl (by omega) (rV_one r) w.heap.size (Nat.le_refl _) ?_; intro w0 hB0 hE0 hz0)
        | (with_reducible refine ag_box (o := ⟨some 5, _, _, _, _, _⟩) rfl 23 (.tmp 1) rfl _ 7 rfl rfl (by omega) (rV_one q) w0.heap.size (Nat.le_refl _) ?_; intro w1 hC1 hE1 hz1; replace hF := hE0.trans hE1
           have hx1 := (HC5.out _ _ _ _ (hB0.ext hE1)).1; have hx2 := (HC5.out _ _ _ _ (hB0.ext hE1)).2; have hx3 := (HC5.out _ _ _ _ hC1).1; have hx4 := (HC5.out _ _ _ _ hC1).2)
        | (go_at_call 9; refine (law10_awake _).mono ?_; rintro e w5 ⟨rfl, hE5⟩))
       go_ret
       exact ⟨rfl, hF.trans hE5⟩)
  obtain ⟨l1, l2, l3, l4⟩ : (¬ (100 : Int) < r.2.2.2.2.2.1.size) ∧ (¬ (100 : Int) < r.2.2.2.2.2.2.size) ∧ (¬ (100 : Int) < q.2.2.2.2.2.1.size) ∧ (¬ (100 : Int) < q.2.2.2.2.2.2.size) := by omega
  clear hgt
  go_enter Try.func4, Try.ntmps4
  go_wp2_with (first
    | (with_reducible refine ag_box (o := ⟨some 4, _, _, _, _, _⟩) rfl 23 (.tmp 0) rfl _ 7 rfl rfl (by omega) (rV_one r) w.heap.size (Nat.le_refl _) ?_; intro w0 hB0 hE0 hz0)
    | (with_reducible refine ag_box (o := ⟨some 5, _, _, _, _, _⟩) rfl 23 (.tmp 1) rfl _ 7 rfl rfl (by omega) (rV_one q) w0.heap.size (Nat.le_refl _) ?_; intro w1 hC1 hE1 hz1
       have hx1 := (HC5.out _ _ _ _ (hB0.ext hE1)).1; have hx2 := (HC5.out _ _ _ _ (hB0.ext hE1)).2; have hx3 := (HC5.out _ _ _ _ hC1).1; have hx4 := (HC5.out _ _ _ _ hC1).2)
    | (with_reducible refine ag_load (o := ⟨some 40, _, _, _, _, _⟩) rfl 23 (.tmp 4) rfl w.heap.size 7 w.heap.size 23 _ rfl (hB0.ext hE1) agg_rec info_rec ?_))
  clear hx1 hx2 hx3 hx4 l1 l2 l3 l4
  refine (Y1.out _).mono ?_
  rintro e w2 ⟨A2, c2, rfl, hO2, hE2⟩
  go_wp2_with (with_reducible refine ag_load (o := ⟨some 45, _, _, _, _, _⟩) rfl 23 (.tmp 5) rfl w0.heap.size 7 w0.heap.size 23 _ rfl (hC1.ext hE2) agg_rec info_rec ?_)
  refine (Y2.out _).mono ?_
  rintro e w3 ⟨A3, c3, rfl, hO3, hE3⟩
  have hF3 : Ext w w3 := hE0.trans (hE1.trans (hE2.trans hE3))
  have hB3 := hB0.ext (hE1.trans (hE2.trans hE3))
  have hC3 := hC1.ext (hE2.trans hE3)
  clear Y1 Y2
  by_cases hgood : mayR r = true ∧ mayR q = true
  case neg =>
    rcases HC.out with ⟨⟨m1, rfl, rfl⟩ | ⟨m1, rfl, rfl⟩, ⟨m2, rfl, rfl⟩ | ⟨m2, rfl, rfl⟩⟩
    · exact absurd ⟨m1, m2⟩ hgood
    all_goals
      rw [m1] at M1
      rw [m2] at M2
      clear hgood m1 m2
      go_wp2_with (with_reducible refine ag_load (o := ⟨some 65, _, _, _, _, _⟩) rfl 23 (.tmp 4) rfl w.heap.size 7 w.heap.size 23 _ rfl hB3 agg_rec info_rec ?_)
      refine (M1.out _).mono ?_
      rintro e w4 ⟨rfl, hE4⟩
      go_wp2_with (with_reducible refine ag_load (o := ⟨some 71, _, _, _, _, _⟩) rfl 23 (.tmp 5) rfl w0.heap.size 7 w0.heap.size 23 _ rfl (hC3.ext hE4) agg_rec info_rec ?_)
      refine (M2.out _).mono ?_
      rintro e w5 ⟨rfl, hE5⟩
      go_wp2_with (go_at_call 9; refine (law10_awake _).mono ?_; rintro e w6 ⟨rfl, hE6⟩)
      go_ret
      exact ⟨rfl, hF3.trans (hE4.trans (hE5.trans hE6))⟩
  case pos =>
  obtain ⟨m1, m2⟩ := hgood
  obtain ⟨rfl, rfl⟩ : n1 = 128 ∧ e1 = 0 := by rcases HC.out.1 with ⟨_, b, c⟩ | ⟨a, _⟩; exact ⟨b, c⟩; rw [m1] at a; cases a
  obtain ⟨rfl, rfl⟩ : n2 = 128 ∧ e2 = 0 := by rcases HC.out.2 with ⟨_, b, c⟩ | ⟨a, _⟩; exact ⟨b, c⟩; rw [m2] at a; cases a
  have hR := readR_laid m1
  have hinj : decide (layRL r = layRL q) = decide (r = q) := decide_eq_decide.2 (layRL_inj m1 m2)
  have hkd : kindOf (layRL r) = 82 := by rw [(layRL_good m1).1]; exact kindOf_sealOf (by rw [recB_len m1]; omega) (by omega)
  have hln : (layRL r).length = 128 := (layRL_good m1).2.2
  have hbs : Bytes (layRL r) := Bytes.layRL r
  have hbs2 : Bytes (layRL q) := Bytes.layRL q
  have HK := hide hkd
  have HR := hide hR
  have HI := hide hinj
  have HLN := hide hln
  clear m1 m2 hR hinj hkd hln HC
  have hX3 := hO2.ext hE3
  have hu := Try.underlying23
  have hi1 : (Try.prog.info? 23).map (·.size) = some (rV r).length := info_rec
  have hi2 : (Try.prog.info? 23).map (·.size) = some (rV q).length := info_rec
  have keepS : ∀ w', Ext w3 w' → w'.rangeAt w.heap.size 0 (rV r) ∧ w'.rangeAt w0.heap.size 0 (rV q) := fun w' hE => ⟨(hB3.ext hE).range, (hC3.ext hE).range⟩
  have heq := fun w => eq_rec r q w
  generalize decide (r = q) = bs at heq HI
  clear hB0 hC1 hO2
  go_wp2_with fail
  refine wp_region_held_drew (S := fun w' => w'.rangeAt w.heap.size 0 (rV r) ∧ w'.rangeAt w0.heap.size 0 (rV q)) (by kernel_rfl) (keepS _ (Ext.drew (Ext.refl _))) (fun hHeld => ?_)
  refine held_take 0 rfl (by kernel_rfl) (by kernel_rfl) (by kernel_rfl) (fun _ _ _ _ h => h) (by rfl) ?_ ?_ (by assumption) ?_
  rotate_left
  · (intro wx hSx; (try dsimp only at hSx); go_simp)
    all_goals with_reducible rfl
  (try simp only [Act.put, List.setIfInBounds_toArray, List.set_cons_zero, List.set_cons_succ])
  refine held_take 1 rfl (by kernel_rfl) (by kernel_rfl) (by kernel_rfl) (fun _ _ _ _ h => h) (by rfl) ?_ ?_ (by assumption) ?_
  rotate_left
  · (intro wx hSx; (try dsimp only at hSx); go_simp)
    all_goals with_reducible rfl
  (try simp only [Act.put, List.setIfInBounds_toArray, List.set_cons_zero, List.set_cons_succ])
  refine held_load 3 rfl (by kernel_rfl) (by kernel_rfl) (by kernel_rfl) (fun _ _ _ _ h => h) (by rfl) 23 (.tmp 4) rfl w.heap.size (rV r) _ rfl (fun wx hSx => hSx.1) hu rfl hi1 (by assumption) ?_
  (try simp only [Act.put, List.setIfInBounds_toArray, List.set_cons_zero, List.set_cons_succ])
  refine held_load 4 rfl (by kernel_rfl) (by kernel_rfl) (by kernel_rfl) (fun _ _ _ _ h => h) (by rfl) 23 (.tmp 5) rfl w0.heap.size (rV q) _ rfl (fun wx hSx => hSx.2) hu rfl hi2 (by assumption) ?_
  (try simp only [Act.put, List.setIfInBounds_toArray, List.set_cons_zero, List.set_cons_succ])
  refine held_take 5 rfl (by kernel_rfl) (by kernel_rfl) (by kernel_rfl) (fun _ _ _ _ h => h) (by rfl) ?_ ?_ (by assumption) ?_
  rotate_left
  · (intro wx hSx; (try dsimp only at hSx); go_simp)
    all_goals with_reducible rfl
  (try simp only [Act.put, List.setIfInBounds_toArray, List.set_cons_zero, List.set_cons_succ])
  refine held_call 2 rfl (by kernel_rfl) (fun K hK => ?_)
  go_simp
  go_at_call 15
  refine (SameBytes _ _ _ _ _ _ _ _ _ (hX3.ext (Ext.drew (Ext.refl _))).sl (hO3.ext (Ext.drew (Ext.refl _))).sl hbs hbs2).mono ?_
  rintro e w4 ⟨rfl, j4, hw4⟩
  have hE4 : Ext w3 w4 := by rw [hw4]; exact (Ext.drew (Ext.refl _)).drewN _
  clear hw4
  rw [HI.out]
  go_wp2_with fail
  refine hK.out _ _ (keepS _ hE4) (fun hHeld => ?_)
  clear hK K
  (try simp only [Act.put, List.setIfInBounds_toArray, List.set_cons_zero, List.set_cons_succ])
  refine held_take 6 rfl (by kernel_rfl) (by kernel_rfl) (by kernel_rfl) (fun _ _ _ _ h => h) (by rfl) ?_ ?_ (by assumption) ?_
  rotate_left
  · (intro wx hSx; (try dsimp only at hSx); go_simp)
    all_goals with_reducible rfl
  (try simp only [Act.put, List.setIfInBounds_toArray, List.set_cons_zero, List.set_cons_succ])
  refine held_take 7 rfl (by kernel_rfl) (by kernel_rfl) (by kernel_rfl) (fun _ _ _ _ h => h) (by rfl) ?_ ?_ (by assumption) ?_
  rotate_left
  · (intro wx hSx; (try dsimp only at hSx); go_simp)
    all_goals with_reducible rfl
  (try simp only [Act.put, List.setIfInBounds_toArray, List.set_cons_zero, List.set_cons_succ])
  refine wpAnyH_done (by kernel_rfl) ?_ _
  clear hHeld keepS heq hi1 hi2
  go_wp2_with fail
  refine (Low z _ 128 _ rfl (by omega) (by omega)).mono ?_
  rintro e w5 ⟨rfl, rfl⟩
  have hp := low_lt z (n := 128) (by omega)
  generalize low z 128 = p at *
  have hX4 := hX3.ext hE4
  obtain ⟨g4, rfl, hg4, _⟩ := hX4.head (by have := hX4.sl.nc; omega)
  obtain ⟨_, _, x, hA, hx, hc, hx2⟩ := hX4.sl.at8 hbs (k := p) (by omega)
  simp at hA
  obtain ⟨rfl, rfl⟩ := hA
  simp only [Nat.zero_add] at hc
  have hf := hX4.frozenAt p
  have hst := hX4.store p (.int .u8 ((x8 x y : Nat) : Int)) rfl
  rw [by8_set] at hst
  have hE5 : Ext w (w4.setCell ⟨g4, p, none⟩ (.int .u8 ((x8 x y : Nat) : Int))) := (hF3.trans hE4).setCell (by have := hE0.size; have := hE1.size; simp; omega) _
  have hB5 := (hB3.ext hE4).other (g := g4) (by omega) p (.int .u8 ((x8 x y : Nat) : Int))
  have hbx := bits_x8 x y
  have hset : y = 0 → (layRL r).set p (x8 x y) = layRL r := by
    intro hy0
    rw [(x8_ne hx2 hy).2 hy0]
    apply List.ext_getElem?
    intro i
    rw [List.getElem?_set]
    split
    · rename_i h; subst h
      split
      · exact hx.out.symm
      · rename_i h; rw [List.getElem?_eq_none (by omega)]
    · rfl
  have hflip : y ≠ 0 → kindOf ((layRL r).set p (x8 x y)) = 0 := fun hy0 =>
    kind_flip hbs (by rw [HK.out]; omega) hx.out (x8_lt x y) (fun h => hy0 ((x8_ne hx2 hy).1 h.symm))
  have HS := hide hset
  have HF := hide hflip
  clear hset hflip
  go_wp2_with fail
  generalize hwv : w4.setCell ⟨g4, p, none⟩ (.int .u8 ((x8 x y : Nat) : Int)) = w5 at *
  by_cases hy0 : y = 0
  · rw [HS.out hy0] at hst
    subst hy0
    refine (rec_Read _ _ _ _ _ hst.sl hbs).mono ?_
    rintro e w6 ⟨rfl, hE6⟩
    rw [HR.out.1, HR.out.2]
    go_wp2_with (first
      | (with_reducible refine ag_alloc (o := ⟨some 14, _, _, _, _, _⟩) rfl 23 rfl _ 7 zero_rec rfl (by omega) (rV_one _) w6.heap.size (Nat.le_refl _) ?_; intro w7 hR7 hE7 hz7)
      | (with_reducible refine ag_store (o := ⟨none, _, _, _, _, _⟩) rfl 23 (.tmp 14) (.tmp 98) rfl w6.heap.size 7 w6.heap.size 23 _ (rV r) rfl rfl hR7 rfl (rV_one _) info_rec ?_; intro w8 hR8 hG8
         have hE8 : Ext w6 w8 := hE7.grown hG8 (by simp)
         have hB8 := hB5.ext (hE6.trans hE8)
         have f0 : w8.cell? ⟨w.heap.size, 0, none⟩ = some (.bool r.1) := hB8.cellAt 0 (by omega)
         have g0 := hB8.frozenAt 0
         have hst0 := hB8.store 0 (.bool false) rfl
         have hF9 : Ext w (w8.setCell ⟨w.heap.size, 0, none⟩ (.bool false)) := (hE5.trans (hE6.trans hE8)).setCell (by simp) _
         have hR9 := hR8.other (g := w.heap.size) (by have := (hB5.block w.heap.size rfl).2; have := hE6.size; omega) 0 (.bool false)))
    clear f0 g0
    generalize w8.setCell ⟨w.heap.size, 0, none⟩ (.bool false) = w9 at *
    have hB9 : Own w9 w.heap.size 23 (some ⟨w.heap.size, 0, none⟩) 7 7 (rV (false, r.2)) := hst0
    have HM := hide (fun w => rec_May (false, r.2) w)
    have hq2 := fun w => eq_rec (false, r.2) zR w
    rw [show mayR (false, r.2) = decide ((false, r.2) = zR) from by unfold mayR; simp] at HM
    generalize decide ((false, r.2) = zR) = bz at hq2 HM
    have keepS : ∀ w', Ext w9 w' → w'.rangeAt w.heap.size 0 (rV (false, r.2)) ∧ w'.cell? ⟨w.heap.size, 5, none⟩ = some (.string r.2.2.2.2.2.1) ∧ w'.cell? ⟨w.heap.size, 3, none⟩ = some (.int .i64 r.2.2.2.1) ∧ w'.cell? ⟨w6.heap.size, 5, none⟩ = some (.string r.2.2.2.2.2.1) ∧ w'.cell? ⟨w6.heap.size, 3, none⟩ = some (.int .i64 r.2.2.2.1) :=
      fun w' hE => ⟨(hB9.ext hE).range, (hB9.ext hE).cellAt 5 (by omega), (hB9.ext hE).cellAt 3 (by omega), (hR9.ext hE).cellAt 5 (by omega), (hR9.ext hE).cellAt 3 (by omega)⟩
    have hi1 : (Try.prog.info? 23).map (·.size) = some (rV (false, r.2)).length := info_rec
    refine wp_region_held_drew (S := fun w' => w'.rangeAt w.heap.size 0 (rV (false, r.2)) ∧ w'.cell? ⟨w.heap.size, 5, none⟩ = some (.string r.2.2.2.2.2.1) ∧ w'.cell? ⟨w.heap.size, 3, none⟩ = some (.int .i64 r.2.2.2.1) ∧ w'.cell? ⟨w6.heap.size, 5, none⟩ = some (.string r.2.2.2.2.2.1) ∧ w'.cell? ⟨w6.heap.size, 3, none⟩ = some (.int .i64 r.2.2.2.1)) (by kernel_rfl) (keepS _ (Ext.drew (Ext.refl _))) (fun hHeld => ?_)
    refine held_take 0 rfl (by kernel_rfl) (by kernel_rfl) (by kernel_rfl) (fun _ _ _ _ h => h) (by rfl) ?_ ?_ (by assumption) ?_
    rotate_left
    · (intro wx hSx; (try dsimp only at hSx); go_simp)
      all_goals with_reducible rfl
    (try simp only [Act.put, List.setIfInBounds_toArray, List.set_cons_zero, List.set_cons_succ])
    refine held_take 1 rfl (by kernel_rfl) (by kernel_rfl) (by kernel_rfl) (fun _ _ _ _ h => h) (by rfl) ?_ ?_ (by assumption) ?_
    rotate_left
    · (intro wx hSx; (try dsimp only at hSx); go_simp)
      all_goals with_reducible rfl
    (try simp only [Act.put, List.setIfInBounds_toArray, List.set_cons_zero, List.set_cons_succ])
    refine held_take 2 rfl (by kernel_rfl) (by kernel_rfl) (by kernel_rfl) (fun _ _ _ _ h => h) (by rfl) ?_ ?_ (by assumption) ?_
    rotate_left
    · (intro wx hSx; (try dsimp only at hSx); go_simp)
      all_goals with_reducible rfl
    (try simp only [Act.put, List.setIfInBounds_toArray, List.set_cons_zero, List.set_cons_succ])
    refine held_take 3 rfl (by kernel_rfl) (by kernel_rfl) (by kernel_rfl) (fun _ _ _ _ h => h) (by rfl) ?_ ?_ (by assumption) ?_
    rotate_left
    · (intro wx hSx; (try dsimp only at hSx); go_simp)
      all_goals with_reducible rfl
    (try simp only [Act.put, List.setIfInBounds_toArray, List.set_cons_zero, List.set_cons_succ])
    refine held_take 4 rfl (by kernel_rfl) (by kernel_rfl) (by kernel_rfl) (fun _ _ _ _ h => h) (by rfl) ?_ ?_ (by assumption) ?_
    rotate_left
    · (intro wx hSx; (try dsimp only at hSx); go_simp)
      all_goals with_reducible rfl
    (try simp only [Act.put, List.setIfInBounds_toArray, List.set_cons_zero, List.set_cons_succ])
    refine held_take 5 rfl (by kernel_rfl) (by kernel_rfl) (by kernel_rfl) (fun _ _ _ _ h => h) (by rfl) ?_ ?_ (by assumption) ?_
    rotate_left
    · (intro wx hSx; (try dsimp only at hSx); go_simp)
      all_goals with_reducible rfl
    (try simp only [Act.put, List.setIfInBounds_toArray, List.set_cons_zero, List.set_cons_succ])
    refine held_take 6 rfl (by kernel_rfl) (by kernel_rfl) (by kernel_rfl) (fun _ _ _ _ h => h) (by rfl) ?_ ?_ (by assumption) ?_
    rotate_left
    · (intro wx hSx; (try dsimp only at hSx); go_simp)
      all_goals with_reducible rfl
    (try simp only [Act.put, List.setIfInBounds_toArray, List.set_cons_zero, List.set_cons_succ])
    refine held_take 7 rfl (by kernel_rfl) (by kernel_rfl) (by kernel_rfl) (fun _ _ _ _ h => h) (by rfl) ?_ ?_ (by assumption) ?_
    rotate_left
    · (intro wx hSx; (try dsimp only at hSx); go_simp)
      all_goals with_reducible rfl
    (try simp only [Act.put, List.setIfInBounds_toArray, List.set_cons_zero, List.set_cons_succ])
    refine held_take 8 rfl (by kernel_rfl) (by kernel_rfl) (by kernel_rfl) (fun _ _ _ _ h => h) (by rfl) ?_ ?_ (by assumption) ?_
    rotate_left
    · (intro wx hSx; (try dsimp only at hSx); go_simp)
      all_goals with_reducible rfl
    (try simp only [Act.put, List.setIfInBounds_toArray, List.set_cons_zero, List.set_cons_succ])
    refine held_take 9 rfl (by kernel_rfl) (by kernel_rfl) (by kernel_rfl) (fun _ _ _ _ h => h) (by rfl) ?_ ?_ (by assumption) ?_
    rotate_left
    · (intro wx hSx; (try dsimp only at hSx); go_simp)
      all_goals with_reducible rfl
    (try simp only [Act.put, List.setIfInBounds_toArray, List.set_cons_zero, List.set_cons_succ])
    refine held_take 10 rfl (by kernel_rfl) (by kernel_rfl) (by kernel_rfl) (fun _ _ _ _ h => h) (by rfl) ?_ ?_ (by assumption) ?_
    rotate_left
    · (intro wx hSx; (try dsimp only at hSx); go_simp)
      all_goals with_reducible rfl
    (try simp only [Act.put, List.setIfInBounds_toArray, List.set_cons_zero, List.set_cons_succ])
    refine held_take 11 rfl (by kernel_rfl) (by kernel_rfl) (by kernel_rfl) (fun _ _ _ _ h => h) (by rfl) ?_ ?_ (by assumption) ?_
    rotate_left
    · (intro wx hSx; (try dsimp only at hSx); go_simp)
      all_goals with_reducible rfl
    (try simp only [Act.put, List.setIfInBounds_toArray, List.set_cons_zero, List.set_cons_succ])
    refine held_take 12 rfl (by kernel_rfl) (by kernel_rfl) (by kernel_rfl) (fun _ _ _ _ h => h) (by rfl) ?_ ?_ (by assumption) ?_
    rotate_left
    · (intro wx hSx; (try dsimp only at hSx); go_simp)
      all_goals with_reducible rfl
    (try simp only [Act.put, List.setIfInBounds_toArray, List.set_cons_zero, List.set_cons_succ])
    refine held_take 13 rfl (by kernel_rfl) (by kernel_rfl) (by kernel_rfl) (fun _ _ _ _ h => h) (by rfl) ?_ ?_ (by assumption) ?_
    rotate_left
    · (intro wx hSx; (try dsimp only at hSx); go_simp)
      all_goals with_reducible rfl
    (try simp only [Act.put, List.setIfInBounds_toArray, List.set_cons_zero, List.set_cons_succ])
    refine held_take 14 rfl (by kernel_rfl) (by kernel_rfl) (by kernel_rfl) (fun _ _ _ _ h => h) (by rfl) ?_ ?_ (by assumption) ?_
    rotate_left
    · (intro wx hSx; (try dsimp only at hSx); go_simp)
      all_goals with_reducible rfl
    (try simp only [Act.put, List.setIfInBounds_toArray, List.set_cons_zero, List.set_cons_succ])
    refine held_take 15 rfl (by kernel_rfl) (by kernel_rfl) (by kernel_rfl) (fun _ _ _ _ h => h) (by rfl) ?_ ?_ (by assumption) ?_
    rotate_left
    · (intro wx hSx; (try dsimp only at hSx); go_simp)
      all_goals with_reducible rfl
    (try simp only [Act.put, List.setIfInBounds_toArray, List.set_cons_zero, List.set_cons_succ])
    refine held_take 16 rfl (by kernel_rfl) (by kernel_rfl) (by kernel_rfl) (fun _ _ _ _ h => h) (by rfl) ?_ ?_ (by assumption) ?_
    rotate_left
    · (intro wx hSx; (try dsimp only at hSx); go_simp)
      all_goals with_reducible rfl
    (try simp only [Act.put, List.setIfInBounds_toArray, List.set_cons_zero, List.set_cons_succ])
    refine held_take 17 rfl (by kernel_rfl) (by kernel_rfl) (by kernel_rfl) (fun _ _ _ _ h => h) (by rfl) ?_ ?_ (by assumption) ?_
    rotate_left
    · (intro wx hSx; (try dsimp only at hSx); go_simp)
      all_goals with_reducible rfl
    (try simp only [Act.put, List.setIfInBounds_toArray, List.set_cons_zero, List.set_cons_succ])
    refine held_take 18 rfl (by kernel_rfl) (by kernel_rfl) (by kernel_rfl) (fun _ _ _ _ h => h) (by rfl) ?_ ?_ (by assumption) ?_
    rotate_left
    · (intro wx hSx; (try dsimp only at hSx); go_simp)
      all_goals with_reducible rfl
    (try simp only [Act.put, List.setIfInBounds_toArray, List.set_cons_zero, List.set_cons_succ])
    refine held_take 19 rfl (by kernel_rfl) (by kernel_rfl) (by kernel_rfl) (fun _ _ _ _ h => h) (by rfl) ?_ ?_ (by assumption) ?_
    rotate_left
    · (intro wx hSx; (try dsimp only at hSx); go_simp)
      all_goals with_reducible rfl
    (try simp only [Act.put, List.setIfInBounds_toArray, List.set_cons_zero, List.set_cons_succ])
    refine held_take 20 rfl (by kernel_rfl) (by kernel_rfl) (by kernel_rfl) (fun _ _ _ _ h => h) (by rfl) ?_ ?_ (by assumption) ?_
    rotate_left
    · (intro wx hSx; (try dsimp only at hSx); go_simp)
      all_goals with_reducible rfl
    (try simp only [Act.put, List.setIfInBounds_toArray, List.set_cons_zero, List.set_cons_succ])
    refine held_take 21 rfl (by kernel_rfl) (by kernel_rfl) (by kernel_rfl) (fun _ _ _ _ h => h) (by rfl) ?_ ?_ (by assumption) ?_
    rotate_left
    · (intro wx hSx; (try dsimp only at hSx); go_simp)
      all_goals with_reducible rfl
    (try simp only [Act.put, List.setIfInBounds_toArray, List.set_cons_zero, List.set_cons_succ])
    refine held_take 22 rfl (by kernel_rfl) (by kernel_rfl) (by kernel_rfl) (fun _ _ _ _ h => h) (by rfl) ?_ ?_ (by assumption) ?_
    rotate_left
    · (intro wx hSx; (try dsimp only at hSx); go_simp)
      all_goals with_reducible rfl
    (try simp only [Act.put, List.setIfInBounds_toArray, List.set_cons_zero, List.set_cons_succ])
    refine held_take 23 rfl (by kernel_rfl) (by kernel_rfl) (by kernel_rfl) (fun _ _ _ _ h => h) (by rfl) ?_ ?_ (by assumption) ?_
    rotate_left
    · (intro wx hSx; (try dsimp only at hSx); go_simp)
      all_goals with_reducible rfl
    (try simp only [Act.put, List.setIfInBounds_toArray, List.set_cons_zero, List.set_cons_succ])
    refine held_take 24 rfl (by kernel_rfl) (by kernel_rfl) (by kernel_rfl) (fun _ _ _ _ h => h) (by rfl) ?_ ?_ (by assumption) ?_
    rotate_left
    · (intro wx hSx; (try dsimp only at hSx); go_simp)
      all_goals with_reducible rfl
    (try simp only [Act.put, List.setIfInBounds_toArray, List.set_cons_zero, List.set_cons_succ])
    refine held_take 25 rfl (by kernel_rfl) (by kernel_rfl) (by kernel_rfl) (fun _ _ _ _ h => h) (by rfl) ?_ ?_ (by assumption) ?_
    rotate_left
    · (intro wx hSx; (try dsimp only at hSx); go_simp)
      all_goals with_reducible rfl
    (try simp only [Act.put, List.setIfInBounds_toArray, List.set_cons_zero, List.set_cons_succ])
    refine held_take 26 rfl (by kernel_rfl) (by kernel_rfl) (by kernel_rfl) (fun _ _ _ _ h => h) (by rfl) ?_ ?_ (by assumption) ?_
    rotate_left
    · (intro wx hSx; (try dsimp only at hSx); go_simp)
      all_goals with_reducible rfl
    (try simp only [Act.put, List.setIfInBounds_toArray, List.set_cons_zero, List.set_cons_succ])
    refine held_load 27 rfl (by kernel_rfl) (by kernel_rfl) (by kernel_rfl) (fun _ _ _ _ h => h) (by rfl) 23 (.tmp 4) rfl w.heap.size (rV (false, r.2)) _ rfl (fun wx hSx => hSx.1) hu rfl hi1 (by assumption) ?_
    (try simp only [Act.put, List.setIfInBounds_toArray, List.set_cons_zero, List.set_cons_succ])
    refine held_load 29 rfl (by kernel_rfl) (by kernel_rfl) (by kernel_rfl) (fun _ _ _ _ h => h) (by rfl) 23 (.tmp 4) rfl w.heap.size (rV (false, r.2)) _ rfl (fun wx hSx => hSx.1) hu rfl hi1 (by assumption) ?_
    (try simp only [Act.put, List.setIfInBounds_toArray, List.set_cons_zero, List.set_cons_succ])
    refine held_take 30 rfl (by kernel_rfl) (by kernel_rfl) (by kernel_rfl) (fun _ _ _ _ h => h) (by rfl) (.agg (rV zR).toArray) (fun wx _ => held_bld rfl bld_rec wx) (by assumption) ?_
    (try simp only [Act.put, List.setIfInBounds_toArray, List.set_cons_zero, List.set_cons_succ])
    refine held_take 31 rfl (by kernel_rfl) (by kernel_rfl) (by kernel_rfl) (fun _ _ _ _ h => h) (by rfl) ?_ ?_ (by assumption) ?_
    rotate_left
    · (intro wx hSx; (try dsimp only at hSx); go_simp)
      all_goals with_reducible rfl
    (try simp only [Act.put, List.setIfInBounds_toArray, List.set_cons_zero, List.set_cons_succ])
    refine held_call 28 rfl (by kernel_rfl) (fun K hK => ?_)
    go_simp
    go_at_call 16
    refine (HM.out _).mono ?_
    rintro e w10 ⟨rfl, hE10⟩
    replace hE10 : Ext w9 w10 := (Ext.drew (Ext.refl _)).trans hE10
    go_wp2_with fail
    refine hK.out _ _ (keepS _ hE10) (fun hHeld => ?_)
    clear hK K
    (try simp only [Act.put, List.setIfInBounds_toArray, List.set_cons_zero, List.set_cons_succ])
    refine held_take 32 rfl (by kernel_rfl) (by kernel_rfl) (by kernel_rfl) (fun _ _ _ _ h => h) (by rfl) ?_ ?_ (by assumption) ?_
    rotate_left
    · (intro wx hSx; (try dsimp only at hSx); go_simp)
      all_goals with_reducible rfl
    (try simp only [Act.put, List.setIfInBounds_toArray, List.set_cons_zero, List.set_cons_succ])
    refine held_take 33 rfl (by kernel_rfl) (by kernel_rfl) (by kernel_rfl) (fun _ _ _ _ h => h) (by rfl) ?_ ?_ (by assumption) ?_
    rotate_left
    · (intro wx hSx; (try dsimp only at hSx); go_simp)
      all_goals with_reducible rfl
    (try simp only [Act.put, List.setIfInBounds_toArray, List.set_cons_zero, List.set_cons_succ])
    refine held_take 34 rfl (by kernel_rfl) (by kernel_rfl) (by kernel_rfl) (fun _ _ _ _ h => h) (by rfl) ?_ ?_ (by assumption) ?_
    rotate_left
    · (intro wx hSx; (try dsimp only at hSx); go_simp)
      all_goals with_reducible rfl
    (try simp only [Act.put, List.setIfInBounds_toArray, List.set_cons_zero, List.set_cons_succ])
    refine held_call 35 rfl (by kernel_rfl) (fun K hK => ?_)
    go_simp
    go_at_call 9
    refine (law10_awake _).mono ?_
    rintro e w11 ⟨rfl, hE11⟩
    go_wp2_with fail
    refine hK.out _ _ (keepS _ (hE10.trans hE11)) (fun hHeld => ?_)
    clear hK K
    (try simp only [Act.put, List.setIfInBounds_toArray, List.set_cons_zero, List.set_cons_succ])
    refine held_take 36 rfl (by kernel_rfl) (by kernel_rfl) (by kernel_rfl) (fun _ _ _ _ h => h) (by rfl) ?_ ?_ (by assumption) ?_
    rotate_left
    · (intro wx hSx; (try dsimp only at hSx); go_simp)
      all_goals with_reducible rfl
    (try simp only [Act.put, List.setIfInBounds_toArray, List.set_cons_zero, List.set_cons_succ])
    refine held_take 37 rfl (by kernel_rfl) (by kernel_rfl) (by kernel_rfl) (fun _ _ _ _ h => h) (by rfl) ?_ ?_ (by assumption) ?_
    rotate_left
    · (intro wx hSx; (try dsimp only at hSx); go_simp)
      all_goals with_reducible rfl
    (try simp only [Act.put, List.setIfInBounds_toArray, List.set_cons_zero, List.set_cons_succ])
    refine wpAnyH_done (by kernel_rfl) ?_ _
    clear hHeld
    go_wp2
    go_ret
    exact ⟨rfl, hF9.trans (hE10.trans hE11)⟩
  · have hyI : ((y : Int) == 0) = false := by simp; omega
    have hno : kindOf ((layRL r).set p (x8 x y)) ≠ 82 := by rw [HF.out hy0]; omega
    obtain ⟨r1, r2⟩ := readR_no hno
    clear hno
    refine (rec_Read _ _ _ _ _ hst.sl (hbs.set _ (x8_lt x y))).mono ?_
    rintro e w6 ⟨rfl, hE6⟩
    rw [r1, r2]
    clear r1 r2
    go_wp2_with (first
      | (with_reducible refine ag_alloc (o := ⟨some 14, _, _, _, _, _⟩) rfl 23 rfl _ 7 zero_rec rfl (by omega) (rV_one _) w6.heap.size (Nat.le_refl _) ?_; intro w7 hR7 hE7 hz7)
      | (with_reducible refine ag_store (o := ⟨none, _, _, _, _, _⟩) rfl 23 (.tmp 14) (.tmp 98) rfl w6.heap.size 7 w6.heap.size 23 _ (rV zR) rfl rfl hR7 rfl (rV_one _) info_rec ?_; intro w8 hR8 hG8
         have hE8 : Ext w6 w8 := hE7.grown hG8 (by simp)
         have hB8 := hB5.ext (hE6.trans hE8)
         have f0 : w8.cell? ⟨w.heap.size, 0, none⟩ = some (.bool r.1) := hB8.cellAt 0 (by omega)
         have g0 := hB8.frozenAt 0
         have hst0 := hB8.store 0 (.bool false) rfl
         have hF9 : Ext w (w8.setCell ⟨w.heap.size, 0, none⟩ (.bool false)) := (hE5.trans (hE6.trans hE8)).setCell (by simp) _
         have hR9 := hR8.other (g := w.heap.size) (by have := (hB5.block w.heap.size rfl).2; have := hE6.size; omega) 0 (.bool false)))
    clear f0 g0
    generalize w8.setCell ⟨w.heap.size, 0, none⟩ (.bool false) = w9 at *
    have hB9 : Own w9 w.heap.size 23 (some ⟨w.heap.size, 0, none⟩) 7 7 (rV (false, r.2)) := hst0
    have HM := hide (fun w => rec_May (false, r.2) w)
    have hq2 := fun w => eq_rec (false, r.2) zR w
    rw [show mayR (false, r.2) = decide ((false, r.2) = zR) from by unfold mayR; simp] at HM
    generalize decide ((false, r.2) = zR) = bz at hq2 HM
    have keepS : ∀ w', Ext w9 w' → w'.rangeAt w.heap.size 0 (rV (false, r.2)) ∧ w'.cell? ⟨w.heap.size, 5, none⟩ = some (.string r.2.2.2.2.2.1) ∧ w'.cell? ⟨w.heap.size, 3, none⟩ = some (.int .i64 r.2.2.2.1) ∧ w'.cell? ⟨w6.heap.size, 5, none⟩ = some (.string zR.2.2.2.2.2.1) ∧ w'.cell? ⟨w6.heap.size, 3, none⟩ = some (.int .i64 zR.2.2.2.1) :=
      fun w' hE => ⟨(hB9.ext hE).range, (hB9.ext hE).cellAt 5 (by omega), (hB9.ext hE).cellAt 3 (by omega), (hR9.ext hE).cellAt 5 (by omega), (hR9.ext hE).cellAt 3 (by omega)⟩
    have hi1 : (Try.prog.info? 23).map (·.size) = some (rV (false, r.2)).length := info_rec
    refine wp_region_held_drew (S := fun w' => w'.rangeAt w.heap.size 0 (rV (false, r.2)) ∧ w'.cell? ⟨w.heap.size, 5, none⟩ = some (.string r.2.2.2.2.2.1) ∧ w'.cell? ⟨w.heap.size, 3, none⟩ = some (.int .i64 r.2.2.2.1) ∧ w'.cell? ⟨w6.heap.size, 5, none⟩ = some (.string zR.2.2.2.2.2.1) ∧ w'.cell? ⟨w6.heap.size, 3, none⟩ = some (.int .i64 zR.2.2.2.1)) (by kernel_rfl) (keepS _ (Ext.drew (Ext.refl _))) (fun hHeld => ?_)
    refine held_take 0 rfl (by kernel_rfl) (by kernel_rfl) (by kernel_rfl) (fun _ _ _ _ h => h) (by rfl) ?_ ?_ (by assumption) ?_
    rotate_left
    · (intro wx hSx; (try dsimp only at hSx); go_simp)
      all_goals with_reducible rfl
    (try simp only [Act.put, List.setIfInBounds_toArray, List.set_cons_zero, List.set_cons_succ])
    refine held_take 1 rfl (by kernel_rfl) (by kernel_rfl) (by kernel_rfl) (fun _ _ _ _ h => h) (by rfl) ?_ ?_ (by assumption) ?_
    rotate_left
    · (intro wx hSx; (try dsimp only at hSx); go_simp)
      all_goals with_reducible rfl
    (try simp only [Act.put, List.setIfInBounds_toArray, List.set_cons_zero, List.set_cons_succ])
    refine held_take 2 rfl (by kernel_rfl) (by kernel_rfl) (by kernel_rfl) (fun _ _ _ _ h => h) (by rfl) ?_ ?_ (by assumption) ?_
    rotate_left
    · (intro wx hSx; (try dsimp only at hSx); go_simp)
      all_goals with_reducible rfl
    (try simp only [Act.put, List.setIfInBounds_toArray, List.set_cons_zero, List.set_cons_succ])
    refine held_take 3 rfl (by kernel_rfl) (by kernel_rfl) (by kernel_rfl) (fun _ _ _ _ h => h) (by rfl) ?_ ?_ (by assumption) ?_
    rotate_left
    · (intro wx hSx; (try dsimp only at hSx); go_simp)
      all_goals with_reducible rfl
    (try simp only [Act.put, List.setIfInBounds_toArray, List.set_cons_zero, List.set_cons_succ])
    refine held_take 4 rfl (by kernel_rfl) (by kernel_rfl) (by kernel_rfl) (fun _ _ _ _ h => h) (by rfl) ?_ ?_ (by assumption) ?_
    rotate_left
    · (intro wx hSx; (try dsimp only at hSx); go_simp)
      all_goals with_reducible rfl
    (try simp only [Act.put, List.setIfInBounds_toArray, List.set_cons_zero, List.set_cons_succ])
    refine held_take 5 rfl (by kernel_rfl) (by kernel_rfl) (by kernel_rfl) (fun _ _ _ _ h => h) (by rfl) ?_ ?_ (by assumption) ?_
    rotate_left
    · (intro wx hSx; (try dsimp only at hSx); go_simp)
      all_goals with_reducible rfl
    (try simp only [Act.put, List.setIfInBounds_toArray, List.set_cons_zero, List.set_cons_succ])
    refine held_take 6 rfl (by kernel_rfl) (by kernel_rfl) (by kernel_rfl) (fun _ _ _ _ h => h) (by rfl) ?_ ?_ (by assumption) ?_
    rotate_left
    · (intro wx hSx; (try dsimp only at hSx); go_simp)
      all_goals with_reducible rfl
    (try simp only [Act.put, List.setIfInBounds_toArray, List.set_cons_zero, List.set_cons_succ])
    refine held_take 7 rfl (by kernel_rfl) (by kernel_rfl) (by kernel_rfl) (fun _ _ _ _ h => h) (by rfl) ?_ ?_ (by assumption) ?_
    rotate_left
    · (intro wx hSx; (try dsimp only at hSx); go_simp)
      all_goals with_reducible rfl
    (try simp only [Act.put, List.setIfInBounds_toArray, List.set_cons_zero, List.set_cons_succ])
    refine held_take 8 rfl (by kernel_rfl) (by kernel_rfl) (by kernel_rfl) (fun _ _ _ _ h => h) (by rfl) ?_ ?_ (by assumption) ?_
    rotate_left
    · (intro wx hSx; (try dsimp only at hSx); go_simp)
      all_goals with_reducible rfl
    (try simp only [Act.put, List.setIfInBounds_toArray, List.set_cons_zero, List.set_cons_succ])
    refine held_take 9 rfl (by kernel_rfl) (by kernel_rfl) (by kernel_rfl) (fun _ _ _ _ h => h) (by rfl) ?_ ?_ (by assumption) ?_
    rotate_left
    · (intro wx hSx; (try dsimp only at hSx); go_simp)
      all_goals with_reducible rfl
    (try simp only [Act.put, List.setIfInBounds_toArray, List.set_cons_zero, List.set_cons_succ])
    refine held_take 10 rfl (by kernel_rfl) (by kernel_rfl) (by kernel_rfl) (fun _ _ _ _ h => h) (by rfl) ?_ ?_ (by assumption) ?_
    rotate_left
    · (intro wx hSx; (try dsimp only at hSx); go_simp)
      all_goals with_reducible rfl
    (try simp only [Act.put, List.setIfInBounds_toArray, List.set_cons_zero, List.set_cons_succ])
    refine held_take 11 rfl (by kernel_rfl) (by kernel_rfl) (by kernel_rfl) (fun _ _ _ _ h => h) (by rfl) ?_ ?_ (by assumption) ?_
    rotate_left
    · (intro wx hSx; (try dsimp only at hSx); go_simp)
      all_goals with_reducible rfl
    (try simp only [Act.put, List.setIfInBounds_toArray, List.set_cons_zero, List.set_cons_succ])
    refine held_skip 12 rfl (by kernel_rfl) (by kernel_rfl) (by kernel_rfl) (fun _ _ _ _ h => h) (by rfl) (by assumption) ?_
    (try simp only [Act.put, List.setIfInBounds_toArray, List.set_cons_zero, List.set_cons_succ])
    refine held_skip 13 rfl (by kernel_rfl) (by kernel_rfl) (by kernel_rfl) (fun _ _ _ _ h => h) (by rfl) (by assumption) ?_
    (try simp only [Act.put, List.setIfInBounds_toArray, List.set_cons_zero, List.set_cons_succ])
    refine held_skip 14 rfl (by kernel_rfl) (by kernel_rfl) (by kernel_rfl) (fun _ _ _ _ h => h) (by rfl) (by assumption) ?_
    (try simp only [Act.put, List.setIfInBounds_toArray, List.set_cons_zero, List.set_cons_succ])
    refine held_skip 15 rfl (by kernel_rfl) (by kernel_rfl) (by kernel_rfl) (fun _ _ _ _ h => h) (by rfl) (by assumption) ?_
    (try simp only [Act.put, List.setIfInBounds_toArray, List.set_cons_zero, List.set_cons_succ])
    refine held_skip 16 rfl (by kernel_rfl) (by kernel_rfl) (by kernel_rfl) (fun _ _ _ _ h => h) (by rfl) (by assumption) ?_
    (try simp only [Act.put, List.setIfInBounds_toArray, List.set_cons_zero, List.set_cons_succ])
    refine held_skip 17 rfl (by kernel_rfl) (by kernel_rfl) (by kernel_rfl) (fun _ _ _ _ h => h) (by rfl) (by assumption) ?_
    (try simp only [Act.put, List.setIfInBounds_toArray, List.set_cons_zero, List.set_cons_succ])
    refine held_skip 18 rfl (by kernel_rfl) (by kernel_rfl) (by kernel_rfl) (fun _ _ _ _ h => h) (by rfl) (by assumption) ?_
    (try simp only [Act.put, List.setIfInBounds_toArray, List.set_cons_zero, List.set_cons_succ])
    refine held_skip 19 rfl (by kernel_rfl) (by kernel_rfl) (by kernel_rfl) (fun _ _ _ _ h => h) (by rfl) (by assumption) ?_
    (try simp only [Act.put, List.setIfInBounds_toArray, List.set_cons_zero, List.set_cons_succ])
    refine held_skip 20 rfl (by kernel_rfl) (by kernel_rfl) (by kernel_rfl) (fun _ _ _ _ h => h) (by rfl) (by assumption) ?_
    (try simp only [Act.put, List.setIfInBounds_toArray, List.set_cons_zero, List.set_cons_succ])
    refine held_skip 21 rfl (by kernel_rfl) (by kernel_rfl) (by kernel_rfl) (fun _ _ _ _ h => h) (by rfl) (by assumption) ?_
    (try simp only [Act.put, List.setIfInBounds_toArray, List.set_cons_zero, List.set_cons_succ])
    refine held_skip 22 rfl (by kernel_rfl) (by kernel_rfl) (by kernel_rfl) (fun _ _ _ _ h => h) (by rfl) (by assumption) ?_
    (try simp only [Act.put, List.setIfInBounds_toArray, List.set_cons_zero, List.set_cons_succ])
    refine held_skip 23 rfl (by kernel_rfl) (by kernel_rfl) (by kernel_rfl) (fun _ _ _ _ h => h) (by rfl) (by assumption) ?_
    (try simp only [Act.put, List.setIfInBounds_toArray, List.set_cons_zero, List.set_cons_succ])
    refine held_take 24 rfl (by kernel_rfl) (by kernel_rfl) (by kernel_rfl) (fun _ _ _ _ h => h) (by rfl) ?_ ?_ (by assumption) ?_
    rotate_left
    · (intro wx hSx; (try dsimp only at hSx); go_simp)
      all_goals with_reducible rfl
    (try simp only [Act.put, List.setIfInBounds_toArray, List.set_cons_zero, List.set_cons_succ])
    refine held_take 25 rfl (by kernel_rfl) (by kernel_rfl) (by kernel_rfl) (fun _ _ _ _ h => h) (by rfl) ?_ ?_ (by assumption) ?_
    rotate_left
    · (intro wx hSx; (try dsimp only at hSx); go_simp)
      all_goals with_reducible rfl
    (try simp only [Act.put, List.setIfInBounds_toArray, List.set_cons_zero, List.set_cons_succ])
    refine held_take 26 rfl (by kernel_rfl) (by kernel_rfl) (by kernel_rfl) (fun _ _ _ _ h => h) (by rfl) ?_ ?_ (by assumption) ?_
    rotate_left
    · (intro wx hSx; (try dsimp only at hSx); go_simp)
      all_goals with_reducible rfl
    (try simp only [Act.put, List.setIfInBounds_toArray, List.set_cons_zero, List.set_cons_succ])
    refine held_load 27 rfl (by kernel_rfl) (by kernel_rfl) (by kernel_rfl) (fun _ _ _ _ h => h) (by rfl) 23 (.tmp 4) rfl w.heap.size (rV (false, r.2)) _ rfl (fun wx hSx => hSx.1) hu rfl hi1 (by assumption) ?_
    (try simp only [Act.put, List.setIfInBounds_toArray, List.set_cons_zero, List.set_cons_succ])
    refine held_load 29 rfl (by kernel_rfl) (by kernel_rfl) (by kernel_rfl) (fun _ _ _ _ h => h) (by rfl) 23 (.tmp 4) rfl w.heap.size (rV (false, r.2)) _ rfl (fun wx hSx => hSx.1) hu rfl hi1 (by assumption) ?_
    (try simp only [Act.put, List.setIfInBounds_toArray, List.set_cons_zero, List.set_cons_succ])
    refine held_take 30 rfl (by kernel_rfl) (by kernel_rfl) (by kernel_rfl) (fun _ _ _ _ h => h) (by rfl) (.agg (rV zR).toArray) (fun wx _ => held_bld rfl bld_rec wx) (by assumption) ?_
    (try simp only [Act.put, List.setIfInBounds_toArray, List.set_cons_zero, List.set_cons_succ])
    refine held_take 31 rfl (by kernel_rfl) (by kernel_rfl) (by kernel_rfl) (fun _ _ _ _ h => h) (by rfl) ?_ ?_ (by assumption) ?_
    rotate_left
    · (intro wx hSx; (try dsimp only at hSx); go_simp)
      all_goals with_reducible rfl
    (try simp only [Act.put, List.setIfInBounds_toArray, List.set_cons_zero, List.set_cons_succ])
    refine held_call 28 rfl (by kernel_rfl) (fun K hK => ?_)
    go_simp
    go_at_call 16
    refine (HM.out _).mono ?_
    rintro e w10 ⟨rfl, hE10⟩
    replace hE10 : Ext w9 w10 := (Ext.drew (Ext.refl _)).trans hE10
    go_wp2_with fail
    refine hK.out _ _ (keepS _ hE10) (fun hHeld => ?_)
    clear hK K
    (try simp only [Act.put, List.setIfInBounds_toArray, List.set_cons_zero, List.set_cons_succ])
    refine held_take 32 rfl (by kernel_rfl) (by kernel_rfl) (by kernel_rfl) (fun _ _ _ _ h => h) (by rfl) ?_ ?_ (by assumption) ?_
    rotate_left
    · (intro wx hSx; (try dsimp only at hSx); go_simp)
      all_goals with_reducible rfl
    (try simp only [Act.put, List.setIfInBounds_toArray, List.set_cons_zero, List.set_cons_succ])
    refine held_take 33 rfl (by kernel_rfl) (by kernel_rfl) (by kernel_rfl) (fun _ _ _ _ h => h) (by rfl) ?_ ?_ (by assumption) ?_
    rotate_left
    · (intro wx hSx; (try dsimp only at hSx); go_simp)
      all_goals with_reducible rfl
    (try simp only [Act.put, List.setIfInBounds_toArray, List.set_cons_zero, List.set_cons_succ])
    refine held_take 34 rfl (by kernel_rfl) (by kernel_rfl) (by kernel_rfl) (fun _ _ _ _ h => h) (by rfl) ?_ ?_ (by assumption) ?_
    rotate_left
    · (intro wx hSx; (try dsimp only at hSx); go_simp)
      all_goals with_reducible rfl
    (try simp only [Act.put, List.setIfInBounds_toArray, List.set_cons_zero, List.set_cons_succ])
    refine held_call 35 rfl (by kernel_rfl) (fun K hK => ?_)
    go_simp
    go_at_call 9
    refine (law10_awake _).mono ?_
    rintro e w11 ⟨rfl, hE11⟩
    go_wp2_with fail
    refine hK.out _ _ (keepS _ (hE10.trans hE11)) (fun hHeld => ?_)
    clear hK K
    (try simp only [Act.put, List.setIfInBounds_toArray, List.set_cons_zero, List.set_cons_succ])
    refine held_take 36 rfl (by kernel_rfl) (by kernel_rfl) (by kernel_rfl) (fun _ _ _ _ h => h) (by rfl) ?_ ?_ (by assumption) ?_
    rotate_left
    · (intro wx hSx; (try dsimp only at hSx); go_simp)
      all_goals with_reducible rfl
    (try simp only [Act.put, List.setIfInBounds_toArray, List.set_cons_zero, List.set_cons_succ])
    refine held_take 37 rfl (by kernel_rfl) (by kernel_rfl) (by kernel_rfl) (fun _ _ _ _ h => h) (by rfl) ?_ ?_ (by assumption) ?_
    rotate_left
    · (intro wx hSx; (try dsimp only at hSx); go_simp)
      all_goals with_reducible rfl
    (try simp only [Act.put, List.setIfInBounds_toArray, List.set_cons_zero, List.set_cons_succ])
    refine wpAnyH_done (by kernel_rfl) ?_ _
    clear hHeld
    go_wp2
    go_ret
    exact ⟨rfl, hF9.trans (hE10.trans hE11)⟩
end Go.Proofs.Ytngffmchjjpfbaa
