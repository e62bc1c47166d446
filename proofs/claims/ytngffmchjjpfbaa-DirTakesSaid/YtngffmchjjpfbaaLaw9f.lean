/- The statements on directories: a slot that is freed. -/
import Derived.Test.YtngffmchjjpfbaaLaw9e
import Derived.Test.YtngffmchjjpfbaaInts
import Derived.Deep.RegionHeld3
import Derived.Deep.DeepCutAuto
namespace Go.Proofs.Ytngffmchjjpfbaa
set_option linter.unusedVariables false
open Go.RowKit

theorem step_conv {P : Program} {w : World} {ops : Array Oper} {o : Oper} {a : Act} {K : Act → World → Prop} {Q : Exit → Act → World → Prop} {E : Prop} (hgd : o.guard = none) (s d : TypeId) (x : Operand) (ho : o.op = .convert s d x)
    (v : Value) (hrun : (convert s d (a.eval x)).run P w = .ok v w) (h : K (a.put o.dst v) w) : if Region.wanted o (yielded ops a.tmps) = true then Oper.wp P o a w K Q else E := by
  rw [if_pos (by simp [Region.wanted, hgd])]
  unfold Oper.wp
  simp only [execOp, ho]
  rw [Sem.run_bind, hrun]
  exact h
theorem wf_i64 {zs : List Int} {k : Nat} {x : Int} (h : zs[k]? = some x) : zs.getD k 0 = x := by rw [List.getD_eq_getElem?_getD, h]; rfl
set_option maxRecDepth 100000 in
set_option maxHeartbeats 4000000 in
theorem law_DirTakes (w : World) (A : Option Addr) (n c : Nat) (zs : List Int) (h : Sl w A n c (zs.map (Value.int .i64))) (_hw : ∀ x ∈ zs, (Lit.int .i64 x).wf = true) (z : Int) (_z1 : -9223372036854775808 ≤ z) (_z2 : z ≤ 9223372036854775807) :
    Calls Try.prog 8 #[.slice A n c, .int .i64 z] w fun e w' => e = .returned (.bool true) ∧ Ext w w' := by
  have hS : Sl w A n c (i64s zs) := h
  have hm : n ≤ 9223372036854775807 := Nat.le_trans h.nc h.cm
  clear h _hw _z1 _z2
  go_enter Try.func8, Try.ntmps8
  go_wp2_with (with_reducible refine ag_alloc (o := ⟨some 5, _, _, _, _, _⟩) rfl 40 rfl _ 12 zero_slots rfl (by omega) (LV_one zL) w.heap.size (Nat.le_refl _) ?_; intro w1 hR1 hE1 hz1)
  go_loopw [6] (fun j wr => ∃ k : Nat, k ≤ min 4 n ∧ j = .int .i64 k ∧ Own wr w.heap.size 40 (some ⟨w.heap.size, 0, none⟩) 12 12 (LV (tL zs k)) ∧ Ext w wr) (fun j _ => 4 - (intOf j).toNat)
  case atStart => exact ⟨0, by omega, rfl, by rw [tL_zero]; exact hR1, hE1⟩
  case round =>
    clear hR1 hE1 hz1
    obtain ⟨k, hk, rfl, hP, hE⟩ := hrel
    by_cases hlt : k < 4 ∧ k < n
    · obtain ⟨hk4, hkn⟩ := hlt
      have hi4 : (k : Int) < 4 := by omega
      have hin : (k : Int) < (n : Int) := by omega
      obtain ⟨gA, oA, x, rfl, hx, hc0⟩ := hS.atI hkn
      have hgA := World.block_lt_of_cell? w _ hc0
      have HX := hide (show mkS (zs.getD k 0) k = (1 + ((low x 60000 : Nat) : Int), 1 + ((low x 3 : Nat) : Int), strN [97 + k, 97 + low x 26]) by rw [wf_i64 hx.out]; rfl)
      have L1 := hide (fun w => Low x 60000 60000 w rfl (by omega) (by omega))
      have L2 := hide (fun w => Low x 3 3 w rfl (by omega) (by omega))
      have L3 := hide (fun w => Low x 26 26 w rfl (by omega) (by omega))
      have b1 := low_lt x (n := 60000) (by omega)
      have b2 := low_lt x (n := 3) (by omega)
      have b3 := low_lt x (n := 26) (by omega)
      generalize low x 60000 = l1 at *
      generalize low x 3 = l2 at *
      generalize low x 26 = l3 at *
      have e1 : IntKind.i64.wrap (1 + (l1 : Int)) = 1 + (l1 : Int) := IntWalk.i64_in _ (by omega)
      have e2 : IntKind.i64.wrap (1 + (l2 : Int)) = 1 + (l2 : Int) := IntWalk.i64_in _ (by omega)
      have e3 : IntKind.i64.wrap (97 + (k : Int)) = 97 + (k : Int) := IntWalk.i64_in _ (by omega)
      have e4 : IntKind.i64.wrap (97 + (l3 : Int)) = 97 + (l3 : Int) := IntWalk.i64_in _ (by omega)
      have e5 : IntKind.u8.wrap (97 + (k : Int)) = 97 + (k : Int) := by rw [u8_of]; omega
      have e6 : IntKind.u8.wrap (97 + (l3 : Int)) = 97 + (l3 : Int) := by rw [u8_of]; omega
      go_upto_region 5 with fail
      refine wp_region_held_drew (S := fun w' => w'.cell? ⟨gA, oA + k, none⟩ = some (.int .i64 x)) (by kernel_rfl) (hE.drew.cell hc0) (fun hHeld => ?_)
      refine held_take 0 rfl (by kernel_rfl) (by kernel_rfl) (by kernel_rfl) (fun _ _ _ _ h => h) (by rfl) ?_ ?_ (by assumption) ?_
      rotate_left
      · (intro wx hSx; (try dsimp only at hSx); go_simp)
        all_goals with_reducible rfl
      (try simp only [Act.put, List.setIfInBounds_toArray, List.set_cons_zero, List.set_cons_succ])
      refine held_take 1 rfl (by kernel_rfl) (by kernel_rfl) (by kernel_rfl) (fun _ _ _ _ h => h) (by rfl) ?_ ?_ (by assumption) ?_
      rotate_left
      · (intro wx hSx; (try dsimp only at hSx); go_simp)
        all_goals with_reducible rfl
      (try simp only [Act.put, List.setIfInBounds_toArray, List.set_cons_zero, List.set_cons_succ])
      refine held_take 2 rfl (by kernel_rfl) (by kernel_rfl) (by kernel_rfl) (fun _ _ _ _ h => h) (by rfl) ?_ ?_ (by assumption) ?_
      rotate_left
      · (intro wx hSx; (try dsimp only at hSx); go_simp)
        all_goals with_reducible rfl
      (try simp only [Act.put, List.setIfInBounds_toArray, List.set_cons_zero, List.set_cons_succ])
      refine held_take 3 rfl (by kernel_rfl) (by kernel_rfl) (by kernel_rfl) (fun _ _ _ _ h => h) (by rfl) ?_ ?_ (by assumption) ?_
      rotate_left
      · (intro wx hSx; (try dsimp only at hSx); go_simp)
        all_goals with_reducible rfl
      (try simp only [Act.put, List.setIfInBounds_toArray, List.set_cons_zero, List.set_cons_succ])
      refine held_take 4 rfl (by kernel_rfl) (by kernel_rfl) (by kernel_rfl) (fun _ _ _ _ h => h) (by rfl) ?_ ?_ (by assumption) ?_
      rotate_left
      · (intro wx hSx; (try dsimp only at hSx); go_simp)
        all_goals with_reducible rfl
      (try simp only [Act.put, List.setIfInBounds_toArray, List.set_cons_zero, List.set_cons_succ])
      refine held_take 7 rfl (by kernel_rfl) (by kernel_rfl) (by kernel_rfl) (fun _ _ _ _ h => h) (by rfl) ?_ ?_ (by assumption) ?_
      rotate_left
      · (intro wx hSx; (try dsimp only at hSx); go_simp)
        all_goals with_reducible rfl
      (try simp only [Act.put, List.setIfInBounds_toArray, List.set_cons_zero, List.set_cons_succ])
      refine held_take 8 rfl (by kernel_rfl) (by kernel_rfl) (by kernel_rfl) (fun _ _ _ _ h => h) (by rfl) ?_ ?_ (by assumption) ?_
      rotate_left
      · (intro wx hSx; (try dsimp only at hSx); go_simp)
        all_goals with_reducible rfl
      (try simp only [Act.put, List.setIfInBounds_toArray, List.set_cons_zero, List.set_cons_succ])
      refine held_take 9 rfl (by kernel_rfl) (by kernel_rfl) (by kernel_rfl) (fun _ _ _ _ h => h) (by rfl) ?_ ?_ (by assumption) ?_
      rotate_left
      · (intro wx hSx; (try dsimp only at hSx); go_simp)
        all_goals with_reducible rfl
      (try simp only [Act.put, List.setIfInBounds_toArray, List.set_cons_zero, List.set_cons_succ])
      refine held_take 10 rfl (by kernel_rfl) (by kernel_rfl) (by kernel_rfl) (fun _ _ _ _ h => h) (by rfl) ?_ ?_ (by assumption) ?_
      rotate_left
      · (intro wx hSx; (try dsimp only at hSx); go_simp)
        all_goals with_reducible rfl
      (try simp only [Act.put, List.setIfInBounds_toArray, List.set_cons_zero, List.set_cons_succ])
      refine held_take 13 rfl (by kernel_rfl) (by kernel_rfl) (by kernel_rfl) (fun _ _ _ _ h => h) (by rfl) ?_ ?_ (by assumption) ?_
      rotate_left
      · (intro wx hSx; (try dsimp only at hSx); go_simp)
        all_goals with_reducible rfl
      (try simp only [Act.put, List.setIfInBounds_toArray, List.set_cons_zero, List.set_cons_succ])
      refine held_take 14 rfl (by kernel_rfl) (by kernel_rfl) (by kernel_rfl) (fun _ _ _ _ h => h) (by rfl) ?_ ?_ (by assumption) ?_
      rotate_left
      · (intro wx hSx; (try dsimp only at hSx); go_simp)
        all_goals with_reducible rfl
      (try simp only [Act.put, List.setIfInBounds_toArray, List.set_cons_zero, List.set_cons_succ])
      refine held_take 15 rfl (by kernel_rfl) (by kernel_rfl) (by kernel_rfl) (fun _ _ _ _ h => h) (by rfl) ?_ ?_ (by assumption) ?_
      rotate_left
      · (intro wx hSx; (try dsimp only at hSx); go_simp)
        all_goals with_reducible rfl
      (try simp only [Act.put, List.setIfInBounds_toArray, List.set_cons_zero, List.set_cons_succ])
      refine held_take 16 rfl (by kernel_rfl) (by kernel_rfl) (by kernel_rfl) (fun _ _ _ _ h => h) (by rfl) ?_ ?_ (by assumption) ?_
      rotate_left
      · (intro wx hSx; (try dsimp only at hSx); go_simp)
        all_goals with_reducible rfl
      (try simp only [Act.put, List.setIfInBounds_toArray, List.set_cons_zero, List.set_cons_succ])
      refine held_take 17 rfl (by kernel_rfl) (by kernel_rfl) (by kernel_rfl) (fun _ _ _ _ h => h) (by rfl) ?_ ?_ (by assumption) ?_
      rotate_left
      · (intro wx hSx; (try dsimp only at hSx); go_simp)
        all_goals with_reducible rfl
      (try simp only [Act.put, List.setIfInBounds_toArray, List.set_cons_zero, List.set_cons_succ])
      refine held_take 18 rfl (by kernel_rfl) (by kernel_rfl) (by kernel_rfl) (fun _ _ _ _ h => h) (by rfl) ?_ ?_ (by assumption) ?_
      rotate_left
      · (intro wx hSx; (try dsimp only at hSx); go_simp)
        all_goals with_reducible rfl
      (try simp only [Act.put, List.setIfInBounds_toArray, List.set_cons_zero, List.set_cons_succ])
      refine held_take 19 rfl (by kernel_rfl) (by kernel_rfl) (by kernel_rfl) (fun _ _ _ _ h => h) (by rfl) ?_ ?_ (by assumption) ?_
      rotate_left
      · (intro wx hSx; (try dsimp only at hSx); go_simp)
        all_goals with_reducible rfl
      (try simp only [Act.put, List.setIfInBounds_toArray, List.set_cons_zero, List.set_cons_succ])
      refine held_call 5 rfl (by kernel_rfl) (fun K hK => ?_)
      go_simp
      go_at_call 20
      refine (L1.out _).mono ?_
      rintro e x1 ⟨rfl, rfl⟩
      go_wp2_with fail
      refine hK.out _ _ (hE.drew.cell hc0) (fun hHeld => ?_)
      clear hK K
      (try simp only [Act.put, List.setIfInBounds_toArray, List.set_cons_zero, List.set_cons_succ])
      refine held_take 6 rfl (by kernel_rfl) (by kernel_rfl) (by kernel_rfl) (fun _ _ _ _ h => h) (by rfl) ?_ ?_ (by assumption) ?_
      rotate_left
      · (intro wx hSx; (try dsimp only at hSx); go_simp)
        all_goals with_reducible rfl
      (try simp only [Act.put, List.setIfInBounds_toArray, List.set_cons_zero, List.set_cons_succ])
      refine held_call 11 rfl (by kernel_rfl) (fun K hK => ?_)
      go_simp
      go_at_call 20
      refine (L2.out _).mono ?_
      rintro e x1 ⟨rfl, rfl⟩
      go_wp2_with fail
      refine hK.out _ _ (hE.drew.cell hc0) (fun hHeld => ?_)
      clear hK K
      (try simp only [Act.put, List.setIfInBounds_toArray, List.set_cons_zero, List.set_cons_succ])
      refine held_take 12 rfl (by kernel_rfl) (by kernel_rfl) (by kernel_rfl) (fun _ _ _ _ h => h) (by rfl) ?_ ?_ (by assumption) ?_
      rotate_left
      · (intro wx hSx; (try dsimp only at hSx); go_simp)
        all_goals with_reducible rfl
      (try simp only [Act.put, List.setIfInBounds_toArray, List.set_cons_zero, List.set_cons_succ])
      refine held_call 20 rfl (by kernel_rfl) (fun K hK => ?_)
      go_simp
      go_at_call 20
      refine (L3.out _).mono ?_
      rintro e x1 ⟨rfl, rfl⟩
      go_wp2_with fail
      refine hK.out _ _ (hE.drew.cell hc0) (fun hHeld => ?_)
      clear hK K
      (try simp only [Act.put, List.setIfInBounds_toArray, List.set_cons_zero, List.set_cons_succ])
      refine held_take 21 rfl (by kernel_rfl) (by kernel_rfl) (by kernel_rfl) (fun _ _ _ _ h => h) (by rfl) ?_ ?_ (by assumption) ?_
      rotate_left
      · (intro wx hSx; (try dsimp only at hSx); go_simp)
        all_goals with_reducible rfl
      (try simp only [Act.put, List.setIfInBounds_toArray, List.set_cons_zero, List.set_cons_succ])
      refine held_take 22 rfl (by kernel_rfl) (by kernel_rfl) (by kernel_rfl) (fun _ _ _ _ h => h) (by rfl) ?_ ?_ (by assumption) ?_
      rotate_left
      · (intro wx hSx; (try dsimp only at hSx); go_simp)
        all_goals with_reducible rfl
      (try simp only [Act.put, List.setIfInBounds_toArray, List.set_cons_zero, List.set_cons_succ])
      refine held_call 23 rfl (by kernel_rfl) (fun K hK => ?_)
      go_simp
      refine hK.out _ _ ((hE.drew.alloc _).cell hc0) (fun hHeld => ?_)
      clear hK K
      (try simp only [Act.put, List.setIfInBounds_toArray, List.set_cons_zero, List.set_cons_succ])
      refine held_call 24 rfl (by kernel_rfl) (fun K hK => ?_)
      have hL : Sl (wr.drew.alloc (.cells #[.int .u8 (97 + (k : Int)), .int .u8 (97 + (l3 : Int))] 5)) (some ⟨wr.heap.size, 0, none⟩) 2 2 (by8 [97 + k, 97 + l3]) := by
        have := Sl.lit wr.drew #[.int .u8 (97 + (k : Int)), .int .u8 (97 + (l3 : Int))] 5 2 rfl (by omega) (by simp [Value.oneCell'])
        simpa [by8] using this
      refine step_conv rfl 24 9 (.tmp 47) rfl (.string (strN [97 + k, 97 + l3])) (str8 hL) ?_
      refine hK.out _ _ ((hE.drew.alloc _).cell hc0) (fun hHeld => ?_)
      clear hK K hL
      (try simp only [Act.put, List.setIfInBounds_toArray, List.set_cons_zero, List.set_cons_succ])
      refine held_take 25 rfl (by kernel_rfl) (by kernel_rfl) (by kernel_rfl) (fun _ _ _ _ h => h) (by rfl) ?_ ?_ (by assumption) ?_
      rotate_left
      · (intro wx hSx; (try dsimp only at hSx); go_simp)
        all_goals with_reducible rfl
      (try simp only [Act.put, List.setIfInBounds_toArray, List.set_cons_zero, List.set_cons_succ])
      refine held_take 26 rfl (by kernel_rfl) (by kernel_rfl) (by kernel_rfl) (fun _ _ _ _ h => h) (by rfl) ?_ ?_ (by assumption) ?_
      rotate_left
      · (intro wx hSx; (try dsimp only at hSx); go_simp)
        all_goals with_reducible rfl
      (try simp only [Act.put, List.setIfInBounds_toArray, List.set_cons_zero, List.set_cons_succ])
      refine held_call 27 rfl (by kernel_rfl) (fun K hK => ?_)
      refine step_storeAt rfl 39 (.tmp 50) (.tmp 49) rfl w.heap.size (k * 3) 12 12 w.heap.size 40 (LV (tL zs k)) (sV (1 + (l1 : Int), 1 + (l2 : Int), strN [97 + k, 97 + l3])) rfl rfl (hP.ext (((Ext.refl wr).drew).alloc _)) (by simp [sV]; omega) (sV_one _) info_slot ?_
      intro w4 hR4 hG4
      have hX4 : Ext w w4 := (hE.drew.alloc _).grown hG4 (fun q hq => by simp at hq; omega)
      have hR5 : Own w4 w.heap.size 40 (some ⟨w.heap.size, 0, none⟩) 12 12 (LV (tL zs (k + 1))) := by
        rw [← tL_set zs k hk4, ← LV_put _ (by rw [tL_len (by omega)]; exact hk4), HX.out]
        exact hR4
      refine hK.out _ _ (hX4.cell hc0) (fun hHeld => ?_)
      clear hK K
      refine wpAnyH_done (by kernel_rfl) ?_ _
      clear hHeld
      go_wp2
      go_roundw
      case rel => exact ⟨k + 1, by omega, by go_num, hR5, hX4⟩
      case measure => simp [intOf]; omega
    · have hm4 : k ≤ 4 := by omega
      have hcase : (¬ (k : Int) < 4) ∨ ((k : Int) < 4 ∧ ¬ (k : Int) < (n : Int)) := by omega
      have HH := hide (And.intro hk hlt)
      clear hlt hk
      go_upto_region 3 with fail
      go_cut [21] (fun v wx => v = .bool false ∧ wr = wx)
      case first =>
        rcases hcase with h1 | ⟨h1, h2⟩ <;> (go_wp2_with fail; go_meet; exact ⟨rfl, rfl⟩)
      case rest =>
      obtain ⟨rfl, rfl⟩ := hcut
      clear hcase
      go_wp2_with fail
      refine (Low z _ 4 _ rfl (by omega) (by omega)).mono ?_
      rintro e w' ⟨rfl, rfl⟩
      have hq := low_lt z (n := 4) (by omega)
      generalize low z 4 = q at *
      have hq4 : (q : Int) < 4 := by omega
      have HTL := hide (tL_len (zs := zs) hm4)
      have HNL := hide (nw9_len (zs := zs) (q := q) hm4)
      have X1 := hide (fun w => Lay_slots (nw9 zs k q) HNL.out (all_nw9 zs hm4) w)
      have x2 := fun A n c w h hb => dir_Read A n c (layDL (nw9 zs k q)) w h hb
      rw [(readD_laid HNL.out (all_nw9 zs hm4)).1, (readD_laid HNL.out (all_nw9 zs hm4)).2] at x2
      have X2 := hide x2
      have hfr := free_nw9 zs hm4 hq
      have C7 := hide (fun w => dir_Free (nw9 zs k q) HNL.out w)
      generalize freeL (nw9 zs k q) = fr at hfr C7
      obtain ⟨fr0, fr1⟩ := hfr
      have fr2 : ¬ fr < 0 := by omega
      have fr3 : ¬ (q : Int) < fr := by omega
      have heq := fun w => eq_slots (nw9 zs k q) (nw9 zs k q) HNL.out HNL.out w
      rw [decide_eq_true rfl] at heq
      have hbb := Bytes.layDL (nw9 zs k q)
      have HMM := hide hm4
      clear x2 fr0 fr1 hm4
      have hF := hE
      have hPr := hP
      go_upto_region 9 with (first
        | (with_reducible refine ag_load rfl 40 (.tmp 5) rfl w.heap.size 12 w.heap.size 40 _ rfl hP agg_slots info_slots ?_)
        | (with_reducible refine ag_alloc (o := ⟨some 7, _, _, _, _, _⟩) rfl 40 rfl _ 12 zero_slots rfl (by omega) (LV_one zL) wr.heap.size (Nat.le_refl _) ?_; intro w2 hR2 hE2 hz2)
        | (with_reducible refine ag_store (o := ⟨none, _, _, _, _, _⟩) rfl 40 (.tmp 7) (.tmp 53) rfl wr.heap.size 12 wr.heap.size 40 _ (LV (tL zs k)) rfl rfl hR2 (LV_len4 HTL.out) (LV_one _) info_slots ?_; intro w3 hN3 hG3
           have hE3 := hE2.grown hG3 (by simp)
           replace hP := hP.ext hE3
           replace hF := hF.trans hE3)
        | (with_reducible refine ag_zero rfl 39 rfl _ (bld_slot _) ?_)
        | (refine ag_storeAt (o := ⟨none, _, _, _, _, _⟩) rfl 39 (.tmp 56) (.tmp 55) rfl wr.heap.size (q * 3) 12 12 wr.heap.size 40 (LV (tL zs k)) (sV zS) rfl rfl hN3 (by simp [sV]; omega) (sV_one _) info_slot ?_; intro w4 hN4 hG4))
      have hN : Own w4 wr.heap.size 40 (some ⟨wr.heap.size, 0, none⟩) 12 12 (LV (nw9 zs k q)) := by
        have e := LV_set3 (ss := tL zs k) (k := q) zS (by rw [HTL.out]; exact hq)
        rw [e] at hN4
        exact hN4
      have hgw := (hP.block w.heap.size rfl).2
      have hP4 := hP.kept hG4 (by intro a ha he; simp at ha; subst ha; simp at he; have := (hPr.block w.heap.size rfl).2; omega)
      have hF4 : Ext w w4 := hF.grown hG4 (fun q hq => by simp at hq; have := hE.size; omega)
      clear hN4 hN3 hR2 hE2 hz2 hG3 hE3 hG4 hP hF
      obtain ⟨hP, hF⟩ := And.intro hP4 hF4
      clear hP4 hF4
      go_wp2_with (with_reducible refine ag_load rfl 40 (.tmp 7) rfl wr.heap.size 12 wr.heap.size 40 _ rfl hN agg_slots info_slots ?_)
      refine (X1.out _).mono ?_
      rintro e w5 ⟨A5, c5, rfl, hO5, hE5⟩
      replace hP := hP.ext hE5
      replace hN := hN.ext hE5
      replace hF := hF.trans hE5
      go_wp2_with fail
      refine (X2.out _ _ _ _ hO5.sl hbb).mono ?_
      rintro e w6 ⟨rfl, hE6⟩
      replace hP := hP.ext hE6
      replace hN := hN.ext hE6
      replace hF := hF.trans hE6
      go_wp2_with (first
        | (with_reducible refine ag_alloc (o := ⟨some 10, _, _, _, _, _⟩) rfl 40 rfl _ 12 zero_slots rfl (by omega) (LV_one _) w6.heap.size (Nat.le_refl _) ?_; intro w7 hR7 hE7 hz7)
        | (with_reducible refine ag_store (o := ⟨none, _, _, _, _, _⟩) rfl 40 (.tmp 10) (.tmp 65) rfl w6.heap.size 12 w6.heap.size 40 _ (LV (nw9 zs k q)) rfl rfl hR7 (LV_len4 HNL.out) (LV_one _) info_slots ?_; intro w8 hU hG8
           have hE8 := hE7.grown hG8 (by simp)
           replace hP := hP.ext hE8
           replace hN := hN.ext hE8
           replace hF := hF.trans hE8)
        | (with_reducible refine ag_load rfl 40 (.tmp 10) rfl w6.heap.size 12 w6.heap.size 40 _ rfl hU agg_slots info_slots ?_)
        | (with_reducible refine ag_load rfl 40 (.tmp 7) rfl wr.heap.size 12 wr.heap.size 40 _ rfl hN agg_slots info_slots ?_))
      refine (C7.out _).mono ?_
      rintro e w9 ⟨rfl, hE9⟩
      replace hP := hP.ext hE9
      replace hN := hN.ext hE9
      replace hF := hF.trans hE9
      go_wp2_with (with_reducible refine ag_load (o := ⟨some 84, _, _, _, _, _⟩) ?k84 40 (.tmp 7) rfl wr.heap.size 12 wr.heap.size 40 _ rfl hN agg_slots info_slots ?_; case k84 => go_simp)
      refine (C7.out _).mono ?_
      rintro e w10 ⟨rfl, hE10⟩
      replace hP := hP.ext hE10
      replace hN := hN.ext hE10
      replace hF := hF.trans hE10
      go_wp2_with fail
      clear hU hR7 hE7 hz7 hG8 hE8 hO5 hE5 hE6 hE9 hE10 X1 X2 C7 heq hbb fr2 fr3 hE hPr
      obtain ⟨g7, hg7⟩ : ∃ g7, wr.heap.size = g7 := ⟨_, rfl⟩
      rw [hg7] at hN
      rw [hg7]
      clear hg7
      have hNB := hN.block
      go_loopw [12, 13] (fun j _ wr => ∃ p : Nat, p ≤ 4 ∧ j = .int .i64 p ∧ Ext w10 wr) (fun j _ _ => 4 - (intOf j).toNat)
      case atStart => exact ⟨0, by omega, rfl, Ext.refl _⟩
      case round =>
        obtain ⟨p, hp, rfl, hE⟩ := hrel
        have hPk := hP.ext hE
        have hNk := hN.ext hE
        by_cases hlt : p < 4
        · have hi4 : (p : Int) < 4 := by omega
          obtain ⟨x0, x1, x2⟩ := LV_at (ss := tL zs k) (k := p) (by rw [HTL.out]; exact hlt)
          rw [nS_tL zs HMM.out hlt] at x0 x2
          have hpq : ((p : Int) == (q : Int)) = decide (p = q) := by
            by_cases e : p = q
            · subst e; simp
            · rw [decide_eq_false e]; simp; omega
          obtain ⟨want, hwant⟩ : ∃ want : Int, (if p = q then (-1 : Int) else (p : Int)) = want := ⟨_, rfl⟩
          have HW := hide hwant
          clear hpq want hwant HW x1
          by_cases hpk : p < k
          · rw [if_pos hpk] at x0 x2
            have hi := mkS_ino (zs.getD p 0) p
            have hpos : 0 < (mkS (zs.getD p 0) p).1 := by show (0 : Int) < 1 + _; omega
            have hfc := fun w => dir_Find (nw9 zs k q) HNL.out (mkS (zs.getD p 0) p).2.2 w
            rw [find_nw9 zs HMM.out hpk] at hfc
            generalize mkS (zs.getD p 0) p = s at *
            obtain ⟨i, d, a⟩ := s
            dsimp only at x0 x2 hi hpos hfc
            have keepC : ∀ w', Ext wr w' → w'.cell? ⟨w.heap.size, p * 3, none⟩ = some (.int .i64 i) ∧ w'.cell? ⟨w.heap.size, p * 3 + 2, none⟩ = some (.string a) := fun w' hE' =>
              ⟨((hPk.ext hE').cellAt (p * 3) (by omega)).trans x0, ((hPk.ext hE').cellAt (p * 3 + 2) (by omega)).trans x2⟩
            clear x0 x2 hi hpk
            by_cases hpq : p = q
            · rw [if_pos hpq] at hfc
              have HFC := hide hfc
              clear hfc
              subst hpq
              go_upto_region 19 with fail
              have hu := Try.underlying40
              have hi1 : (Try.prog.info? 40).map (·.size) = some (LV (nw9 zs k p)).length := by rw [LV_len4 HNL.out]; exact info_slots
              have keepS : ∀ w', Ext wr w' → (w'.cell? ⟨w.heap.size, p * 3, none⟩ = some (.int .i64 i) ∧ w'.cell? ⟨w.heap.size, p * 3 + 2, none⟩ = some (.string a)) ∧ w'.rangeAt g7 0 (LV (nw9 zs k p)) := fun w' hE' => ⟨keepC w' hE', (hNk.ext hE').range⟩
              refine wp_region_held_drew (S := fun w' => (w'.cell? ⟨w.heap.size, p * 3, none⟩ = some (.int .i64 i) ∧ w'.cell? ⟨w.heap.size, p * 3 + 2, none⟩ = some (.string a)) ∧ w'.rangeAt g7 0 (LV (nw9 zs k p))) (by kernel_rfl) (keepS _ (Ext.drew (Ext.refl _))) (fun hHeld => ?_)
              refine held_take 0 rfl (by kernel_rfl) (by kernel_rfl) (by kernel_rfl) (fun _ _ _ _ h => h) (by rfl) ?_ ?_ (by assumption) ?_
              rotate_left
              · (intro wx hSx; (try dsimp only at hSx); go_simp)
                all_goals with_reducible rfl
              (try simp only [Act.put, List.setIfInBounds_toArray, List.set_cons_zero, List.set_cons_succ])
              refine held_take 1 rfl (by kernel_rfl) (by kernel_rfl) (by kernel_rfl) (fun _ _ _ _ h => h) (by rfl) ?_ ?_ (by assumption) ?_
              rotate_left
              · (intro wx hSx; (try dsimp only at hSx); go_simp)
                all_goals with_reducible rfl
              (try simp only [Act.put, List.setIfInBounds_toArray, List.set_cons_zero, List.set_cons_succ])
              refine held_take 2 rfl (by kernel_rfl) (by kernel_rfl) (by kernel_rfl) (fun _ _ _ _ h => h) (by rfl) ?_ ?_ (by assumption) ?_
              rotate_left
              · (intro wx hSx; (try dsimp only at hSx); go_simp)
                all_goals with_reducible rfl
              (try simp only [Act.put, List.setIfInBounds_toArray, List.set_cons_zero, List.set_cons_succ])
              refine held_take 3 rfl (by kernel_rfl) (by kernel_rfl) (by kernel_rfl) (fun _ _ _ _ h => h) (by rfl) ?_ ?_ (by assumption) ?_
              rotate_left
              · (intro wx hSx; (try dsimp only at hSx); go_simp)
                all_goals with_reducible rfl
              (try simp only [Act.put, List.setIfInBounds_toArray, List.set_cons_zero, List.set_cons_succ])
              refine held_take 4 rfl (by kernel_rfl) (by kernel_rfl) (by kernel_rfl) (fun _ _ _ _ h => h) (by rfl) ?_ ?_ (by assumption) ?_
              rotate_left
              · (intro wx hSx; (try dsimp only at hSx); go_simp)
                all_goals with_reducible rfl
              (try simp only [Act.put, List.setIfInBounds_toArray, List.set_cons_zero, List.set_cons_succ])
              refine held_take 5 rfl (by kernel_rfl) (by kernel_rfl) (by kernel_rfl) (fun _ _ _ _ h => h) (by rfl) ?_ ?_ (by assumption) ?_
              rotate_left
              · (intro wx hSx; (try dsimp only at hSx); go_simp)
                all_goals with_reducible rfl
              (try simp only [Act.put, List.setIfInBounds_toArray, List.set_cons_zero, List.set_cons_succ])
              refine held_load 6 rfl (by kernel_rfl) (by kernel_rfl) (by kernel_rfl) (fun _ _ _ _ h => h) (by rfl) 40 (.tmp 7) rfl g7 (LV (nw9 zs k p)) _ rfl (fun wx hSx => hSx.2) hu rfl hi1 (by assumption) ?_
              (try simp only [Act.put, List.setIfInBounds_toArray, List.set_cons_zero, List.set_cons_succ])
              refine held_take 7 rfl (by kernel_rfl) (by kernel_rfl) (by kernel_rfl) (fun _ _ _ _ h => h) (by rfl) ?_ ?_ (by assumption) ?_
              rotate_left
              · (intro wx hSx; (try dsimp only at hSx); go_simp)
                all_goals with_reducible rfl
              (try simp only [Act.put, List.setIfInBounds_toArray, List.set_cons_zero, List.set_cons_succ])
              refine held_take 8 rfl (by kernel_rfl) (by kernel_rfl) (by kernel_rfl) (fun _ _ _ _ h => h) (by rfl) ?_ ?_ (by assumption) ?_
              rotate_left
              · (intro wx hSx; (try dsimp only at hSx); go_simp)
                all_goals with_reducible rfl
              (try simp only [Act.put, List.setIfInBounds_toArray, List.set_cons_zero, List.set_cons_succ])
              refine held_take 9 rfl (by kernel_rfl) (by kernel_rfl) (by kernel_rfl) (fun _ _ _ _ h => h) (by rfl) ?_ ?_ (by assumption) ?_
              rotate_left
              · (intro wx hSx; (try dsimp only at hSx); go_simp)
                all_goals with_reducible rfl
              (try simp only [Act.put, List.setIfInBounds_toArray, List.set_cons_zero, List.set_cons_succ])
              refine held_take 10 rfl (by kernel_rfl) (by kernel_rfl) (by kernel_rfl) (fun _ _ _ _ h => h) (by rfl) ?_ ?_ (by assumption) ?_
              rotate_left
              · (intro wx hSx; (try dsimp only at hSx); go_simp)
                all_goals with_reducible rfl
              (try simp only [Act.put, List.setIfInBounds_toArray, List.set_cons_zero, List.set_cons_succ])
              refine held_take 12 rfl (by kernel_rfl) (by kernel_rfl) (by kernel_rfl) (fun _ _ _ _ h => h) (by rfl) ?_ ?_ (by assumption) ?_
              rotate_left
              · (intro wx hSx; (try dsimp only at hSx); go_simp)
                all_goals with_reducible rfl
              (try simp only [Act.put, List.setIfInBounds_toArray, List.set_cons_zero, List.set_cons_succ])
              refine held_call 11 rfl (by kernel_rfl) (fun K hK => ?_)
              go_simp
              go_at_call 31
              refine (HFC.out _).mono ?_
              rintro e w11 ⟨rfl, hE11⟩
              replace hE11 : Ext wr w11 := (Ext.drew (Ext.refl _)).trans hE11
              go_wp2_with fail
              refine hK.out _ _ (keepS _ hE11) (fun hHeld => ?_)
              clear hK K
              (try simp only [Act.put, List.setIfInBounds_toArray, List.set_cons_zero, List.set_cons_succ])
              refine held_take 13 rfl (by kernel_rfl) (by kernel_rfl) (by kernel_rfl) (fun _ _ _ _ h => h) (by rfl) ?_ ?_ (by assumption) ?_
              rotate_left
              · (intro wx hSx; (try dsimp only at hSx); go_simp)
                all_goals with_reducible rfl
              (try simp only [Act.put, List.setIfInBounds_toArray, List.set_cons_zero, List.set_cons_succ])
              refine held_take 14 rfl (by kernel_rfl) (by kernel_rfl) (by kernel_rfl) (fun _ _ _ _ h => h) (by rfl) ?_ ?_ (by assumption) ?_
              rotate_left
              · (intro wx hSx; (try dsimp only at hSx); go_simp)
                all_goals with_reducible rfl
              (try simp only [Act.put, List.setIfInBounds_toArray, List.set_cons_zero, List.set_cons_succ])
              refine wpAnyH_done (by kernel_rfl) ?_ _
              clear hHeld keepS keepC hu hi1
              go_wp2_with fail
              go_roundw
              case rel => exact ⟨p + 1, by omega, by go_num, hE.trans hE11⟩
              case measure => simp [intOf]; omega
            · rw [if_neg hpq] at hfc
              have HFC := hide hfc
              clear hfc
              have hpb : ((p : Int) == (q : Int)) = false := by simp; omega
              go_upto_region 19 with fail
              have hu := Try.underlying40
              have hi1 : (Try.prog.info? 40).map (·.size) = some (LV (nw9 zs k q)).length := by rw [LV_len4 HNL.out]; exact info_slots
              have keepS : ∀ w', Ext wr w' → (w'.cell? ⟨w.heap.size, p * 3, none⟩ = some (.int .i64 i) ∧ w'.cell? ⟨w.heap.size, p * 3 + 2, none⟩ = some (.string a)) ∧ w'.rangeAt g7 0 (LV (nw9 zs k q)) := fun w' hE' => ⟨keepC w' hE', (hNk.ext hE').range⟩
              refine wp_region_held_drew (S := fun w' => (w'.cell? ⟨w.heap.size, p * 3, none⟩ = some (.int .i64 i) ∧ w'.cell? ⟨w.heap.size, p * 3 + 2, none⟩ = some (.string a)) ∧ w'.rangeAt g7 0 (LV (nw9 zs k q))) (by kernel_rfl) (keepS _ (Ext.drew (Ext.refl _))) (fun hHeld => ?_)
              refine held_take 0 rfl (by kernel_rfl) (by kernel_rfl) (by kernel_rfl) (fun _ _ _ _ h => h) (by rfl) ?_ ?_ (by assumption) ?_
              rotate_left
              · (intro wx hSx; (try dsimp only at hSx); go_simp)
                all_goals with_reducible rfl
              (try simp only [Act.put, List.setIfInBounds_toArray, List.set_cons_zero, List.set_cons_succ])
              refine held_take 1 rfl (by kernel_rfl) (by kernel_rfl) (by kernel_rfl) (fun _ _ _ _ h => h) (by rfl) ?_ ?_ (by assumption) ?_
              rotate_left
              · (intro wx hSx; (try dsimp only at hSx); go_simp)
                all_goals with_reducible rfl
              (try simp only [Act.put, List.setIfInBounds_toArray, List.set_cons_zero, List.set_cons_succ])
              refine held_take 2 rfl (by kernel_rfl) (by kernel_rfl) (by kernel_rfl) (fun _ _ _ _ h => h) (by rfl) ?_ ?_ (by assumption) ?_
              rotate_left
              · (intro wx hSx; (try dsimp only at hSx); go_simp)
                all_goals with_reducible rfl
              (try simp only [Act.put, List.setIfInBounds_toArray, List.set_cons_zero, List.set_cons_succ])
              refine held_take 3 rfl (by kernel_rfl) (by kernel_rfl) (by kernel_rfl) (fun _ _ _ _ h => h) (by rfl) ?_ ?_ (by assumption) ?_
              rotate_left
              · (intro wx hSx; (try dsimp only at hSx); go_simp)
                all_goals with_reducible rfl
              (try simp only [Act.put, List.setIfInBounds_toArray, List.set_cons_zero, List.set_cons_succ])
              refine held_take 4 rfl (by kernel_rfl) (by kernel_rfl) (by kernel_rfl) (fun _ _ _ _ h => h) (by rfl) ?_ ?_ (by assumption) ?_
              rotate_left
              · (intro wx hSx; (try dsimp only at hSx); go_simp)
                all_goals with_reducible rfl
              (try simp only [Act.put, List.setIfInBounds_toArray, List.set_cons_zero, List.set_cons_succ])
              refine held_take 5 rfl (by kernel_rfl) (by kernel_rfl) (by kernel_rfl) (fun _ _ _ _ h => h) (by rfl) ?_ ?_ (by assumption) ?_
              rotate_left
              · (intro wx hSx; (try dsimp only at hSx); go_simp)
                all_goals with_reducible rfl
              (try simp only [Act.put, List.setIfInBounds_toArray, List.set_cons_zero, List.set_cons_succ])
              refine held_load 6 rfl (by kernel_rfl) (by kernel_rfl) (by kernel_rfl) (fun _ _ _ _ h => h) (by rfl) 40 (.tmp 7) rfl g7 (LV (nw9 zs k q)) _ rfl (fun wx hSx => hSx.2) hu rfl hi1 (by assumption) ?_
              (try simp only [Act.put, List.setIfInBounds_toArray, List.set_cons_zero, List.set_cons_succ])
              refine held_take 7 rfl (by kernel_rfl) (by kernel_rfl) (by kernel_rfl) (fun _ _ _ _ h => h) (by rfl) ?_ ?_ (by assumption) ?_
              rotate_left
              · (intro wx hSx; (try dsimp only at hSx); go_simp)
                all_goals with_reducible rfl
              (try simp only [Act.put, List.setIfInBounds_toArray, List.set_cons_zero, List.set_cons_succ])
              refine held_take 8 rfl (by kernel_rfl) (by kernel_rfl) (by kernel_rfl) (fun _ _ _ _ h => h) (by rfl) ?_ ?_ (by assumption) ?_
              rotate_left
              · (intro wx hSx; (try dsimp only at hSx); go_simp)
                all_goals with_reducible rfl
              (try simp only [Act.put, List.setIfInBounds_toArray, List.set_cons_zero, List.set_cons_succ])
              refine held_take 9 rfl (by kernel_rfl) (by kernel_rfl) (by kernel_rfl) (fun _ _ _ _ h => h) (by rfl) ?_ ?_ (by assumption) ?_
              rotate_left
              · (intro wx hSx; (try dsimp only at hSx); go_simp)
                all_goals with_reducible rfl
              (try simp only [Act.put, List.setIfInBounds_toArray, List.set_cons_zero, List.set_cons_succ])
              refine held_take 10 rfl (by kernel_rfl) (by kernel_rfl) (by kernel_rfl) (fun _ _ _ _ h => h) (by rfl) ?_ ?_ (by assumption) ?_
              rotate_left
              · (intro wx hSx; (try dsimp only at hSx); go_simp)
                all_goals with_reducible rfl
              (try simp only [Act.put, List.setIfInBounds_toArray, List.set_cons_zero, List.set_cons_succ])
              refine held_take 12 rfl (by kernel_rfl) (by kernel_rfl) (by kernel_rfl) (fun _ _ _ _ h => h) (by rfl) ?_ ?_ (by assumption) ?_
              rotate_left
              · (intro wx hSx; (try dsimp only at hSx); go_simp)
                all_goals with_reducible rfl
              (try simp only [Act.put, List.setIfInBounds_toArray, List.set_cons_zero, List.set_cons_succ])
              refine held_call 11 rfl (by kernel_rfl) (fun K hK => ?_)
              go_simp
              go_at_call 31
              refine (HFC.out _).mono ?_
              rintro e w11 ⟨rfl, hE11⟩
              replace hE11 : Ext wr w11 := (Ext.drew (Ext.refl _)).trans hE11
              go_wp2_with fail
              refine hK.out _ _ (keepS _ hE11) (fun hHeld => ?_)
              clear hK K
              (try simp only [Act.put, List.setIfInBounds_toArray, List.set_cons_zero, List.set_cons_succ])
              refine held_take 13 rfl (by kernel_rfl) (by kernel_rfl) (by kernel_rfl) (fun _ _ _ _ h => h) (by rfl) ?_ ?_ (by assumption) ?_
              rotate_left
              · (intro wx hSx; (try dsimp only at hSx); go_simp)
                all_goals with_reducible rfl
              (try simp only [Act.put, List.setIfInBounds_toArray, List.set_cons_zero, List.set_cons_succ])
              refine held_take 14 rfl (by kernel_rfl) (by kernel_rfl) (by kernel_rfl) (fun _ _ _ _ h => h) (by rfl) ?_ ?_ (by assumption) ?_
              rotate_left
              · (intro wx hSx; (try dsimp only at hSx); go_simp)
                all_goals with_reducible rfl
              (try simp only [Act.put, List.setIfInBounds_toArray, List.set_cons_zero, List.set_cons_succ])
              refine wpAnyH_done (by kernel_rfl) ?_ _
              clear hHeld keepS keepC hu hi1
              go_wp2_with fail
              go_roundw
              case rel => exact ⟨p + 1, by omega, by go_num, hE.trans hE11⟩
              case measure => simp [intOf]; omega
          · rw [if_neg hpk] at x0
            have keepC : ∀ w', Ext wr w' → w'.cell? ⟨w.heap.size, p * 3, none⟩ = some (.int .i64 0) := fun w' hE' => ((hPk.ext hE').cellAt (p * 3) (by omega)).trans x0
            clear x0 x2 hpk
            by_cases hpq : p = q
            · subst hpq
              go_upto_region 19 with fail
              refine wp_region_held_drew (S := fun w' => w'.cell? ⟨w.heap.size, p * 3, none⟩ = some (.int .i64 0)) (by kernel_rfl) (keepC _ (Ext.drew (Ext.refl _))) (fun hHeld => ?_)
              refine held_take 0 rfl (by kernel_rfl) (by kernel_rfl) (by kernel_rfl) (fun _ _ _ _ h => h) (by rfl) ?_ ?_ (by assumption) ?_
              rotate_left
              · (intro wx hSx; (try dsimp only at hSx); go_simp)
                all_goals with_reducible rfl
              (try simp only [Act.put, List.setIfInBounds_toArray, List.set_cons_zero, List.set_cons_succ])
              refine held_take 1 rfl (by kernel_rfl) (by kernel_rfl) (by kernel_rfl) (fun _ _ _ _ h => h) (by rfl) ?_ ?_ (by assumption) ?_
              rotate_left
              · (intro wx hSx; (try dsimp only at hSx); go_simp)
                all_goals with_reducible rfl
              (try simp only [Act.put, List.setIfInBounds_toArray, List.set_cons_zero, List.set_cons_succ])
              refine held_take 2 rfl (by kernel_rfl) (by kernel_rfl) (by kernel_rfl) (fun _ _ _ _ h => h) (by rfl) ?_ ?_ (by assumption) ?_
              rotate_left
              · (intro wx hSx; (try dsimp only at hSx); go_simp)
                all_goals with_reducible rfl
              (try simp only [Act.put, List.setIfInBounds_toArray, List.set_cons_zero, List.set_cons_succ])
              refine held_take 3 rfl (by kernel_rfl) (by kernel_rfl) (by kernel_rfl) (fun _ _ _ _ h => h) (by rfl) ?_ ?_ (by assumption) ?_
              rotate_left
              · (intro wx hSx; (try dsimp only at hSx); go_simp)
                all_goals with_reducible rfl
              (try simp only [Act.put, List.setIfInBounds_toArray, List.set_cons_zero, List.set_cons_succ])
              refine held_take 4 rfl (by kernel_rfl) (by kernel_rfl) (by kernel_rfl) (fun _ _ _ _ h => h) (by rfl) ?_ ?_ (by assumption) ?_
              rotate_left
              · (intro wx hSx; (try dsimp only at hSx); go_simp)
                all_goals with_reducible rfl
              (try simp only [Act.put, List.setIfInBounds_toArray, List.set_cons_zero, List.set_cons_succ])
              refine held_take 5 rfl (by kernel_rfl) (by kernel_rfl) (by kernel_rfl) (fun _ _ _ _ h => h) (by rfl) ?_ ?_ (by assumption) ?_
              rotate_left
              · (intro wx hSx; (try dsimp only at hSx); go_simp)
                all_goals with_reducible rfl
              (try simp only [Act.put, List.setIfInBounds_toArray, List.set_cons_zero, List.set_cons_succ])
              refine held_skip 6 rfl (by kernel_rfl) (by kernel_rfl) (by kernel_rfl) (fun _ _ _ _ h => h) (by rfl) (by assumption) ?_
              (try simp only [Act.put, List.setIfInBounds_toArray, List.set_cons_zero, List.set_cons_succ])
              refine held_skip 7 rfl (by kernel_rfl) (by kernel_rfl) (by kernel_rfl) (fun _ _ _ _ h => h) (by rfl) (by assumption) ?_
              (try simp only [Act.put, List.setIfInBounds_toArray, List.set_cons_zero, List.set_cons_succ])
              refine held_skip 8 rfl (by kernel_rfl) (by kernel_rfl) (by kernel_rfl) (fun _ _ _ _ h => h) (by rfl) (by assumption) ?_
              (try simp only [Act.put, List.setIfInBounds_toArray, List.set_cons_zero, List.set_cons_succ])
              refine held_skip 9 rfl (by kernel_rfl) (by kernel_rfl) (by kernel_rfl) (fun _ _ _ _ h => h) (by rfl) (by assumption) ?_
              (try simp only [Act.put, List.setIfInBounds_toArray, List.set_cons_zero, List.set_cons_succ])
              refine held_skip 10 rfl (by kernel_rfl) (by kernel_rfl) (by kernel_rfl) (fun _ _ _ _ h => h) (by rfl) (by assumption) ?_
              (try simp only [Act.put, List.setIfInBounds_toArray, List.set_cons_zero, List.set_cons_succ])
              refine held_skip 11 rfl (by kernel_rfl) (by kernel_rfl) (by kernel_rfl) (fun _ _ _ _ h => h) (by rfl) (by assumption) ?_
              (try simp only [Act.put, List.setIfInBounds_toArray, List.set_cons_zero, List.set_cons_succ])
              refine held_skip 12 rfl (by kernel_rfl) (by kernel_rfl) (by kernel_rfl) (fun _ _ _ _ h => h) (by rfl) (by assumption) ?_
              (try simp only [Act.put, List.setIfInBounds_toArray, List.set_cons_zero, List.set_cons_succ])
              refine held_skip 13 rfl (by kernel_rfl) (by kernel_rfl) (by kernel_rfl) (fun _ _ _ _ h => h) (by rfl) (by assumption) ?_
              (try simp only [Act.put, List.setIfInBounds_toArray, List.set_cons_zero, List.set_cons_succ])
              refine held_take 14 rfl (by kernel_rfl) (by kernel_rfl) (by kernel_rfl) (fun _ _ _ _ h => h) (by rfl) ?_ ?_ (by assumption) ?_
              rotate_left
              · (intro wx hSx; (try dsimp only at hSx); go_simp)
                all_goals with_reducible rfl
              (try simp only [Act.put, List.setIfInBounds_toArray, List.set_cons_zero, List.set_cons_succ])
              refine wpAnyH_done (by kernel_rfl) ?_ _
              clear hHeld keepC
              go_wp2_with fail
              go_roundw
              case rel => exact ⟨p + 1, by omega, by go_num, hE.drew⟩
              case measure => simp [intOf]; omega
            · have hpb : ((p : Int) == (q : Int)) = false := by simp; omega
              go_upto_region 19 with fail
              refine wp_region_held_drew (S := fun w' => w'.cell? ⟨w.heap.size, p * 3, none⟩ = some (.int .i64 0)) (by kernel_rfl) (keepC _ (Ext.drew (Ext.refl _))) (fun hHeld => ?_)
              refine held_take 0 rfl (by kernel_rfl) (by kernel_rfl) (by kernel_rfl) (fun _ _ _ _ h => h) (by rfl) ?_ ?_ (by assumption) ?_
              rotate_left
              · (intro wx hSx; (try dsimp only at hSx); go_simp)
                all_goals with_reducible rfl
              (try simp only [Act.put, List.setIfInBounds_toArray, List.set_cons_zero, List.set_cons_succ])
              refine held_take 1 rfl (by kernel_rfl) (by kernel_rfl) (by kernel_rfl) (fun _ _ _ _ h => h) (by rfl) ?_ ?_ (by assumption) ?_
              rotate_left
              · (intro wx hSx; (try dsimp only at hSx); go_simp)
                all_goals with_reducible rfl
              (try simp only [Act.put, List.setIfInBounds_toArray, List.set_cons_zero, List.set_cons_succ])
              refine held_take 2 rfl (by kernel_rfl) (by kernel_rfl) (by kernel_rfl) (fun _ _ _ _ h => h) (by rfl) ?_ ?_ (by assumption) ?_
              rotate_left
              · (intro wx hSx; (try dsimp only at hSx); go_simp)
                all_goals with_reducible rfl
              (try simp only [Act.put, List.setIfInBounds_toArray, List.set_cons_zero, List.set_cons_succ])
              refine held_take 3 rfl (by kernel_rfl) (by kernel_rfl) (by kernel_rfl) (fun _ _ _ _ h => h) (by rfl) ?_ ?_ (by assumption) ?_
              rotate_left
              · (intro wx hSx; (try dsimp only at hSx); go_simp)
                all_goals with_reducible rfl
              (try simp only [Act.put, List.setIfInBounds_toArray, List.set_cons_zero, List.set_cons_succ])
              refine held_take 4 rfl (by kernel_rfl) (by kernel_rfl) (by kernel_rfl) (fun _ _ _ _ h => h) (by rfl) ?_ ?_ (by assumption) ?_
              rotate_left
              · (intro wx hSx; (try dsimp only at hSx); go_simp)
                all_goals with_reducible rfl
              (try simp only [Act.put, List.setIfInBounds_toArray, List.set_cons_zero, List.set_cons_succ])
              refine held_take 5 rfl (by kernel_rfl) (by kernel_rfl) (by kernel_rfl) (fun _ _ _ _ h => h) (by rfl) ?_ ?_ (by assumption) ?_
              rotate_left
              · (intro wx hSx; (try dsimp only at hSx); go_simp)
                all_goals with_reducible rfl
              (try simp only [Act.put, List.setIfInBounds_toArray, List.set_cons_zero, List.set_cons_succ])
              refine held_skip 6 rfl (by kernel_rfl) (by kernel_rfl) (by kernel_rfl) (fun _ _ _ _ h => h) (by rfl) (by assumption) ?_
              (try simp only [Act.put, List.setIfInBounds_toArray, List.set_cons_zero, List.set_cons_succ])
              refine held_skip 7 rfl (by kernel_rfl) (by kernel_rfl) (by kernel_rfl) (fun _ _ _ _ h => h) (by rfl) (by assumption) ?_
              (try simp only [Act.put, List.setIfInBounds_toArray, List.set_cons_zero, List.set_cons_succ])
              refine held_skip 8 rfl (by kernel_rfl) (by kernel_rfl) (by kernel_rfl) (fun _ _ _ _ h => h) (by rfl) (by assumption) ?_
              (try simp only [Act.put, List.setIfInBounds_toArray, List.set_cons_zero, List.set_cons_succ])
              refine held_skip 9 rfl (by kernel_rfl) (by kernel_rfl) (by kernel_rfl) (fun _ _ _ _ h => h) (by rfl) (by assumption) ?_
              (try simp only [Act.put, List.setIfInBounds_toArray, List.set_cons_zero, List.set_cons_succ])
              refine held_skip 10 rfl (by kernel_rfl) (by kernel_rfl) (by kernel_rfl) (fun _ _ _ _ h => h) (by rfl) (by assumption) ?_
              (try simp only [Act.put, List.setIfInBounds_toArray, List.set_cons_zero, List.set_cons_succ])
              refine held_skip 11 rfl (by kernel_rfl) (by kernel_rfl) (by kernel_rfl) (fun _ _ _ _ h => h) (by rfl) (by assumption) ?_
              (try simp only [Act.put, List.setIfInBounds_toArray, List.set_cons_zero, List.set_cons_succ])
              refine held_skip 12 rfl (by kernel_rfl) (by kernel_rfl) (by kernel_rfl) (fun _ _ _ _ h => h) (by rfl) (by assumption) ?_
              (try simp only [Act.put, List.setIfInBounds_toArray, List.set_cons_zero, List.set_cons_succ])
              refine held_skip 13 rfl (by kernel_rfl) (by kernel_rfl) (by kernel_rfl) (fun _ _ _ _ h => h) (by rfl) (by assumption) ?_
              (try simp only [Act.put, List.setIfInBounds_toArray, List.set_cons_zero, List.set_cons_succ])
              refine held_take 14 rfl (by kernel_rfl) (by kernel_rfl) (by kernel_rfl) (fun _ _ _ _ h => h) (by rfl) ?_ ?_ (by assumption) ?_
              rotate_left
              · (intro wx hSx; (try dsimp only at hSx); go_simp)
                all_goals with_reducible rfl
              (try simp only [Act.put, List.setIfInBounds_toArray, List.set_cons_zero, List.set_cons_succ])
              refine wpAnyH_done (by kernel_rfl) ?_ _
              clear hHeld keepC
              go_wp2_with fail
              go_roundw
              case rel => exact ⟨p + 1, by omega, by go_num, hE.drew⟩
              case measure => simp [intOf]; omega
        · obtain rfl : p = 4 := by omega
          have x9 := fun w => dir_Find (nw9 zs k q) HNL.out ⟨#[122, 122, 122]⟩ w
          rw [find_zzz zs HMM.out] at x9
          have X9 := hide x9
          clear x9
          go_wp2_with (with_reducible refine ag_load rfl 40 (.tmp 7) rfl g7 12 g7 40 _ rfl hNk agg_slots info_slots ?_)
          refine (X9.out _).mono ?_
          rintro e w12 ⟨rfl, hE12⟩
          go_wp2_with (go_at_call 22; refine (law9_awake _).mono ?_; rintro e w13 ⟨rfl, hE13⟩)
          go_ret
          exact ⟨rfl, hF.trans (hE.trans (hE12.trans hE13))⟩
end Go.Proofs.Ytngffmchjjpfbaa
