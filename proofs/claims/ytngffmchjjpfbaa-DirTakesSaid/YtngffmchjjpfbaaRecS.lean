/- Records: what the program reads. (Region 5's walk is written by gen_recs.py.) -/
import Derived.Test.YtngffmchjjpfbaaRecT
import Derived.Deep.RegionHeld3
import Derived.Deep.DeepCutAuto
namespace Go.Proofs.Ytngffmchjjpfbaa
set_option linter.unusedVariables false
open Go.RowKit
/-- The record that was read lies in a block of its own. -/
def RecAt (w3 : World) (bs : List Nat) (v : Value) (wx : World) : Prop :=
  v = .pointer (some ⟨w3.heap.size, 0, none⟩) ∧ Own wx w3.heap.size 23 (some ⟨w3.heap.size, 0, none⟩) 7 7 (rV (rdR bs)) ∧ Ext w3 wx
theorem RecAt.intro {w3 w9 : World} {bs : List Nat} {b0 : Nat} (hx0 : Hid (bs[0]? = some b0))
    (hR9 : Own w9 w3.heap.size 23 (some ⟨w3.heap.size, 0, none⟩) 7 7 ((rV zR).take 0 ++ rV ((b0 : Int) == 1, ((wN bs 1 : Nat) : Int), ((wN bs 3 : Nat) : Int), ((wN bs 5 : Nat) : Int), ((wN bs 7 : Nat) : Int), strN (nmL bs 9), strN (nmL bs 34)) ++ (rV zR).drop (0 + (rV ((b0 : Int) == 1, ((wN bs 1 : Nat) : Int), ((wN bs 3 : Nat) : Int), ((wN bs 5 : Nat) : Int), ((wN bs 7 : Nat) : Int), strN (nmL bs 9), strN (nmL bs 34))).length)))
    (hX : Ext w3 w9) : RecAt w3 bs (.pointer (some ⟨w3.heap.size, 0, none⟩)) w9 := by
  have hrd : ((b0 : Int) == 1, ((wN bs 1 : Nat) : Int), ((wN bs 3 : Nat) : Int), ((wN bs 5 : Nat) : Int), ((wN bs 7 : Nat) : Int), strN (nmL bs 9), strN (nmL bs 34)) = rdR bs := by
    unfold rdR
    rw [List.getD_eq_getElem?_getD, hx0.out]
    refine Prod.ext ?_ rfl
    rw [Bool.eq_iff_iff]; simp; omega
  have hR5 : Own w9 w3.heap.size 23 (some ⟨w3.heap.size, 0, none⟩) 7 7 (rV ((b0 : Int) == 1, ((wN bs 1 : Nat) : Int), ((wN bs 3 : Nat) : Int), ((wN bs 5 : Nat) : Int), ((wN bs 7 : Nat) : Int), strN (nmL bs 9), strN (nmL bs 34))) := hR9
  rw [hrd] at hR5
  exact ⟨rfl, hR5, hX⟩
set_option maxRecDepth 100000 in
set_option maxHeartbeats 4000000 in
theorem rec_Read (A : Option Addr) (n c : Nat) (xs : List Nat) (w : World) (h : Sl w A n c (by8 xs)) (hb : Bytes xs) :
    Calls Try.prog 13 #[.slice A n c] w fun e w' => e = .returned (.tuple #[.agg (rV (readRL xs)).toArray, .int .i64 (readRE xs : Nat)]) ∧ Ext w w' := by
  by_cases hk : kindOf xs = 82
  case neg =>
    have hno : ¬ rdOkR xs := fun h => hk h.1
    have H12 := hide (And.intro (show readRL xs = zR from if_neg hno) (show readRE xs = 3 from if_neg hno))
    have hO := fun w1 (hE : Ext w w1) => seal_Open_no 82 A n c xs w1 (h.ext hE) hb (.inr hk)
    clear hno hk
    go_enter Try.func13, Try.ntmps13
    go_wp2_with (with_reducible refine ag_alloc (o := ⟨some 2, _, _, _, _, _⟩) rfl 23 rfl _ 7 zero_rec rfl (by omega) (rV_one zR) w.heap.size (Nat.le_refl _) ?_; intro w1 hR1 hE1 hz1)
    refine (hO _ hE1).mono ?_
    rintro e w3 ⟨rfl, hE3⟩
    have hR3 := hR1.ext (hE3.trans ((Ext.refl w3).alloc (.cells #[.slice none 0 0] 24)))
    go_wp2_with (first
      | (with_reducible refine ag_zero rfl 23 rfl _ (bld_rec _) ?_)
      | (with_reducible refine ag_store (o := ⟨none, _, _, _, _, _⟩) rfl 23 (.tmp 2) (.tmp 17) rfl w.heap.size 7 w.heap.size 23 _ (rV zR) rfl rfl hR3 rfl (rV_one _) info_rec ?_; intro w4 hR4 hG4))
    have hF4 := (hE1.trans (hE3.trans ((Ext.refl w3).alloc (.cells #[.slice none 0 0] 24)))).grown hG4 (by simp)
    rw [H12.out.1, H12.out.2]
    exact bodyPost_ret (results_agg rfl _ rfl rfl hR4 agg_rec info_rec) rfl ⟨rfl, hF4⟩
  have hl := kind_len (xs := xs) (by omega)
  have hbl : (bodyOf xs).length = 123 := bodyOf_len hl
  have hbb : Bytes (bodyOf xs) := (hb.drop 1).take 123
  have HK := hide hk
  have HBL := hide hbl
  have hRD := rdOkR_lay hk
  have HRD := hide hRD
  clear hk hl hbl hRD
  have r1 : rdOkR xs → readRL xs = rdR (bodyOf xs) ∧ readRE xs = 0 := fun h => ⟨if_pos h, if_pos h⟩
  have r2 : ¬ rdOkR xs → readRL xs = zR ∧ readRE xs = 3 := fun h => ⟨if_neg h, if_neg h⟩
  have HR := hide (And.intro r1 r2)
  clear r1 r2
  go_enter Try.func13, Try.ntmps13
  go_wp2_with (with_reducible refine ag_alloc (o := ⟨some 2, _, _, _, _, _⟩) rfl 23 rfl _ 7 zero_rec rfl (by omega) (rV_one zR) w.heap.size (Nat.le_refl _) ?_; intro w1 hR1 hE1 hz1)
  refine (seal_Open 82 _ _ _ xs _ (h.ext hE1) hb (by omega) HK.out).mono ?_
  rintro e w2 ⟨gb, cb, rfl, hO2, hE2⟩
  go_upto_region 5 with fail
  have hnl := hO2.sl.nc
  generalize bodyOf xs = bs at *
  have hcs : (w2.alloc (.cells #[.slice (some ⟨gb, 0, none⟩) 123 cb] 24)).cell? ⟨w2.heap.size, 0, none⟩ = some (.slice (some ⟨gb, 0, none⟩) 123 cb) := by rw [World.cell?_alloc_at _ _ _ _ (by simp)]; rfl
  have hX : Ext w2 (w2.alloc (.cells #[.slice (some ⟨gb, 0, none⟩) 123 cb] 24)) := (Ext.refl w2).alloc _
  have hO3 := hO2.ext hX
  have hE3 := hE2.trans hX
  clear hX hO2 hE2
  obtain ⟨w3, hw3⟩ : ∃ w3 : World, w2.alloc (.cells #[.slice (some ⟨gb, 0, none⟩) 123 cb] 24) = w3 := ⟨_, rfl⟩
  rw [hw3] at hcs hO3 hE3
  rw [hw3]
  clear hw3
  go_cut [7] (fun s7 wx => RecAt w3 bs s7 wx)
  case first =>
    obtain ⟨_, _, b0, hA, hx0, hc0, hb0⟩ := hO3.sl.at8 hbb (k := 0) (by omega)
    simp at hA
    obtain ⟨rfl, rfl⟩ := hA
    simp only [Nat.zero_add] at hc0
    have W1 := hide (fun w (hx : Ext w3 w) => rec_word w w2.heap.size gb cb bs (hx.cell hcs) (hO3.sl.ext hx) hbb 1 1 rfl (by omega))
    have W3 := hide (fun w (hx : Ext w3 w) => rec_word w w2.heap.size gb cb bs (hx.cell hcs) (hO3.sl.ext hx) hbb 3 3 rfl (by omega))
    have W5 := hide (fun w (hx : Ext w3 w) => rec_word w w2.heap.size gb cb bs (hx.cell hcs) (hO3.sl.ext hx) hbb 5 5 rfl (by omega))
    have W7 := hide (fun w (hx : Ext w3 w) => rec_word w w2.heap.size gb cb bs (hx.cell hcs) (hO3.sl.ext hx) hbb 7 7 rfl (by omega))
    have hn9 : nmL (bs.drop 9) 0 = nmL bs 9 := by unfold nmL; simp [List.getD_eq_getElem?_getD, List.drop_drop]
    have hn34 : nmL (bs.drop 34) 0 = nmL bs 34 := by unfold nmL; simp [List.getD_eq_getElem?_getD, List.drop_drop]
    have S9 : Sl w3 (some ⟨gb, 9, none⟩) 114 (cb - 9) (by8 (bs.drop 9)) := by
      have := hO3.sl.mid 9 114 (by omega) (by omega)
      rwa [List.take_of_length_le (by rw [List.length_drop, HBL.out]; omega)] at this
    have S34 : Sl w3 (some ⟨gb, 34, none⟩) 89 (cb - 34) (by8 (bs.drop 34)) := by
      have := hO3.sl.mid 34 89 (by omega) (by omega)
      rwa [List.take_of_length_le (by rw [List.length_drop, HBL.out]; omega)] at this
    have n9 := fun w (hx : Ext w3 w) => rec_name (some ⟨gb, 9, none⟩) 114 (cb - 9) (bs.drop 9) w (S9.ext hx) (hbb.drop 9) (by omega)
    have n34 := fun w (hx : Ext w3 w) => rec_name (some ⟨gb, 34, none⟩) 89 (cb - 34) (bs.drop 34) w (S34.ext hx) (hbb.drop 34) (by omega)
    rw [hn9] at n9
    rw [hn34] at n34
    have N9 := hide n9
    have N34 := hide n34
    clear n9 n34 hn9 hn34 S9 S34
  -- WALK
    refine wp_region_held_drew (S := fun w' => w'.cell? ⟨w2.heap.size, 0, none⟩ = some (.slice (some ⟨gb, 0, none⟩) 123 cb) ∧ w'.cell? ⟨gb, 0, none⟩ = some (.int .u8 (b0 : Nat))) (by kernel_rfl) ⟨Ext.cell (by repeat (first | exact Ext.refl _ | refine Ext.drewN ?_ _ | refine Ext.drew ?_ | refine Ext.alloc ?_ _)) hcs, Ext.cell (by repeat (first | exact Ext.refl _ | refine Ext.drewN ?_ _ | refine Ext.drew ?_ | refine Ext.alloc ?_ _)) hc0⟩ (fun hHeld => ?_)
    have hZ : ∀ k, Own ((w3.drewN k).alloc (.cells #[.bool false, .int .i64 0, .int .i64 0, .int .i64 0, .int .i64 0, .string ⟨#[]⟩, .string ⟨#[]⟩] 23)) w3.heap.size 23 (some ⟨w3.heap.size, 0, none⟩) 7 7 (rV zR) := fun k =>
      Own.made (B := w3.heap.size) (e := 23) (n := 7) (w := w3.drewN k) (Nat.le_refl _) #[.bool false, .int .i64 0, .int .i64 0, .int .i64 0, .int .i64 0, .string ⟨#[]⟩, .string ⟨#[]⟩] 7 (by simp [maxLen]) (Nat.le_refl _) rfl (rV_one zR)
    have hZd : Own (w3.drew.alloc (.cells #[.bool false, .int .i64 0, .int .i64 0, .int .i64 0, .int .i64 0, .string ⟨#[]⟩, .string ⟨#[]⟩] 23)) w3.heap.size 23 (some ⟨w3.heap.size, 0, none⟩) 7 7 (rV zR) :=
      Own.made (B := w3.heap.size) (e := 23) (n := 7) (w := w3.drew) (Nat.le_refl _) #[.bool false, .int .i64 0, .int .i64 0, .int .i64 0, .int .i64 0, .string ⟨#[]⟩, .string ⟨#[]⟩] 7 (by simp [maxLen]) (Nat.le_refl _) rfl (rV_one zR)
    refine held_take 0 rfl (by kernel_rfl) (by kernel_rfl) (by kernel_rfl) (fun _ _ _ _ h => h) (by rfl) ?_ ?_ (by assumption) ?_
    rotate_left
    · (intro wx hSx; (try dsimp only at hSx); go_simp)
      all_goals with_reducible rfl
    (try simp only [Act.put, List.setIfInBounds_toArray, List.set_cons_zero, List.set_cons_succ])
    refine held_take 1 rfl (by kernel_rfl) (by kernel_rfl) (by kernel_rfl) (fun _ _ _ _ h => h) (by rfl) ?_ ?_ (by assumption) ?_
    rotate_left
    · (intro wx hSx; (try dsimp only at hSx); go_simp)
      all_goals with_reducible rfl
    (try simp only [Act.put, List.setIfInBounds_toArray, List.set_cons_zero, List.set_cons_succ])
    refine held_take 2 rfl (by kernel_rfl) (by kernel_rfl) (by kernel_rfl) (fun _ _ _ _ h => h) (by rfl) ?_ ?_ (by assumption) ?_
    rotate_left
    · (intro wx hSx; (try dsimp only at hSx); go_simp)
      all_goals with_reducible rfl
    (try simp only [Act.put, List.setIfInBounds_toArray, List.set_cons_zero, List.set_cons_succ])
    refine held_take 3 rfl (by kernel_rfl) (by kernel_rfl) (by kernel_rfl) (fun _ _ _ _ h => h) (by rfl) ?_ ?_ (by assumption) ?_
    rotate_left
    · (intro wx hSx; (try dsimp only at hSx); go_simp)
      all_goals with_reducible rfl
    (try simp only [Act.put, List.setIfInBounds_toArray, List.set_cons_zero, List.set_cons_succ])
    refine held_take 4 rfl (by kernel_rfl) (by kernel_rfl) (by kernel_rfl) (fun _ _ _ _ h => h) (by rfl) ?_ ?_ (by assumption) ?_
    rotate_left
    · (intro wx hSx; (try dsimp only at hSx); go_simp)
      all_goals with_reducible rfl
    (try simp only [Act.put, List.setIfInBounds_toArray, List.set_cons_zero, List.set_cons_succ])
    refine held_take 6 rfl (by kernel_rfl) (by kernel_rfl) (by kernel_rfl) (fun _ _ _ _ h => h) (by rfl) ?_ ?_ (by assumption) ?_
    rotate_left
    · (intro wx hSx; (try dsimp only at hSx); go_simp)
      all_goals with_reducible rfl
    (try simp only [Act.put, List.setIfInBounds_toArray, List.set_cons_zero, List.set_cons_succ])
    refine held_take 8 rfl (by kernel_rfl) (by kernel_rfl) (by kernel_rfl) (fun _ _ _ _ h => h) (by rfl) ?_ ?_ (by assumption) ?_
    rotate_left
    · (intro wx hSx; (try dsimp only at hSx); go_simp)
      all_goals with_reducible rfl
    (try simp only [Act.put, List.setIfInBounds_toArray, List.set_cons_zero, List.set_cons_succ])
    refine held_take 10 rfl (by kernel_rfl) (by kernel_rfl) (by kernel_rfl) (fun _ _ _ _ h => h) (by rfl) ?_ ?_ (by assumption) ?_
    rotate_left
    · (intro wx hSx; (try dsimp only at hSx); go_simp)
      all_goals with_reducible rfl
    (try simp only [Act.put, List.setIfInBounds_toArray, List.set_cons_zero, List.set_cons_succ])
    refine held_take 12 rfl (by kernel_rfl) (by kernel_rfl) (by kernel_rfl) (fun _ _ _ _ h => h) (by rfl) ?_ ?_ (by assumption) ?_
    rotate_left
    · (intro wx hSx; (try dsimp only at hSx); go_simp)
      all_goals with_reducible rfl
    (try simp only [Act.put, List.setIfInBounds_toArray, List.set_cons_zero, List.set_cons_succ])
    refine held_take 13 rfl (by kernel_rfl) (by kernel_rfl) (by kernel_rfl) (fun _ _ _ _ h => h) (by rfl) ?_ ?_ (by assumption) ?_
    rotate_left
    · (intro wx hSx; (try dsimp only at hSx); go_simp)
      all_goals with_reducible rfl
    (try simp only [Act.put, List.setIfInBounds_toArray, List.set_cons_zero, List.set_cons_succ])
    refine held_take 15 rfl (by kernel_rfl) (by kernel_rfl) (by kernel_rfl) (fun _ _ _ _ h => h) (by rfl) ?_ ?_ (by assumption) ?_
    rotate_left
    · (intro wx hSx; (try dsimp only at hSx); go_simp)
      all_goals with_reducible rfl
    (try simp only [Act.put, List.setIfInBounds_toArray, List.set_cons_zero, List.set_cons_succ])
    refine held_take 16 rfl (by kernel_rfl) (by kernel_rfl) (by kernel_rfl) (fun _ _ _ _ h => h) (by rfl) ?_ ?_ (by assumption) ?_
    rotate_left
    · (intro wx hSx; (try dsimp only at hSx); go_simp)
      all_goals with_reducible rfl
    (try simp only [Act.put, List.setIfInBounds_toArray, List.set_cons_zero, List.set_cons_succ])
    refine wpAnyH_ready (rs := [5, 19]) (by kernel_rfl) (by simp) (AllReadyH.cons (drop_get rfl) (fun K hK => ?_) (AllReadyH.cons (drop_get rfl) (fun K hK => ?_) AllReadyH.nil))
    · go_simp
      go_at_call 40
      refine (W1.out _ (by repeat (first | exact Ext.refl _ | refine Ext.drewN ?_ _ | refine Ext.drew ?_ | refine Ext.alloc ?_ _))).mono ?_
      rintro e w' ⟨rfl, qq, rfl⟩
      go_wp2_with fail
      refine hK.out _ _ ⟨Ext.cell (by repeat (first | exact Ext.refl _ | refine Ext.drewN ?_ _ | refine Ext.drew ?_ | refine Ext.alloc ?_ _)) hcs, Ext.cell (by repeat (first | exact Ext.refl _ | refine Ext.drewN ?_ _ | refine Ext.drew ?_ | refine Ext.alloc ?_ _)) hc0⟩ (fun hHeld => ?_)
      clear hK K
      (try simp only [Act.put, List.setIfInBounds_toArray, List.set_cons_zero, List.set_cons_succ])
      refine wpAnyH_ready (rs := [7, 19]) (by kernel_rfl) (by simp) (AllReadyH.cons (drop_get rfl) (fun K hK => ?_) (AllReadyH.cons (drop_get rfl) (fun K hK => ?_) AllReadyH.nil))
      · go_simp
        go_at_call 40
        refine (W3.out _ (by repeat (first | exact Ext.refl _ | refine Ext.drewN ?_ _ | refine Ext.drew ?_ | refine Ext.alloc ?_ _))).mono ?_
        rintro e w' ⟨rfl, qq, rfl⟩
        go_wp2_with fail
        refine hK.out _ _ ⟨Ext.cell (by repeat (first | exact Ext.refl _ | refine Ext.drewN ?_ _ | refine Ext.drew ?_ | refine Ext.alloc ?_ _)) hcs, Ext.cell (by repeat (first | exact Ext.refl _ | refine Ext.drewN ?_ _ | refine Ext.drew ?_ | refine Ext.alloc ?_ _)) hc0⟩ (fun hHeld => ?_)
        clear hK K
        (try simp only [Act.put, List.setIfInBounds_toArray, List.set_cons_zero, List.set_cons_succ])
        refine wpAnyH_ready (rs := [9, 19]) (by kernel_rfl) (by simp) (AllReadyH.cons (drop_get rfl) (fun K hK => ?_) (AllReadyH.cons (drop_get rfl) (fun K hK => ?_) AllReadyH.nil))
        · go_simp
          go_at_call 40
          refine (W5.out _ (by repeat (first | exact Ext.refl _ | refine Ext.drewN ?_ _ | refine Ext.drew ?_ | refine Ext.alloc ?_ _))).mono ?_
          rintro e w' ⟨rfl, qq, rfl⟩
          go_wp2_with fail
          refine hK.out _ _ ⟨Ext.cell (by repeat (first | exact Ext.refl _ | refine Ext.drewN ?_ _ | refine Ext.drew ?_ | refine Ext.alloc ?_ _)) hcs, Ext.cell (by repeat (first | exact Ext.refl _ | refine Ext.drewN ?_ _ | refine Ext.drew ?_ | refine Ext.alloc ?_ _)) hc0⟩ (fun hHeld => ?_)
          clear hK K
          (try simp only [Act.put, List.setIfInBounds_toArray, List.set_cons_zero, List.set_cons_succ])
          refine wpAnyH_ready (rs := [11, 19]) (by kernel_rfl) (by simp) (AllReadyH.cons (drop_get rfl) (fun K hK => ?_) (AllReadyH.cons (drop_get rfl) (fun K hK => ?_) AllReadyH.nil))
          · go_simp
            go_at_call 40
            refine (W7.out _ (by repeat (first | exact Ext.refl _ | refine Ext.drewN ?_ _ | refine Ext.drew ?_ | refine Ext.alloc ?_ _))).mono ?_
            rintro e w' ⟨rfl, qq, rfl⟩
            go_wp2_with fail
            refine hK.out _ _ ⟨Ext.cell (by repeat (first | exact Ext.refl _ | refine Ext.drewN ?_ _ | refine Ext.drew ?_ | refine Ext.alloc ?_ _)) hcs, Ext.cell (by repeat (first | exact Ext.refl _ | refine Ext.drewN ?_ _ | refine Ext.drew ?_ | refine Ext.alloc ?_ _)) hc0⟩ (fun hHeld => ?_)
            clear hK K
            (try simp only [Act.put, List.setIfInBounds_toArray, List.set_cons_zero, List.set_cons_succ])
            refine wpAnyH_ready (rs := [14, 19]) (by kernel_rfl) (by simp) (AllReadyH.cons (drop_get rfl) (fun K hK => ?_) (AllReadyH.cons (drop_get rfl) (fun K hK => ?_) AllReadyH.nil))
            · go_simp
              go_at_call 41
              refine (N9.out _ (by repeat (first | exact Ext.refl _ | refine Ext.drewN ?_ _ | refine Ext.drew ?_ | refine Ext.alloc ?_ _))).mono ?_
              rintro e w' ⟨rfl, rfl⟩
              go_wp2_with fail
              refine hK.out _ _ ⟨Ext.cell (by repeat (first | exact Ext.refl _ | refine Ext.drewN ?_ _ | refine Ext.drew ?_ | refine Ext.alloc ?_ _)) hcs, Ext.cell (by repeat (first | exact Ext.refl _ | refine Ext.drewN ?_ _ | refine Ext.drew ?_ | refine Ext.alloc ?_ _)) hc0⟩ (fun hHeld => ?_)
              clear hK K
              (try simp only [Act.put, List.setIfInBounds_toArray, List.set_cons_zero, List.set_cons_succ])
              refine wpAnyH_ready (rs := [17, 19]) (by kernel_rfl) (by simp) (AllReadyH.cons (drop_get rfl) (fun K hK => ?_) (AllReadyH.cons (drop_get rfl) (fun K hK => ?_) AllReadyH.nil))
              · go_simp
                go_at_call 41
                refine (N34.out _ (by repeat (first | exact Ext.refl _ | refine Ext.drewN ?_ _ | refine Ext.drew ?_ | refine Ext.alloc ?_ _))).mono ?_
                rintro e w' ⟨rfl, rfl⟩
                go_wp2_with fail
                refine hK.out _ _ ⟨Ext.cell (by repeat (first | exact Ext.refl _ | refine Ext.drewN ?_ _ | refine Ext.drew ?_ | refine Ext.alloc ?_ _)) hcs, Ext.cell (by repeat (first | exact Ext.refl _ | refine Ext.drewN ?_ _ | refine Ext.drew ?_ | refine Ext.alloc ?_ _)) hc0⟩ (fun hHeld => ?_)
                clear hK K
                (try simp only [Act.put, List.setIfInBounds_toArray, List.set_cons_zero, List.set_cons_succ])
                refine held_take 18 rfl (by kernel_rfl) (by kernel_rfl) (by kernel_rfl) (fun _ _ _ _ h => h) (by rfl) ?_ ?_ (by assumption) ?_
                rotate_left
                · (intro wx hSx; (try dsimp only at hSx); go_simp)
                  all_goals with_reducible rfl
                (try simp only [Act.put, List.setIfInBounds_toArray, List.set_cons_zero, List.set_cons_succ])
                refine held_call 19 rfl (by kernel_rfl) (fun K hK => ?_)
                go_simp
                refine hK.out _ _ ⟨Ext.cell (by repeat (first | exact Ext.refl _ | refine Ext.drewN ?_ _ | refine Ext.drew ?_ | refine Ext.alloc ?_ _)) hcs, Ext.cell (by repeat (first | exact Ext.refl _ | refine Ext.drewN ?_ _ | refine Ext.drew ?_ | refine Ext.alloc ?_ _)) hc0⟩ (fun hHeld => ?_)
                clear hK K
                (try simp only [Act.put, List.setIfInBounds_toArray, List.set_cons_zero, List.set_cons_succ])
                refine held_call 20 rfl (by kernel_rfl) (fun K hK => ?_)
                refine step_storeAt rfl 23 (.tmp 7) (.tmp 37) rfl w3.heap.size 0 7 7 w3.heap.size 23 (rV zR) (rV ((b0 : Int) == 1, (wN bs 1 : Nat), (wN bs 3 : Nat), (wN bs 5 : Nat), (wN bs 7 : Nat), strN (nmL bs 9), strN (nmL bs 34))) rfl rfl (by first | exact hZ _ | exact (hZ _).ext ((Ext.refl _).drewN _) | exact hZd | exact hZd.ext ((Ext.refl _).drewN _)) (by simp [rV]) (rV_one _) info_rec ?_
                intro w9 hR9 hG9
                have hX9 : Ext w3 w9 := Ext.grown (by repeat (first | exact Ext.refl _ | refine Ext.drewN ?_ _ | refine Ext.drew ?_ | refine Ext.alloc ?_ _)) hG9 (fun q hq => by simp at hq; omega)
                refine hK.out _ _ ⟨hX9.cell hcs, hX9.cell hc0⟩ (fun hHeld => ?_)
                clear hK K
                refine wpAnyH_done (by kernel_rfl) ?_ _
                go_wp2_with fail
                go_meet
                exact RecAt.intro hx0 hR9 hX9
              · go_simp
                refine hK.out _ _ ⟨Ext.cell (by repeat (first | exact Ext.refl _ | refine Ext.drewN ?_ _ | refine Ext.drew ?_ | refine Ext.alloc ?_ _)) hcs, Ext.cell (by repeat (first | exact Ext.refl _ | refine Ext.drewN ?_ _ | refine Ext.drew ?_ | refine Ext.alloc ?_ _)) hc0⟩ (fun hHeld => ?_)
                clear hK K
                (try simp only [Act.put, List.setIfInBounds_toArray, List.set_cons_zero, List.set_cons_succ])
                refine held_call 17 rfl (by kernel_rfl) (fun K hK => ?_)
                go_simp
                go_at_call 41
                refine (N34.out _ (by repeat (first | exact Ext.refl _ | refine Ext.drewN ?_ _ | refine Ext.drew ?_ | refine Ext.alloc ?_ _))).mono ?_
                rintro e w' ⟨rfl, rfl⟩
                go_wp2_with fail
                refine hK.out _ _ ⟨Ext.cell (by repeat (first | exact Ext.refl _ | refine Ext.drewN ?_ _ | refine Ext.drew ?_ | refine Ext.alloc ?_ _)) hcs, Ext.cell (by repeat (first | exact Ext.refl _ | refine Ext.drewN ?_ _ | refine Ext.drew ?_ | refine Ext.alloc ?_ _)) hc0⟩ (fun hHeld => ?_)
                clear hK K
                (try simp only [Act.put, List.setIfInBounds_toArray, List.set_cons_zero, List.set_cons_succ])
                refine held_take 18 rfl (by kernel_rfl) (by kernel_rfl) (by kernel_rfl) (fun _ _ _ _ h => h) (by rfl) ?_ ?_ (by assumption) ?_
                rotate_left
                · (intro wx hSx; (try dsimp only at hSx); go_simp)
                  all_goals with_reducible rfl
                (try simp only [Act.put, List.setIfInBounds_toArray, List.set_cons_zero, List.set_cons_succ])
                refine held_call 20 rfl (by kernel_rfl) (fun K hK => ?_)
                refine step_storeAt rfl 23 (.tmp 7) (.tmp 37) rfl w3.heap.size 0 7 7 w3.heap.size 23 (rV zR) (rV ((b0 : Int) == 1, (wN bs 1 : Nat), (wN bs 3 : Nat), (wN bs 5 : Nat), (wN bs 7 : Nat), strN (nmL bs 9), strN (nmL bs 34))) rfl rfl (by first | exact hZ _ | exact (hZ _).ext ((Ext.refl _).drewN _) | exact hZd | exact hZd.ext ((Ext.refl _).drewN _)) (by simp [rV]) (rV_one _) info_rec ?_
                intro w9 hR9 hG9
                have hX9 : Ext w3 w9 := Ext.grown (by repeat (first | exact Ext.refl _ | refine Ext.drewN ?_ _ | refine Ext.drew ?_ | refine Ext.alloc ?_ _)) hG9 (fun q hq => by simp at hq; omega)
                refine hK.out _ _ ⟨hX9.cell hcs, hX9.cell hc0⟩ (fun hHeld => ?_)
                clear hK K
                refine wpAnyH_done (by kernel_rfl) ?_ _
                go_wp2_with fail
                go_meet
                exact RecAt.intro hx0 hR9 hX9
            · go_simp
              refine hK.out _ _ ⟨Ext.cell (by repeat (first | exact Ext.refl _ | refine Ext.drewN ?_ _ | refine Ext.drew ?_ | refine Ext.alloc ?_ _)) hcs, Ext.cell (by repeat (first | exact Ext.refl _ | refine Ext.drewN ?_ _ | refine Ext.drew ?_ | refine Ext.alloc ?_ _)) hc0⟩ (fun hHeld => ?_)
              clear hK K
              (try simp only [Act.put, List.setIfInBounds_toArray, List.set_cons_zero, List.set_cons_succ])
              refine held_call 14 rfl (by kernel_rfl) (fun K hK => ?_)
              go_simp
              go_at_call 41
              refine (N9.out _ (by repeat (first | exact Ext.refl _ | refine Ext.drewN ?_ _ | refine Ext.drew ?_ | refine Ext.alloc ?_ _))).mono ?_
              rintro e w' ⟨rfl, rfl⟩
              go_wp2_with fail
              refine hK.out _ _ ⟨Ext.cell (by repeat (first | exact Ext.refl _ | refine Ext.drewN ?_ _ | refine Ext.drew ?_ | refine Ext.alloc ?_ _)) hcs, Ext.cell (by repeat (first | exact Ext.refl _ | refine Ext.drewN ?_ _ | refine Ext.drew ?_ | refine Ext.alloc ?_ _)) hc0⟩ (fun hHeld => ?_)
              clear hK K
              (try simp only [Act.put, List.setIfInBounds_toArray, List.set_cons_zero, List.set_cons_succ])
              refine held_call 17 rfl (by kernel_rfl) (fun K hK => ?_)
              go_simp
              go_at_call 41
              refine (N34.out _ (by repeat (first | exact Ext.refl _ | refine Ext.drewN ?_ _ | refine Ext.drew ?_ | refine Ext.alloc ?_ _))).mono ?_
              rintro e w' ⟨rfl, rfl⟩
              go_wp2_with fail
              refine hK.out _ _ ⟨Ext.cell (by repeat (first | exact Ext.refl _ | refine Ext.drewN ?_ _ | refine Ext.drew ?_ | refine Ext.alloc ?_ _)) hcs, Ext.cell (by repeat (first | exact Ext.refl _ | refine Ext.drewN ?_ _ | refine Ext.drew ?_ | refine Ext.alloc ?_ _)) hc0⟩ (fun hHeld => ?_)
              clear hK K
              (try simp only [Act.put, List.setIfInBounds_toArray, List.set_cons_zero, List.set_cons_succ])
              refine held_take 18 rfl (by kernel_rfl) (by kernel_rfl) (by kernel_rfl) (fun _ _ _ _ h => h) (by rfl) ?_ ?_ (by assumption) ?_
              rotate_left
              · (intro wx hSx; (try dsimp only at hSx); go_simp)
                all_goals with_reducible rfl
              (try simp only [Act.put, List.setIfInBounds_toArray, List.set_cons_zero, List.set_cons_succ])
              refine held_call 20 rfl (by kernel_rfl) (fun K hK => ?_)
              refine step_storeAt rfl 23 (.tmp 7) (.tmp 37) rfl w3.heap.size 0 7 7 w3.heap.size 23 (rV zR) (rV ((b0 : Int) == 1, (wN bs 1 : Nat), (wN bs 3 : Nat), (wN bs 5 : Nat), (wN bs 7 : Nat), strN (nmL bs 9), strN (nmL bs 34))) rfl rfl (by first | exact hZ _ | exact (hZ _).ext ((Ext.refl _).drewN _) | exact hZd | exact hZd.ext ((Ext.refl _).drewN _)) (by simp [rV]) (rV_one _) info_rec ?_
              intro w9 hR9 hG9
              have hX9 : Ext w3 w9 := Ext.grown (by repeat (first | exact Ext.refl _ | refine Ext.drewN ?_ _ | refine Ext.drew ?_ | refine Ext.alloc ?_ _)) hG9 (fun q hq => by simp at hq; omega)
              refine hK.out _ _ ⟨hX9.cell hcs, hX9.cell hc0⟩ (fun hHeld => ?_)
              clear hK K
              refine wpAnyH_done (by kernel_rfl) ?_ _
              go_wp2_with fail
              go_meet
              exact RecAt.intro hx0 hR9 hX9
          · go_simp
            refine hK.out _ _ ⟨Ext.cell (by repeat (first | exact Ext.refl _ | refine Ext.drewN ?_ _ | refine Ext.drew ?_ | refine Ext.alloc ?_ _)) hcs, Ext.cell (by repeat (first | exact Ext.refl _ | refine Ext.drewN ?_ _ | refine Ext.drew ?_ | refine Ext.alloc ?_ _)) hc0⟩ (fun hHeld => ?_)
            clear hK K
            (try simp only [Act.put, List.setIfInBounds_toArray, List.set_cons_zero, List.set_cons_succ])
            refine held_call 11 rfl (by kernel_rfl) (fun K hK => ?_)
            go_simp
            go_at_call 40
            refine (W7.out _ (by repeat (first | exact Ext.refl _ | refine Ext.drewN ?_ _ | refine Ext.drew ?_ | refine Ext.alloc ?_ _))).mono ?_
            rintro e w' ⟨rfl, qq, rfl⟩
            go_wp2_with fail
            refine hK.out _ _ ⟨Ext.cell (by repeat (first | exact Ext.refl _ | refine Ext.drewN ?_ _ | refine Ext.drew ?_ | refine Ext.alloc ?_ _)) hcs, Ext.cell (by repeat (first | exact Ext.refl _ | refine Ext.drewN ?_ _ | refine Ext.drew ?_ | refine Ext.alloc ?_ _)) hc0⟩ (fun hHeld => ?_)
            clear hK K
            (try simp only [Act.put, List.setIfInBounds_toArray, List.set_cons_zero, List.set_cons_succ])
            refine held_call 14 rfl (by kernel_rfl) (fun K hK => ?_)
            go_simp
            go_at_call 41
            refine (N9.out _ (by repeat (first | exact Ext.refl _ | refine Ext.drewN ?_ _ | refine Ext.drew ?_ | refine Ext.alloc ?_ _))).mono ?_
            rintro e w' ⟨rfl, rfl⟩
            go_wp2_with fail
            refine hK.out _ _ ⟨Ext.cell (by repeat (first | exact Ext.refl _ | refine Ext.drewN ?_ _ | refine Ext.drew ?_ | refine Ext.alloc ?_ _)) hcs, Ext.cell (by repeat (first | exact Ext.refl _ | refine Ext.drewN ?_ _ | refine Ext.drew ?_ | refine Ext.alloc ?_ _)) hc0⟩ (fun hHeld => ?_)
            clear hK K
            (try simp only [Act.put, List.setIfInBounds_toArray, List.set_cons_zero, List.set_cons_succ])
            refine held_call 17 rfl (by kernel_rfl) (fun K hK => ?_)
            go_simp
            go_at_call 41
            refine (N34.out _ (by repeat (first | exact Ext.refl _ | refine Ext.drewN ?_ _ | refine Ext.drew ?_ | refine Ext.alloc ?_ _))).mono ?_
            rintro e w' ⟨rfl, rfl⟩
            go_wp2_with fail
            refine hK.out _ _ ⟨Ext.cell (by repeat (first | exact Ext.refl _ | refine Ext.drewN ?_ _ | refine Ext.drew ?_ | refine Ext.alloc ?_ _)) hcs, Ext.cell (by repeat (first | exact Ext.refl _ | refine Ext.drewN ?_ _ | refine Ext.drew ?_ | refine Ext.alloc ?_ _)) hc0⟩ (fun hHeld => ?_)
            clear hK K
            (try simp only [Act.put, List.setIfInBounds_toArray, List.set_cons_zero, List.set_cons_succ])
            refine held_take 18 rfl (by kernel_rfl) (by kernel_rfl) (by kernel_rfl) (fun _ _ _ _ h => h) (by rfl) ?_ ?_ (by assumption) ?_
            rotate_left
            · (intro wx hSx; (try dsimp only at hSx); go_simp)
              all_goals with_reducible rfl
            (try simp only [Act.put, List.setIfInBounds_toArray, List.set_cons_zero, List.set_cons_succ])
            refine held_call 20 rfl (by kernel_rfl) (fun K hK => ?_)
            refine step_storeAt rfl 23 (.tmp 7) (.tmp 37) rfl w3.heap.size 0 7 7 w3.heap.size 23 (rV zR) (rV ((b0 : Int) == 1, (wN bs 1 : Nat), (wN bs 3 : Nat), (wN bs 5 : Nat), (wN bs 7 : Nat), strN (nmL bs 9), strN (nmL bs 34))) rfl rfl (by first | exact hZ _ | exact (hZ _).ext ((Ext.refl _).drewN _) | exact hZd | exact hZd.ext ((Ext.refl _).drewN _)) (by simp [rV]) (rV_one _) info_rec ?_
            intro w9 hR9 hG9
            have hX9 : Ext w3 w9 := Ext.grown (by repeat (first | exact Ext.refl _ | refine Ext.drewN ?_ _ | refine Ext.drew ?_ | refine Ext.alloc ?_ _)) hG9 (fun q hq => by simp at hq; omega)
            refine hK.out _ _ ⟨hX9.cell hcs, hX9.cell hc0⟩ (fun hHeld => ?_)
            clear hK K
            refine wpAnyH_done (by kernel_rfl) ?_ _
            go_wp2_with fail
            go_meet
            exact RecAt.intro hx0 hR9 hX9
        · go_simp
          refine hK.out _ _ ⟨Ext.cell (by repeat (first | exact Ext.refl _ | refine Ext.drewN ?_ _ | refine Ext.drew ?_ | refine Ext.alloc ?_ _)) hcs, Ext.cell (by repeat (first | exact Ext.refl _ | refine Ext.drewN ?_ _ | refine Ext.drew ?_ | refine Ext.alloc ?_ _)) hc0⟩ (fun hHeld => ?_)
          clear hK K
          (try simp only [Act.put, List.setIfInBounds_toArray, List.set_cons_zero, List.set_cons_succ])
          refine held_call 9 rfl (by kernel_rfl) (fun K hK => ?_)
          go_simp
          go_at_call 40
          refine (W5.out _ (by repeat (first | exact Ext.refl _ | refine Ext.drewN ?_ _ | refine Ext.drew ?_ | refine Ext.alloc ?_ _))).mono ?_
          rintro e w' ⟨rfl, qq, rfl⟩
          go_wp2_with fail
          refine hK.out _ _ ⟨Ext.cell (by repeat (first | exact Ext.refl _ | refine Ext.drewN ?_ _ | refine Ext.drew ?_ | refine Ext.alloc ?_ _)) hcs, Ext.cell (by repeat (first | exact Ext.refl _ | refine Ext.drewN ?_ _ | refine Ext.drew ?_ | refine Ext.alloc ?_ _)) hc0⟩ (fun hHeld => ?_)
          clear hK K
          (try simp only [Act.put, List.setIfInBounds_toArray, List.set_cons_zero, List.set_cons_succ])
          refine held_call 11 rfl (by kernel_rfl) (fun K hK => ?_)
          go_simp
          go_at_call 40
          refine (W7.out _ (by repeat (first | exact Ext.refl _ | refine Ext.drewN ?_ _ | refine Ext.drew ?_ | refine Ext.alloc ?_ _))).mono ?_
          rintro e w' ⟨rfl, qq, rfl⟩
          go_wp2_with fail
          refine hK.out _ _ ⟨Ext.cell (by repeat (first | exact Ext.refl _ | refine Ext.drewN ?_ _ | refine Ext.drew ?_ | refine Ext.alloc ?_ _)) hcs, Ext.cell (by repeat (first | exact Ext.refl _ | refine Ext.drewN ?_ _ | refine Ext.drew ?_ | refine Ext.alloc ?_ _)) hc0⟩ (fun hHeld => ?_)
          clear hK K
          (try simp only [Act.put, List.setIfInBounds_toArray, List.set_cons_zero, List.set_cons_succ])
          refine held_call 14 rfl (by kernel_rfl) (fun K hK => ?_)
          go_simp
          go_at_call 41
          refine (N9.out _ (by repeat (first | exact Ext.refl _ | refine Ext.drewN ?_ _ | refine Ext.drew ?_ | refine Ext.alloc ?_ _))).mono ?_
          rintro e w' ⟨rfl, rfl⟩
          go_wp2_with fail
          refine hK.out _ _ ⟨Ext.cell (by repeat (first | exact Ext.refl _ | refine Ext.drewN ?_ _ | refine Ext.drew ?_ | refine Ext.alloc ?_ _)) hcs, Ext.cell (by repeat (first | exact Ext.refl _ | refine Ext.drewN ?_ _ | refine Ext.drew ?_ | refine Ext.alloc ?_ _)) hc0⟩ (fun hHeld => ?_)
          clear hK K
          (try simp only [Act.put, List.setIfInBounds_toArray, List.set_cons_zero, List.set_cons_succ])
          refine held_call 17 rfl (by kernel_rfl) (fun K hK => ?_)
          go_simp
          go_at_call 41
          refine (N34.out _ (by repeat (first | exact Ext.refl _ | refine Ext.drewN ?_ _ | refine Ext.drew ?_ | refine Ext.alloc ?_ _))).mono ?_
          rintro e w' ⟨rfl, rfl⟩
          go_wp2_with fail
          refine hK.out _ _ ⟨Ext.cell (by repeat (first | exact Ext.refl _ | refine Ext.drewN ?_ _ | refine Ext.drew ?_ | refine Ext.alloc ?_ _)) hcs, Ext.cell (by repeat (first | exact Ext.refl _ | refine Ext.drewN ?_ _ | refine Ext.drew ?_ | refine Ext.alloc ?_ _)) hc0⟩ (fun hHeld => ?_)
          clear hK K
          (try simp only [Act.put, List.setIfInBounds_toArray, List.set_cons_zero, List.set_cons_succ])
          refine held_take 18 rfl (by kernel_rfl) (by kernel_rfl) (by kernel_rfl) (fun _ _ _ _ h => h) (by rfl) ?_ ?_ (by assumption) ?_
          rotate_left
          · (intro wx hSx; (try dsimp only at hSx); go_simp)
            all_goals with_reducible rfl
          (try simp only [Act.put, List.setIfInBounds_toArray, List.set_cons_zero, List.set_cons_succ])
          refine held_call 20 rfl (by kernel_rfl) (fun K hK => ?_)
          refine step_storeAt rfl 23 (.tmp 7) (.tmp 37) rfl w3.heap.size 0 7 7 w3.heap.size 23 (rV zR) (rV ((b0 : Int) == 1, (wN bs 1 : Nat), (wN bs 3 : Nat), (wN bs 5 : Nat), (wN bs 7 : Nat), strN (nmL bs 9), strN (nmL bs 34))) rfl rfl (by first | exact hZ _ | exact (hZ _).ext ((Ext.refl _).drewN _) | exact hZd | exact hZd.ext ((Ext.refl _).drewN _)) (by simp [rV]) (rV_one _) info_rec ?_
          intro w9 hR9 hG9
          have hX9 : Ext w3 w9 := Ext.grown (by repeat (first | exact Ext.refl _ | refine Ext.drewN ?_ _ | refine Ext.drew ?_ | refine Ext.alloc ?_ _)) hG9 (fun q hq => by simp at hq; omega)
          refine hK.out _ _ ⟨hX9.cell hcs, hX9.cell hc0⟩ (fun hHeld => ?_)
          clear hK K
          refine wpAnyH_done (by kernel_rfl) ?_ _
          go_wp2_with fail
          go_meet
          exact RecAt.intro hx0 hR9 hX9
      · go_simp
        refine hK.out _ _ ⟨Ext.cell (by repeat (first | exact Ext.refl _ | refine Ext.drewN ?_ _ | refine Ext.drew ?_ | refine Ext.alloc ?_ _)) hcs, Ext.cell (by repeat (first | exact Ext.refl _ | refine Ext.drewN ?_ _ | refine Ext.drew ?_ | refine Ext.alloc ?_ _)) hc0⟩ (fun hHeld => ?_)
        clear hK K
        (try simp only [Act.put, List.setIfInBounds_toArray, List.set_cons_zero, List.set_cons_succ])
        refine held_call 7 rfl (by kernel_rfl) (fun K hK => ?_)
        go_simp
        go_at_call 40
        refine (W3.out _ (by repeat (first | exact Ext.refl _ | refine Ext.drewN ?_ _ | refine Ext.drew ?_ | refine Ext.alloc ?_ _))).mono ?_
        rintro e w' ⟨rfl, qq, rfl⟩
        go_wp2_with fail
        refine hK.out _ _ ⟨Ext.cell (by repeat (first | exact Ext.refl _ | refine Ext.drewN ?_ _ | refine Ext.drew ?_ | refine Ext.alloc ?_ _)) hcs, Ext.cell (by repeat (first | exact Ext.refl _ | refine Ext.drewN ?_ _ | refine Ext.drew ?_ | refine Ext.alloc ?_ _)) hc0⟩ (fun hHeld => ?_)
        clear hK K
        (try simp only [Act.put, List.setIfInBounds_toArray, List.set_cons_zero, List.set_cons_succ])
        refine held_call 9 rfl (by kernel_rfl) (fun K hK => ?_)
        go_simp
        go_at_call 40
        refine (W5.out _ (by repeat (first | exact Ext.refl _ | refine Ext.drewN ?_ _ | refine Ext.drew ?_ | refine Ext.alloc ?_ _))).mono ?_
        rintro e w' ⟨rfl, qq, rfl⟩
        go_wp2_with fail
        refine hK.out _ _ ⟨Ext.cell (by repeat (first | exact Ext.refl _ | refine Ext.drewN ?_ _ | refine Ext.drew ?_ | refine Ext.alloc ?_ _)) hcs, Ext.cell (by repeat (first | exact Ext.refl _ | refine Ext.drewN ?_ _ | refine Ext.drew ?_ | refine Ext.alloc ?_ _)) hc0⟩ (fun hHeld => ?_)
        clear hK K
        (try simp only [Act.put, List.setIfInBounds_toArray, List.set_cons_zero, List.set_cons_succ])
        refine held_call 11 rfl (by kernel_rfl) (fun K hK => ?_)
        go_simp
        go_at_call 40
        refine (W7.out _ (by repeat (first | exact Ext.refl _ | refine Ext.drewN ?_ _ | refine Ext.drew ?_ | refine Ext.alloc ?_ _))).mono ?_
        rintro e w' ⟨rfl, qq, rfl⟩
        go_wp2_with fail
        refine hK.out _ _ ⟨Ext.cell (by repeat (first | exact Ext.refl _ | refine Ext.drewN ?_ _ | refine Ext.drew ?_ | refine Ext.alloc ?_ _)) hcs, Ext.cell (by repeat (first | exact Ext.refl _ | refine Ext.drewN ?_ _ | refine Ext.drew ?_ | refine Ext.alloc ?_ _)) hc0⟩ (fun hHeld => ?_)
        clear hK K
        (try simp only [Act.put, List.setIfInBounds_toArray, List.set_cons_zero, List.set_cons_succ])
        refine held_call 14 rfl (by kernel_rfl) (fun K hK => ?_)
        go_simp
        go_at_call 41
        refine (N9.out _ (by repeat (first | exact Ext.refl _ | refine Ext.drewN ?_ _ | refine Ext.drew ?_ | refine Ext.alloc ?_ _))).mono ?_
        rintro e w' ⟨rfl, rfl⟩
        go_wp2_with fail
        refine hK.out _ _ ⟨Ext.cell (by repeat (first | exact Ext.refl _ | refine Ext.drewN ?_ _ | refine Ext.drew ?_ | refine Ext.alloc ?_ _)) hcs, Ext.cell (by repeat (first | exact Ext.refl _ | refine Ext.drewN ?_ _ | refine Ext.drew ?_ | refine Ext.alloc ?_ _)) hc0⟩ (fun hHeld => ?_)
        clear hK K
        (try simp only [Act.put, List.setIfInBounds_toArray, List.set_cons_zero, List.set_cons_succ])
        refine held_call 17 rfl (by kernel_rfl) (fun K hK => ?_)
        go_simp
        go_at_call 41
        refine (N34.out _ (by repeat (first | exact Ext.refl _ | refine Ext.drewN ?_ _ | refine Ext.drew ?_ | refine Ext.alloc ?_ _))).mono ?_
        rintro e w' ⟨rfl, rfl⟩
        go_wp2_with fail
        refine hK.out _ _ ⟨Ext.cell (by repeat (first | exact Ext.refl _ | refine Ext.drewN ?_ _ | refine Ext.drew ?_ | refine Ext.alloc ?_ _)) hcs, Ext.cell (by repeat (first | exact Ext.refl _ | refine Ext.drewN ?_ _ | refine Ext.drew ?_ | refine Ext.alloc ?_ _)) hc0⟩ (fun hHeld => ?_)
        clear hK K
        (try simp only [Act.put, List.setIfInBounds_toArray, List.set_cons_zero, List.set_cons_succ])
        refine held_take 18 rfl (by kernel_rfl) (by kernel_rfl) (by kernel_rfl) (fun _ _ _ _ h => h) (by rfl) ?_ ?_ (by assumption) ?_
        rotate_left
        · (intro wx hSx; (try dsimp only at hSx); go_simp)
          all_goals with_reducible rfl
        (try simp only [Act.put, List.setIfInBounds_toArray, List.set_cons_zero, List.set_cons_succ])
        refine held_call 20 rfl (by kernel_rfl) (fun K hK => ?_)
        refine step_storeAt rfl 23 (.tmp 7) (.tmp 37) rfl w3.heap.size 0 7 7 w3.heap.size 23 (rV zR) (rV ((b0 : Int) == 1, (wN bs 1 : Nat), (wN bs 3 : Nat), (wN bs 5 : Nat), (wN bs 7 : Nat), strN (nmL bs 9), strN (nmL bs 34))) rfl rfl (by first | exact hZ _ | exact (hZ _).ext ((Ext.refl _).drewN _) | exact hZd | exact hZd.ext ((Ext.refl _).drewN _)) (by simp [rV]) (rV_one _) info_rec ?_
        intro w9 hR9 hG9
        have hX9 : Ext w3 w9 := Ext.grown (by repeat (first | exact Ext.refl _ | refine Ext.drewN ?_ _ | refine Ext.drew ?_ | refine Ext.alloc ?_ _)) hG9 (fun q hq => by simp at hq; omega)
        refine hK.out _ _ ⟨hX9.cell hcs, hX9.cell hc0⟩ (fun hHeld => ?_)
        clear hK K
        refine wpAnyH_done (by kernel_rfl) ?_ _
        go_wp2_with fail
        go_meet
        exact RecAt.intro hx0 hR9 hX9
    · go_simp
      refine hK.out _ _ ⟨Ext.cell (by repeat (first | exact Ext.refl _ | refine Ext.drewN ?_ _ | refine Ext.drew ?_ | refine Ext.alloc ?_ _)) hcs, Ext.cell (by repeat (first | exact Ext.refl _ | refine Ext.drewN ?_ _ | refine Ext.drew ?_ | refine Ext.alloc ?_ _)) hc0⟩ (fun hHeld => ?_)
      clear hK K
      (try simp only [Act.put, List.setIfInBounds_toArray, List.set_cons_zero, List.set_cons_succ])
      refine held_call 5 rfl (by kernel_rfl) (fun K hK => ?_)
      go_simp
      go_at_call 40
      refine (W1.out _ (by repeat (first | exact Ext.refl _ | refine Ext.drewN ?_ _ | refine Ext.drew ?_ | refine Ext.alloc ?_ _))).mono ?_
      rintro e w' ⟨rfl, qq, rfl⟩
      go_wp2_with fail
      refine hK.out _ _ ⟨Ext.cell (by repeat (first | exact Ext.refl _ | refine Ext.drewN ?_ _ | refine Ext.drew ?_ | refine Ext.alloc ?_ _)) hcs, Ext.cell (by repeat (first | exact Ext.refl _ | refine Ext.drewN ?_ _ | refine Ext.drew ?_ | refine Ext.alloc ?_ _)) hc0⟩ (fun hHeld => ?_)
      clear hK K
      (try simp only [Act.put, List.setIfInBounds_toArray, List.set_cons_zero, List.set_cons_succ])
      refine held_call 7 rfl (by kernel_rfl) (fun K hK => ?_)
      go_simp
      go_at_call 40
      refine (W3.out _ (by repeat (first | exact Ext.refl _ | refine Ext.drewN ?_ _ | refine Ext.drew ?_ | refine Ext.alloc ?_ _))).mono ?_
      rintro e w' ⟨rfl, qq, rfl⟩
      go_wp2_with fail
      refine hK.out _ _ ⟨Ext.cell (by repeat (first | exact Ext.refl _ | refine Ext.drewN ?_ _ | refine Ext.drew ?_ | refine Ext.alloc ?_ _)) hcs, Ext.cell (by repeat (first | exact Ext.refl _ | refine Ext.drewN ?_ _ | refine Ext.drew ?_ | refine Ext.alloc ?_ _)) hc0⟩ (fun hHeld => ?_)
      clear hK K
      (try simp only [Act.put, List.setIfInBounds_toArray, List.set_cons_zero, List.set_cons_succ])
      refine held_call 9 rfl (by kernel_rfl) (fun K hK => ?_)
      go_simp
      go_at_call 40
      refine (W5.out _ (by repeat (first | exact Ext.refl _ | refine Ext.drewN ?_ _ | refine Ext.drew ?_ | refine Ext.alloc ?_ _))).mono ?_
      rintro e w' ⟨rfl, qq, rfl⟩
      go_wp2_with fail
      refine hK.out _ _ ⟨Ext.cell (by repeat (first | exact Ext.refl _ | refine Ext.drewN ?_ _ | refine Ext.drew ?_ | refine Ext.alloc ?_ _)) hcs, Ext.cell (by repeat (first | exact Ext.refl _ | refine Ext.drewN ?_ _ | refine Ext.drew ?_ | refine Ext.alloc ?_ _)) hc0⟩ (fun hHeld => ?_)
      clear hK K
      (try simp only [Act.put, List.setIfInBounds_toArray, List.set_cons_zero, List.set_cons_succ])
      refine held_call 11 rfl (by kernel_rfl) (fun K hK => ?_)
      go_simp
      go_at_call 40
      refine (W7.out _ (by repeat (first | exact Ext.refl _ | refine Ext.drewN ?_ _ | refine Ext.drew ?_ | refine Ext.alloc ?_ _))).mono ?_
      rintro e w' ⟨rfl, qq, rfl⟩
      go_wp2_with fail
      refine hK.out _ _ ⟨Ext.cell (by repeat (first | exact Ext.refl _ | refine Ext.drewN ?_ _ | refine Ext.drew ?_ | refine Ext.alloc ?_ _)) hcs, Ext.cell (by repeat (first | exact Ext.refl _ | refine Ext.drewN ?_ _ | refine Ext.drew ?_ | refine Ext.alloc ?_ _)) hc0⟩ (fun hHeld => ?_)
      clear hK K
      (try simp only [Act.put, List.setIfInBounds_toArray, List.set_cons_zero, List.set_cons_succ])
      refine held_call 14 rfl (by kernel_rfl) (fun K hK => ?_)
      go_simp
      go_at_call 41
      refine (N9.out _ (by repeat (first | exact Ext.refl _ | refine Ext.drewN ?_ _ | refine Ext.drew ?_ | refine Ext.alloc ?_ _))).mono ?_
      rintro e w' ⟨rfl, rfl⟩
      go_wp2_with fail
      refine hK.out _ _ ⟨Ext.cell (by repeat (first | exact Ext.refl _ | refine Ext.drewN ?_ _ | refine Ext.drew ?_ | refine Ext.alloc ?_ _)) hcs, Ext.cell (by repeat (first | exact Ext.refl _ | refine Ext.drewN ?_ _ | refine Ext.drew ?_ | refine Ext.alloc ?_ _)) hc0⟩ (fun hHeld => ?_)
      clear hK K
      (try simp only [Act.put, List.setIfInBounds_toArray, List.set_cons_zero, List.set_cons_succ])
      refine held_call 17 rfl (by kernel_rfl) (fun K hK => ?_)
      go_simp
      go_at_call 41
      refine (N34.out _ (by repeat (first | exact Ext.refl _ | refine Ext.drewN ?_ _ | refine Ext.drew ?_ | refine Ext.alloc ?_ _))).mono ?_
      rintro e w' ⟨rfl, rfl⟩
      go_wp2_with fail
      refine hK.out _ _ ⟨Ext.cell (by repeat (first | exact Ext.refl _ | refine Ext.drewN ?_ _ | refine Ext.drew ?_ | refine Ext.alloc ?_ _)) hcs, Ext.cell (by repeat (first | exact Ext.refl _ | refine Ext.drewN ?_ _ | refine Ext.drew ?_ | refine Ext.alloc ?_ _)) hc0⟩ (fun hHeld => ?_)
      clear hK K
      (try simp only [Act.put, List.setIfInBounds_toArray, List.set_cons_zero, List.set_cons_succ])
      refine held_take 18 rfl (by kernel_rfl) (by kernel_rfl) (by kernel_rfl) (fun _ _ _ _ h => h) (by rfl) ?_ ?_ (by assumption) ?_
      rotate_left
      · (intro wx hSx; (try dsimp only at hSx); go_simp)
        all_goals with_reducible rfl
      (try simp only [Act.put, List.setIfInBounds_toArray, List.set_cons_zero, List.set_cons_succ])
      refine held_call 20 rfl (by kernel_rfl) (fun K hK => ?_)
      refine step_storeAt rfl 23 (.tmp 7) (.tmp 37) rfl w3.heap.size 0 7 7 w3.heap.size 23 (rV zR) (rV ((b0 : Int) == 1, (wN bs 1 : Nat), (wN bs 3 : Nat), (wN bs 5 : Nat), (wN bs 7 : Nat), strN (nmL bs 9), strN (nmL bs 34))) rfl rfl (by first | exact hZ _ | exact (hZ _).ext ((Ext.refl _).drewN _) | exact hZd | exact hZd.ext ((Ext.refl _).drewN _)) (by simp [rV]) (rV_one _) info_rec ?_
      intro w9 hR9 hG9
      have hX9 : Ext w3 w9 := Ext.grown (by repeat (first | exact Ext.refl _ | refine Ext.drewN ?_ _ | refine Ext.drew ?_ | refine Ext.alloc ?_ _)) hG9 (fun q hq => by simp at hq; omega)
      refine hK.out _ _ ⟨hX9.cell hcs, hX9.cell hc0⟩ (fun hHeld => ?_)
      clear hK K
      refine wpAnyH_done (by kernel_rfl) ?_ _
      go_wp2_with fail
      go_meet
      exact RecAt.intro hx0 hR9 hX9
  -- END
  case rest =>
    obtain ⟨rfl, hR5, hX5⟩ := hcut
    have hE5 := hE3.trans hX5
    have hR6 := hR1.ext hE5
    have hF5 := hE1.trans hE5
    have hx5 := h.ext hF5
    have hLay := fun w => rec_Lay (rdR bs) w
    go_wp2_with (with_reducible refine ag_load rfl 23 (.tmp 7) rfl w3.heap.size 7 w3.heap.size 23 _ rfl hR5 agg_rec info_rec ?_)
    refine (hLay _).mono ?_
    rintro e w6 ⟨A5, n5, c5, rfl, hn5, hO6, hE6⟩
    have hR7 := hR6.ext hE6
    have hP7 := hR5.ext hE6
    have hF6 := hF5.trans hE6
    have bl := Bytes.layRL (rdR bs)
    have hx6 := hx5.ext hE6
    clear hLay hR6 hR5 hF5 hx5
    rcases layRE_or (rdR bs) with h0 | h2
    · rw [h0]
      by_cases heq : layRL (rdR bs) = xs
      · have HN := hide (HR.out.1 (HRD.out.2 ⟨h0, heq⟩))
        have hd := decide_eq_true heq
        clear h0 heq
        go_wp2_with fail
        refine (BEqual _ _ _ _ _ _ _ xs _ hO6.sl hx6 bl hb).mono ?_
        rintro e w8 ⟨rfl, rfl⟩
        rw [hd]
        go_wp2_with (first
          | (with_reducible refine ag_load rfl 23 (.tmp 7) rfl w3.heap.size 7 w3.heap.size 23 _ rfl hP7 agg_rec info_rec ?_)
          | (with_reducible refine ag_store (o := ⟨none, _, _, _, _, _⟩) rfl 23 (.tmp 2) (.tmp 52) rfl w.heap.size 7 w.heap.size 23 _ (rV (rdR bs)) rfl rfl hR7 rfl (rV_one _) info_rec ?_; intro w7 hR8 hG7; have hF7 := hF6.grown hG7 (by simp)))
        rw [HN.out.1, HN.out.2]
        exact bodyPost_ret (results_agg rfl _ rfl rfl hR8 agg_rec info_rec) rfl ⟨rfl, hF7⟩
      · have HN := hide (HR.out.2 (fun h => heq (HRD.out.1 h).2))
        have hd := decide_eq_false heq
        clear h0 heq
        go_wp2_with fail
        refine (BEqual _ _ _ _ _ _ _ xs _ hO6.sl hx6 bl hb).mono ?_
        rintro e w8 ⟨rfl, rfl⟩
        rw [hd]
        go_wp2_with (first
          | (with_reducible refine ag_zero rfl 23 rfl _ (bld_rec _) ?_)
          | (with_reducible refine ag_store (o := ⟨none, _, _, _, _, _⟩) rfl 23 (.tmp 2) (.tmp 51) rfl w.heap.size 7 w.heap.size 23 _ (rV zR) rfl rfl hR7 rfl (rV_one _) info_rec ?_; intro w7 hR8 hG7; have hF7 := hF6.grown hG7 (by simp)))
        rw [HN.out.1, HN.out.2]
        exact bodyPost_ret (results_agg rfl _ rfl rfl hR8 agg_rec info_rec) rfl ⟨rfl, hF7⟩
    · have HN := hide (HR.out.2 (fun h => by rw [(HRD.out.1 h).1] at h2; cases h2))
      rw [h2]
      clear h2
      go_wp2_with (first
        | (with_reducible refine ag_zero rfl 23 rfl _ (bld_rec _) ?_)
        | (with_reducible refine ag_store (o := ⟨none, _, _, _, _, _⟩) rfl 23 (.tmp 2) (.tmp 51) rfl w.heap.size 7 w.heap.size 23 _ (rV zR) rfl rfl hR7 rfl (rV_one _) info_rec ?_; intro w7 hR8 hG7; have hF7 := hF6.grown hG7 (by simp)))
      rw [HN.out.1, HN.out.2]
      exact bodyPost_ret (results_agg rfl _ rfl rfl hR8 agg_rec info_rec) rfl ⟨rfl, hF7⟩
end Go.Proofs.Ytngffmchjjpfbaa
