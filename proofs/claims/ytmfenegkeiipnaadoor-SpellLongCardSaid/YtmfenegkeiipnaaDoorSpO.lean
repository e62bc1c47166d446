/- Lines of operations: what every program answers that is one. -/
import Derived.Test.YtmfenegkeiipnaaDoorSpN
namespace Go.Proofs.YtmfenegkeiipnaaDoor
set_option linter.unusedVariables false
set_option linter.unusedSimpArgs false
open Go.RowKit

def seekOp : Opp := ⟨7, 0, 1, -3, 0, [], [], []⟩
def mkOp : Opp := ⟨9, 0, 0, 0, 0, [47, 97], [], []⟩
def seekL : L8 := [115, 101, 101, 107, 32, 110, 61, 49, 32, 111, 102, 102, 61, 45, 51]
def keesL : L8 := [115, 101, 101, 107, 32, 111, 102, 102, 61, 45, 51, 32, 110, 61, 49]
theorem itoa_1 : Lib.itoa 1 = [49] := by unfold Lib.itoa; rw [if_neg (by decide), Lib.decDigits, dif_pos (by decide)]; rfl
theorem itoa_m3 : Lib.itoa (-3) = [45, 51] := by unfold Lib.itoa; rw [if_pos (by decide), Lib.decDigits, dif_pos (by decide)]; rfl
theorem say_seek : sayL seekOp = seekL := by
  rw [say_some (by decide) (by decide)]
  unfold fieldsL numF seekOp
  simp only
  rw [itoa_1, itoa_m3]
  decide
theorem say_mk : sayL mkOp = [109, 107, 100, 105, 114, 32, 112, 97, 116, 104, 61, 50, 102, 54, 49] := by
  rw [say_some (by decide) (by decide)]
  unfold fieldsL numF mkOp
  simp only
  decide
theorem read_seek : readS seekL = some seekOp := by
  rw [← say_seek]
  exact read_say _ ⟨by unfold InR; decide, by unfold InR; decide, by unfold InR; decide, by unfold InR; decide⟩ (by decide) (by decide)
theorem read_kees : readS keesL = none := by
  have h : spb keesL = [115, 101, 101, 107] :: [[111, 102, 102, 61, 45, 51], [110, 61, 49]] := by decide
  have h2 : foldS (start keesL) [[111, 102, 102, 61, 45, 51], [110, 61, 49]] = some seekOp := by rfl
  rw [readS_eq h, h2]
  simp only
  rw [if_pos]
  right
  rw [say_seek]
  decide
theorem say_noOp : sayL noOp = [] := by unfold sayL; rw [if_pos (Or.inl (by decide))]
theorem Opp.Ok.noOp' : noOp.Ok := start_ok [] |> fun _ => ⟨by unfold InR noOp; decide, by unfold InR noOp; decide, by unfold InR noOp; decide, by unfold InR noOp; decide⟩
theorem Opp.Sm.noOp' : noOp.Sm := by unfold Opp.Sm noOp; simp
theorem bld_mk (w : World) : (Instr.build 24 #[(0, .int .i64 9), (5, .string ⟨#[47, 97]⟩)]).run Tryd.prog w = .ok (.agg (opL mkOp none 0 0).toArray) w := by kernel_rfl
theorem DatA.none {w : World} {B n c : Nat} {l : L8} (h : DatA w B none n c l) : n = 0 ∧ c = 0 := by
  rcases h with ⟨_, h1, h2, _⟩ | ⟨g, fz, cs, h1, _⟩
  · exact ⟨h1, h2⟩
  · cases h1
set_option maxRecDepth 100000 in
set_option maxHeartbeats 4000000 in
theorem law25_awake (w : World) (hL : Laid w) : Calls Tryd.prog 7 #[] w fun e w' => e = .returned (.bool true) ∧ Ext w w' := by
  go_enter Tryd.func7, Tryd.ntmps7
  go_wp2_with fail
  refine (f_Read keesL w (by decide) hL).mono ?_
  rintro e w1 ⟨o1, A1, n1, c1, er1, rfl, hE1, hD1, hcase⟩
  rw [read_kees] at hcase
  rcases hcase with ⟨h, _⟩ | ⟨_, rfl, rfl, rfl⟩
  · cases h
  obtain ⟨rfl, rfl⟩ := hD1.none
  rw [← opL_arr]
  go_wp2_with (first
    | (with_reducible refine ag_alloc (o := ⟨some 1, _, _, _, _, _⟩) rfl 24 rfl _ 8 zero_op (opL_len _ _ _ _) (by omega) (opL_one noOp none 0 0) w1.heap.size (Nat.le_refl _) ?_; intro w2 hO2 hE2 hz2)
    | (with_reducible refine ag_store (o := ⟨none, _, _, _, _, _⟩) rfl 24 (.tmp 1) (.tmp 7) rfl w1.heap.size 8 w1.heap.size 24 _ (opL noOp none 0 0) rfl rfl hO2 (opL_len _ _ _ _) (opL_one _ _ _ _) info_op ?_; intro w3 hO3 hG3))
  have hE3 : Ext w1 w3 := hE2.grown hG3 (fun k hk => by cases hk; exact Nat.le_refl _)
  refine (f_Read seekL w3 (by decide) (hL.ext (hE1.trans hE3))).mono ?_
  rintro e w4 ⟨o2, A2, n2, c2, er2, rfl, hE4, hD4, hcase⟩
  rw [read_seek] at hcase
  have hcase2 : o2 = seekOp ∧ er2 = 0 := by
    rcases hcase with ⟨h, h2⟩ | ⟨h, _⟩
    · exact ⟨(Option.some.inj h).symm, h2⟩
    · cases h
  obtain ⟨rfl, rfl⟩ := hcase2
  rw [← opL_arr]
  go_wp2_with (first
    | (with_reducible refine ag_alloc (o := ⟨some 3, _, _, _, _, _⟩) rfl 24 rfl _ 8 zero_op (opL_len _ _ _ _) (by omega) (opL_one noOp none 0 0) w4.heap.size (Nat.le_refl _) ?_; intro w5 hO5 hE5 hz5)
    | (with_reducible refine ag_store (o := ⟨none, _, _, _, _, _⟩) rfl 24 (.tmp 3) (.tmp 11) rfl w4.heap.size 8 w4.heap.size 24 _ (opL seekOp A2 n2 c2) rfl rfl hO5 (opL_len _ _ _ _) (opL_one _ _ _ _) info_op ?_; intro w6 hO6 hG6)
    | (with_reducible refine ag_build rfl 24 _ rfl _ (bld_mk _) ?_))
  have hE6 : Ext w4 w6 := hE5.grown hG6 (fun k hk => by cases hk; exact Nat.le_refl _)
  have hE06 := hE1.trans (hE3.trans (hE4.trans hE6))
  have HD4 := hide (hD4.ext hE6).sl
  have hO7 := hO3.ext (hE4.trans hE6)
  clear hcase hD1 hD4 hE2 hG3 hE5 hG6 hO5 hO2
  refine (f_Say mkOp none 0 0 w6 (hL.ext hE06) ⟨by unfold InR; decide, by unfold InR; decide, by unfold InR; decide, by unfold InR; decide⟩ (by unfold InR; decide) (by unfold Opp.Sm; decide) (Sl.nilS _)).mono ?_
  rintro e w7 ⟨rfl, hE7⟩
  rw [say_mk]
  have e1 : ((toB [109, 107, 100, 105, 114, 32, 112, 97, 116, 104, 61, 50, 102, 54, 49]).toList == [109, 107, 100, 105, 114, 32, 112, 97, 116, 104, 61, 50, 102, 54, 49]) = true := by rw [toB_list]; decide
  have hO8 := hO7.ext hE7
  have hP8 := hO6.ext hE7
  generalize toB [109, 107, 100, 105, 114, 32, 112, 97, 116, 104, 61, 50, 102, 54, 49] = sm at *
  go_wp2_with (first
    | (with_reducible refine ag_load rfl 24 (.tmp 1) rfl w1.heap.size 8 w1.heap.size 24 _ rfl hO8 agg_op info_op ?_)
    | (with_reducible refine ag_zero rfl 24 rfl _ (bld_op _) ?_))
  refine (f_SameOp noOp noOp none none 0 0 0 0 w7 (Sl.nilS _) (Sl.nilS _)).mono ?_
  rintro e w8 ⟨rfl, hE8⟩
  rw [show sameB noOp noOp = true from sameB_iff.2 rfl]
  have hP9 := hP8.ext hE8
  have k3 := hP9.cellAt 3 (by omega)
  have k2 := hP9.cellAt 2 (by omega)
  simp only [opL, List.getElem?_cons_zero, List.getElem?_cons_succ] at k2 k3
  rw [show seekOp.off = -3 from rfl] at k3
  rw [show seekOp.n = 1 from rfl] at k2
  go_wp2_with (first
    | (with_reducible refine ag_load rfl 24 (.tmp 3) rfl w4.heap.size 8 w4.heap.size 24 _ rfl hP9 agg_op info_op ?_))
  refine (f_Same seekOp seekOp A2 A2 n2 c2 n2 c2 w8 (HD4.out.ext (hE7.trans hE8)) (HD4.out.ext (hE7.trans hE8))).mono ?_
  rintro e w9 ⟨rfl, hE9⟩
  rw [show sameB seekOp seekOp = true from sameB_iff.2 rfl]
  have hE09 := hE06.trans (hE7.trans (hE8.trans hE9))
  go_wp2_with (first
    | (with_reducible refine ag_zero rfl 24 rfl _ (bld_op _) ?_))
  refine (f_Say noOp none 0 0 w9 (hL.ext hE09) ⟨by unfold InR; decide, by unfold InR; decide, by unfold InR; decide, by unfold InR; decide⟩ (by unfold InR; decide) (by unfold Opp.Sm; decide) (Sl.nilS _)).mono ?_
  rintro e w10 ⟨rfl, hE10⟩
  rw [say_noOp]
  have e2 : (toB []).toList.isEmpty = true := by rw [toB_list]; rfl
  go_wp2_with fail
  go_ret
  exact ⟨rfl, hE09.trans hE10⟩
end Go.Proofs.YtmfenegkeiipnaaDoor
