/- The statements on records: what every program answers. -/
import Derived.Test.YtngffmchjjpfbaaRecP
namespace Go.Proofs.Ytngffmchjjpfbaa
set_option linter.unusedVariables false
open Go.RowKit

def r10 : Rec := (true, 1, 2, 3, 0, ⟨#[97]⟩, ⟨#[98]⟩)
def r11 : Rec := (true, 0, 0, 0, 0, ByteArray.empty, ByteArray.empty)
theorem may10 : mayR r10 = true := by decide +kernel
theorem may11 : mayR r11 = false := by decide +kernel
theorem may0 : mayR zR = true := by decide +kernel
theorem rec_shape {X : List Value} (h : Shape [.bool, .int .i64, .int .i64, .int .i64, .int .i64, .string, .string] X) : ∃ r : Rec, X = rV r := by
  match X, h with
  | [v0, v1, v2, v3, v4, v5, v6], h =>
    have c0 := h.2 0 _ _ rfl rfl
    have c1 := h.2 1 _ _ rfl rfl
    have c2 := h.2 2 _ _ rfl rfl
    have c3 := h.2 3 _ _ rfl rfl
    have c4 := h.2 4 _ _ rfl rfl
    have c5 := h.2 5 _ _ rfl rfl
    have c6 := h.2 6 _ _ rfl rfl
    cases v0 <;> simp only [cellIs] at c0
    cases v1 <;> simp only [cellIs] at c1
    cases v2 <;> simp only [cellIs] at c2
    cases v3 <;> simp only [cellIs] at c3
    cases v4 <;> simp only [cellIs] at c4
    cases v5 <;> simp only [cellIs] at c5
    cases v6 <;> simp only [cellIs] at c6
    subst c1 c2 c3 c4
    exact ⟨(_, _, _, _, _, _, _), rfl⟩
theorem Lay_rec (r : Rec) (h : mayR r = true) (w : World) : Calls Try.prog 11 #[.agg (rV r).toArray] w fun e w' => ∃ A' c', e = .returned (.tuple #[.slice A' 128 c', .int .i64 0]) ∧ Own w' w.heap.size 5 A' 128 c' (by8 (layRL r)) ∧ Ext w w' :=
  (rec_Lay r w).mono (by
    rintro e w' ⟨A', n', c', rfl, hn, hO, hE⟩
    have hl := hO.len
    obtain ⟨_, e2, e3⟩ := layRL_good h
    rw [by8_len, e3] at hl
    rw [e2]
    subst hl
    exact ⟨A', c', rfl, hO, hE⟩)
theorem Lay_recN (r : Rec) (h : mayR r = false) (w : World) : Calls Try.prog 11 #[.agg (rV r).toArray] w fun e w' => ∃ A' c', e = .returned (.tuple #[.slice A' 0 c', .int .i64 2]) ∧ Own w' w.heap.size 5 A' 0 c' (by8 (layRL r)) ∧ Ext w w' :=
  (rec_Lay r w).mono (by
    rintro e w' ⟨A', n', c', rfl, hn, hO, hE⟩
    have hl := hO.len
    obtain ⟨e1, e2⟩ := layRL_bad h
    rw [by8_len, e1] at hl
    rw [e2]
    obtain rfl : 0 = n' := hl
    exact ⟨A', c', rfl, hO, hE⟩)
theorem bld10 (w : World) : (Instr.build 23 #[(0, .bool true), (1, .int .i64 1), (2, .int .i64 2), (3, .int .i64 3), (5, .string ⟨#[97]⟩), (6, .string ⟨#[98]⟩)]).run Try.prog w = .ok (.agg (rV r10).toArray) w := by kernel_rfl
theorem bld11 (w : World) : (Instr.build 23 #[(0, .bool true)]).run Try.prog w = .ok (.agg (rV r11).toArray) w := by kernel_rfl
set_option maxRecDepth 100000 in
set_option maxHeartbeats 2000000 in
theorem law10_awake (w : World) : Calls Try.prog 9 #[] w fun e w' => e = .returned (.bool true) ∧ Ext w w' := by
  have x1 := fun w => Lay_rec r10 may10 w
  have x2 := fun A n c w h hb => rec_Read A n c (layRL r10) w h hb
  rw [(readR_laid may10).1, (readR_laid may10).2] at x2
  have x3 := fun w => rec_Read none 0 0 [] w (Sl.nilS w) Bytes.nil
  rw [readR_nil.1, readR_nil.2] at x3
  have hbb := Bytes.layRL r10
  have heq := fun w => eq_rec r10 r10 w
  rw [decide_eq_true rfl] at heq
  have x4 := fun w => rec_May zR w
  have x5 := fun w => rec_May r11 w
  rw [may0] at x4
  rw [may11] at x5
  have X4 := hide x4
  have X5 := hide x5
  have hF := Ext.refl w
  clear x4 x5
  go_enter Try.func9, Try.ntmps9
  go_wp2_with (first
    | (refine ag_build (o := ⟨some 8, _, _, _, _, _⟩) rfl 23 _ rfl _ (bld10 _) ?_)
    | (with_reducible refine ag_alloc (o := ⟨some 1, _, _, _, _, _⟩) rfl 23 rfl _ 7 zero_rec rfl (by omega) (rV_one zR) w.heap.size (Nat.le_refl _) ?_; intro w1 hR1 hE1 hz1; replace hF := hF.trans hE1)
    | (with_reducible refine ag_store (o := ⟨none, _, _, _, _, _⟩) rfl 23 (.tmp 1) (.tmp 8) rfl w.heap.size 7 w.heap.size 23 _ (rV r10) rfl rfl hR1 rfl (rV_one _) info_rec ?_; intro w2 hB hG2; replace hF := hF.grown hG2 (by simp))
    | (with_reducible refine ag_load rfl 23 (.tmp 1) rfl w.heap.size 7 w.heap.size 23 _ rfl hB agg_rec info_rec ?_))
  refine (x1 _).mono ?_
  rintro e w3 ⟨A1, c1, rfl, hO1, hE3⟩
  replace hB := hB.ext hE3
  replace hF := hF.trans hE3
  go_wp2_with fail
  refine (x2 _ _ _ _ hO1.sl hbb).mono ?_
  rintro e w4 ⟨rfl, hE4⟩
  replace hB := hB.ext hE4
  replace hF := hF.trans hE4
  go_wp2_with (first
    | (with_reducible refine ag_alloc (o := ⟨some 4, _, _, _, _, _⟩) rfl 23 rfl _ 7 zero_rec rfl (by omega) (rV_one zR) w4.heap.size (Nat.le_refl _) ?_; intro w5 hR5 hE5 hz5)
    | (with_reducible refine ag_store (o := ⟨none, _, _, _, _, _⟩) rfl 23 (.tmp 4) (.tmp 17) rfl w4.heap.size 7 w4.heap.size 23 _ (rV r10) rfl rfl hR5 rfl (rV_one _) info_rec ?_; intro w6 hC hG6
       replace hB := hB.ext (hE5.grown hG6 (by simp))
       replace hF := hF.trans (hE5.grown hG6 (by simp))))
  refine (x3 _).mono ?_
  rintro e w7 ⟨rfl, hE7⟩
  replace hB := hB.ext hE7
  replace hC := hC.ext hE7
  replace hF := hF.trans hE7
  go_wp2_with (first
    | (with_reducible refine ag_alloc (o := ⟨some 6, _, _, _, _, _⟩) rfl 23 rfl _ 7 zero_rec rfl (by omega) (rV_one zR) w7.heap.size (Nat.le_refl _) ?_; intro w8 hR8 hE8 hz8)
    | (with_reducible refine ag_store (o := ⟨none, _, _, _, _, _⟩) rfl 23 (.tmp 6) (.tmp 21) rfl w7.heap.size 7 w7.heap.size 23 _ (rV zR) rfl rfl hR8 rfl (rV_one _) info_rec ?_; intro w9 hD hG9
       replace hB := hB.ext (hE8.grown hG9 (by simp))
       replace hC := hC.ext (hE8.grown hG9 (by simp))
       replace hF := hF.trans (hE8.grown hG9 (by simp)))
    | (with_reducible refine ag_load rfl 23 (.tmp 4) rfl w4.heap.size 7 w4.heap.size 23 _ rfl hC agg_rec info_rec ?_)
    | (with_reducible refine ag_load rfl 23 (.tmp 1) rfl w.heap.size 7 w.heap.size 23 _ rfl hB agg_rec info_rec ?_)
    | (with_reducible refine ag_zero (o := ⟨some 44, _, _, _, _, _⟩) rfl 23 rfl _ (bld_rec _) ?_))
  refine (X4.out _).mono ?_
  rintro e w10 ⟨rfl, hE10⟩
  go_wp2_with (refine ag_build (o := ⟨some 48, _, _, _, _, _⟩) rfl 23 _ rfl _ (bld11 _) ?_)
  refine (X5.out _).mono ?_
  rintro e w11 ⟨rfl, hE11⟩
  go_wp2_with fail
  go_ret
  exact ⟨rfl, hF.trans (hE10.trans hE11)⟩
end Go.Proofs.Ytngffmchjjpfbaa
