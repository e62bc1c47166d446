/- The statements on inodes. -/
import Derived.Test.YthbdnaogjmnagaaInoP
namespace Go.Proofs.Ythbdnaogjmnagaa
set_option linter.unusedVariables false
open Go.RowKit

section
variable {P : Program} {w : World} {ops : Array Oper} {rest : List Oper} {o : Oper} {a : Act} {Q : Exit → Act → World → Prop}
/-- A part of a row, its values told. -/
theorem ag_loadIs (us : List Value) (hw : Region.wanted o (yielded ops a.tmps) = true) (t : TypeId) (x : Operand) (ho : o.op = .load t x) (g off k n c B e : Nat) (vs : List Value) (hu : us = (vs.drop off).take k)
    (hx : a.eval x = .pointer (some ⟨g, off, none⟩)) (hO : Own w B e (some ⟨g, 0, none⟩) n c vs) (hagg : ∀ w1, (isAgg t).run P w1 = .ok true w1) (hi : (P.info? t).map (·.size) = some k) (hk : off + k ≤ n)
    (h : wpList P ops Q rest (a.put o.dst (.agg us.toArray)) w) : wpList P ops Q (o :: rest) a w :=
  ag_loadAt hw t x ho g off k n c B e vs hx hO hagg hi hk (hu ▸ h)
end
def awk7 : List Int := zI ++ [1, 1, 300, 0, 0, 0, 0, 0, 0, 0, 0] ++ zI ++ zI
theorem awk7_all : allI awk7 4 := by decide
theorem aw_plc : (plc0 18 = 2 ∧ plc1 18 = 0 ∧ plc2 18 = 0) ∧ needI 300 = 3 := by decide
theorem aw_zero : i64s zI = ((i64s awk7).drop 0).take 11 := by rfl
theorem may_zero : decide (mayI zI) = true := by decide
theorem bld7a (w : World) : (Instr.build 48 #[(0, .int .i64 1), (1, .int .i64 1), (2, .int .i64 300)]).run Try.prog w = .ok (.agg (i64s [1, 1, 300, 0, 0, 0, 0, 0, 0, 0, 0]).toArray) w := by kernel_rfl
theorem bld7b (w : World) : (Instr.build 49 #[(1, .agg (i64s [1, 1, 300, 0, 0, 0, 0, 0, 0, 0, 0]).toArray)]).run Try.prog w = .ok (.agg (i64s awk7).toArray) w := by kernel_rfl
theorem aw_Lay (w : World) : Calls Try.prog 45 #[.agg (i64s awk7).toArray] w fun e w' => ∃ A' c', e = .returned (.tuple #[.slice A' 128 c', .int .i64 0]) ∧ Own w' w.heap.size 5 A' 128 c' (by8 (layIL awk7)) ∧ Ext w w' :=
  (inode_Lay awk7 rfl w).mono (by
    rintro e w' ⟨A', n', c', rfl, hn, hO, hE⟩
    have hl := hO.len
    have e1 := layIL_len (is := awk7) rfl awk7_all
    rw [by8_len, e1] at hl
    rw [layIE_zero.2 awk7_all]
    subst hl
    exact ⟨A', c', rfl, hO, hE⟩)
set_option maxRecDepth 100000 in
set_option maxHeartbeats 2000000 in
theorem law7_awake (w : World) : Calls Try.prog 43 #[] w fun e w' => e = .returned (.bool true) ∧ Ext w w' := by
  obtain ⟨⟨v0, v1, v2⟩, v3⟩ := aw_plc
  have x1 := fun w => inode_Place 18 w
  have x2 := fun w => inode_Need 300 (by omega) w
  rw [v0, v1, v2] at x1
  rw [v3] at x2
  have x4 := fun A n c w h hb => inode_Read A n c (layIL awk7) w h hb
  rw [(read_laid (is := awk7) rfl awk7_all).1, (read_laid (is := awk7) rfl awk7_all).2] at x4
  have hbb := Bytes.layIL awk7
  have heq := fun w => eq_inode zI zI rfl rfl w
  rw [decide_eq_true rfl] at heq
  have x5 := fun w => inode_May zI rfl w
  rw [may_zero] at x5
  have hF := Ext.refl w
  go_enter Try.func43, Try.ntmps43
  go_wp2_with fail
  refine (aw_Lay _).mono ?_
  rintro e w1 ⟨A1, c1, rfl, hO1, hE1⟩
  go_wp2_with fail
  refine (x4 _ _ _ _ hO1.sl hbb).mono ?_
  rintro e w2 ⟨rfl, hE2⟩
  go_wp2_with (first
    | (with_reducible refine ag_alloc (o := ⟨some 3, _, _, _, _, _⟩) rfl 49 rfl _ 44 zero_inodes rfl (by omega) (i64s_one _) w2.heap.size (Nat.le_refl _) ?_; intro w3 hR3 hE3 hz3)
    | (with_reducible refine ag_store (o := ⟨none, _, _, _, _, _⟩) rfl 49 (.tmp 3) (.tmp 17) rfl w2.heap.size 44 w2.heap.size 49 _ (i64s awk7) rfl rfl hR3 rfl (i64s_one _) info_inodes ?_; intro w4 hB hG4
       have hB13 : w4.cell? ⟨w2.heap.size, 13, none⟩ = some (.int .i64 300) := hB.atN 13 (by omega)
       replace hF : Ext w w4 := (hE1.trans (hE2.trans hE3)).grown hG4 (by simp; have := hE1.size; have := hE2.size; omega))
    | (go_at_call 49; refine (x1 _).mono ?_; rintro e w' ⟨rfl, rfl⟩)
    | (go_at_call 51; refine (x2 _).mono ?_; rintro e w' ⟨rfl, rfl⟩)
    | (with_reducible refine ag_loadIs (i64s zI) rfl 48 _ rfl w2.heap.size 0 11 44 44 w2.heap.size 49 _ aw_zero rfl hB agg_inode info_inode (by omega) ?_)
    | (with_reducible refine ag_zero rfl 48 rfl _ (bld_inode _) ?_))
  refine (x5 _).mono ?_
  rintro e w5 ⟨rfl, hE5⟩
  go_wp2_with fail
  go_ret
  exact ⟨rfl, hF.trans hE5⟩
end Go.Proofs.Ythbdnaogjmnagaa
