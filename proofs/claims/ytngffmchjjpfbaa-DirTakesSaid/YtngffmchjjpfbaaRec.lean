/- Records: plain mathematics, and whether one may be. -/
import Derived.Test.YtngffmchjjpfbaaName
import Derived.Test.YtngffmchjjpfbaaAgg2
import Derived.Test.YtngffmchjjpfbaaEq
import Derived.Test.YtngffmchjjpfbaaSeal
import Derived.Test.YtngffmchjjpfbaaPtr
import Derived.Deep.DeepCutAuto
namespace Go.Proofs.Ytngffmchjjpfbaa
set_option linter.unusedVariables false
open Go.RowKit

/-- A record: On, From, To, Ino, Old, the two names. -/
abbrev Rec := Bool × Int × Int × Int × Int × ByteArray × ByteArray
def rV (r : Rec) : List Value := [.bool r.1, .int .i64 r.2.1, .int .i64 r.2.2.1, .int .i64 r.2.2.2.1, .int .i64 r.2.2.2.2.1, .string r.2.2.2.2.2.1, .string r.2.2.2.2.2.2]
def zR : Rec := (false, 0, 0, 0, 0, ByteArray.empty, ByteArray.empty)
theorem rV_inj {r s : Rec} : rV r = rV s ↔ r = s := by
  obtain ⟨r1, r2, r3, r4, r5, r6, r7⟩ := r
  obtain ⟨s1, s2, s3, s4, s5, s6, s7⟩ := s
  simp [rV]
theorem rV_one (r : Rec) : ∀ u ∈ rV r, u.oneCell' = true := by
  intro u hu
  simp [rV] at hu
  rcases hu with rfl | rfl | rfl | rfl | rfl | rfl | rfl <;> rfl
/-- A number of two bytes that is not 0. -/
def inW (n : Int) : Bool := decide (1 ≤ n) && decide (n ≤ 65535)
def mayR (r : Rec) : Bool := decide (r = zR) || ((inW r.2.1 && (inW r.2.2.1 && inW r.2.2.2.1)) && (r.1 && (decide (0 ≤ r.2.2.2.2.1) && (decide (r.2.2.2.2.1 ≤ 65535) && (!(r.2.2.2.2.1 == r.2.2.2.1) && (okN r.2.2.2.2.2.1 && okN r.2.2.2.2.2.2))))))

theorem info_rec : (Try.prog.info? 23).map (·.size) = some 7 := by kernel_rfl
theorem agg_rec (w : World) : (isAgg 23).run Try.prog w = .ok true w := by kernel_rfl
theorem zero_rec : (Try.prog.info? 23).map (·.zero) = some (some (.agg (rV zR).toArray)) := by kernel_rfl
theorem bld_rec (w : World) : (Instr.build 23 #[]).run Try.prog w = .ok (.agg (rV zR).toArray) w := by kernel_rfl
theorem row_rec : isRowT Try.prog 23 = true := by kernel_rfl
theorem flat_rec : flatT Try.prog 10 23 = some [.bool, .int .i64, .int .i64, .int .i64, .int .i64, .string, .string] := by kernel_rfl
theorem shape_rec (r : Rec) : Shape [.bool, .int .i64, .int .i64, .int .i64, .int .i64, .string, .string] (rV r) := by
  refine ⟨rfl, fun i k v hk hv => ?_⟩
  have hi := (List.getElem?_eq_some_iff.1 hk).1
  simp at hi
  rcases (show i = 0 ∨ i = 1 ∨ i = 2 ∨ i = 3 ∨ i = 4 ∨ i = 5 ∨ i = 6 by omega) with rfl | rfl | rfl | rfl | rfl | rfl | rfl <;> (simp [rV] at hk hv; subst hk; subst hv; simp [cellIs])
theorem eq_rec (r s : Rec) (w : World) : (Op.equalIn 10000 23 (.agg (rV r).toArray) (.agg (rV s).toArray)).run Try.prog w = .ok (decide (r = s)) w := by
  have := @run_eql_flat Try.prog 10 23 _ flat_rec (by omega) row_rec w (rV r) (rV s) (shape_rec r) (shape_rec s) (decidable_of_iff (r = s) rV_inj.symm)
  rw [this]
  congr 1
  simp [rV_inj]
theorem lit3I (w : World) (g : Nat) (hg : g = w.heap.size) (a b c : Int) (e : TypeId) : Sl (w.alloc (.cells #[.int .i64 a, .int .i64 b, .int .i64 c] e)) (some ⟨g, 0, none⟩) 3 3 (i64s [a, b, c]) := by
  subst hg
  have := Sl.lit w #[.int .i64 a, .int .i64 b, .int .i64 c] e 3 rfl (by omega) (by simp [Value.oneCell'])
  simpa [i64s] using this

set_option maxHeartbeats 2000000 in
set_option maxRecDepth 100000 in
theorem rec_May (r : Rec) (w : World) : Calls Try.prog 16 #[.agg (rV r).toArray] w fun e w' => e = .returned (.bool (mayR r)) ∧ Ext w w' := by
  have heq := fun w1 => eq_rec r zR w1
  by_cases hz : r = zR
  · rw [decide_eq_true hz] at heq
    have HM := hide (show mayR r = true by unfold mayR; rw [decide_eq_true hz]; rfl)
    clear hz
    go_enter Try.func16, Try.ntmps16
    go_wp2_with (first
      | (with_reducible refine ag_box rfl 23 (.tmp 0) rfl _ 7 rfl rfl (by omega) (rV_one r) w.heap.size (Nat.le_refl _) ?_; intro w1 hB1 hE1 hz1)
      | (with_reducible refine ag_load rfl 23 (.tmp 1) rfl w.heap.size 7 w.heap.size 23 _ rfl hB1 agg_rec info_rec ?_)
      | (with_reducible refine ag_zero rfl 23 rfl _ (bld_rec _) ?_))
    go_ret
    exact ⟨ret_bool HM.out.symm, hE1⟩
  rw [decide_eq_false hz] at heq
  have hm : mayR r = ((inW r.2.1 && (inW r.2.2.1 && inW r.2.2.2.1)) && (r.1 && (decide (0 ≤ r.2.2.2.2.1) && (decide (r.2.2.2.2.1 ≤ 65535) && (!(r.2.2.2.2.1 == r.2.2.2.1) && (okN r.2.2.2.2.2.1 && okN r.2.2.2.2.2.2)))))) := by
    unfold mayR; rw [decide_eq_false hz]; rfl
  clear hz
  obtain ⟨on, f, t, i, o, a, b⟩ := r
  dsimp only at hm
  have HM := hide hm
  clear hm
  go_enter Try.func16, Try.ntmps16
  go_wp2_with (first
    | (with_reducible refine ag_box rfl 23 (.tmp 0) rfl _ 7 rfl rfl (by omega) (rV_one (on, f, t, i, o, a, b)) w.heap.size (Nat.le_refl _) ?_; intro w1 hB1 hE1 hz1
       have c0 : w1.cell? ⟨w.heap.size, 0, none⟩ = some (.bool on) := hB1.cellAt 0 (by omega)
       have c1 : w1.cell? ⟨w.heap.size, 1, none⟩ = some (.int .i64 f) := hB1.cellAt 1 (by omega)
       have c2 : w1.cell? ⟨w.heap.size, 2, none⟩ = some (.int .i64 t) := hB1.cellAt 2 (by omega)
       have c3 : w1.cell? ⟨w.heap.size, 3, none⟩ = some (.int .i64 i) := hB1.cellAt 3 (by omega)
       have c4 : w1.cell? ⟨w.heap.size, 4, none⟩ = some (.int .i64 o) := hB1.cellAt 4 (by omega)
       have c5 : w1.cell? ⟨w.heap.size, 5, none⟩ = some (.string a) := hB1.cellAt 5 (by omega)
       have c6 : w1.cell? ⟨w.heap.size, 6, none⟩ = some (.string b) := hB1.cellAt 6 (by omega))
    | (with_reducible refine ag_load rfl 23 (.tmp 1) rfl w.heap.size 7 w.heap.size 23 _ rfl hB1 agg_rec info_rec ?_)
    | (with_reducible refine ag_zero rfl 23 rfl _ (bld_rec _) ?_))
  have hE2 : Ext w (w1.alloc (.cells #[.int .i64 f, .int .i64 t, .int .i64 i] 3)) := hE1.alloc _
  have hE12 : Ext w1 (w1.alloc (.cells #[.int .i64 f, .int .i64 t, .int .i64 i] 3)) := (Ext.refl w1).alloc _
  have hL := lit3I w1 _ rfl f t i 3
  have l0 : (w1.alloc (.cells #[.int .i64 f, .int .i64 t, .int .i64 i] 3)).cell? ⟨w1.heap.size, 0, none⟩ = some (.int .i64 f) := by obtain ⟨_, _, h, hc⟩ := hL.cell 0 _ rfl; simp at h; obtain ⟨rfl, rfl⟩ := h; exact hc
  have l1 : (w1.alloc (.cells #[.int .i64 f, .int .i64 t, .int .i64 i] 3)).cell? ⟨w1.heap.size, 1, none⟩ = some (.int .i64 t) := by obtain ⟨_, _, h, hc⟩ := hL.cell 1 _ rfl; simp at h; obtain ⟨rfl, rfl⟩ := h; exact hc
  have l2 : (w1.alloc (.cells #[.int .i64 f, .int .i64 t, .int .i64 i] 3)).cell? ⟨w1.heap.size, 2, none⟩ = some (.int .i64 i) := by obtain ⟨_, _, h, hc⟩ := hL.cell 2 _ rfl; simp at h; obtain ⟨rfl, rfl⟩ := h; exact hc
  replace c0 := hE12.cell c0
  replace c3 := hE12.cell c3
  replace c4 := hE12.cell c4
  replace c5 := hE12.cell c5
  replace c6 := hE12.cell c6
  clear hE1 hB1 c1 c2 hL hE12
  generalize w1.alloc (.cells #[.int .i64 f, .int .i64 t, .int .i64 i] 3) = w2 at *
  go_loop [16] (fun j => ∃ k : Nat, k ≤ 3 ∧ j = .int .i64 k ∧ (1 ≤ k → inW f = true) ∧ (2 ≤ k → inW t = true) ∧ (3 ≤ k → inW i = true)) (fun j => 3 - (intOf j).toNat)
  case atStart => exact ⟨0, by omega, rfl, fun h => by omega, fun h => by omega, fun h => by omega⟩
  case round =>
    obtain ⟨k, hk, rfl, g0, g1, g2⟩ := hrel
    rcases (show k = 0 ∨ k = 1 ∨ k = 2 ∨ k = 3 by omega) with rfl | rfl | rfl | rfl
    · by_cases hw : inW f = true
      · have hw' : 1 ≤ f ∧ f ≤ 65535 := by simpa [inW] using hw
        have d1 : ¬ f < 1 := by omega
        have d2 : ¬ 65535 < f := by omega
        go_wp2_with fail
        go_round
        case rel => exact ⟨1, by omega, by go_num, fun _ => hw, fun h => by omega, fun h => by omega⟩
        case measure => simp [intOf]; try omega
      · have hw' : inW f = false := by simpa using hw
        have hx : f < 1 ∨ 65535 < f := by
          simp [inW] at hw
          omega
        have HN := hide (show mayR (on, f, t, i, o, a, b) = false by rw [HM.out, hw']; simp)
        clear hw hw'
        rcases hx with d1 | d2
        · go_wp2_with fail
          go_ret
          exact ⟨ret_bool HN.out.symm, hE2⟩
        · have d1 : ¬ f < 1 := by omega
          go_wp2_with fail
          go_ret
          exact ⟨ret_bool HN.out.symm, hE2⟩
    · by_cases hw : inW t = true
      · have hw' : 1 ≤ t ∧ t ≤ 65535 := by simpa [inW] using hw
        have d1 : ¬ t < 1 := by omega
        have d2 : ¬ 65535 < t := by omega
        go_wp2_with fail
        go_round
        case rel => exact ⟨2, by omega, by go_num, fun _ => g0 (by omega), fun _ => hw, fun h => by omega⟩
        case measure => simp [intOf]; try omega
      · have hw' : inW t = false := by simpa using hw
        have hx : t < 1 ∨ 65535 < t := by
          simp [inW] at hw
          omega
        have HN := hide (show mayR (on, f, t, i, o, a, b) = false by rw [HM.out, hw']; simp)
        clear hw hw'
        rcases hx with d1 | d2
        · go_wp2_with fail
          go_ret
          exact ⟨ret_bool HN.out.symm, hE2⟩
        · have d1 : ¬ t < 1 := by omega
          go_wp2_with fail
          go_ret
          exact ⟨ret_bool HN.out.symm, hE2⟩
    · by_cases hw : inW i = true
      · have hw' : 1 ≤ i ∧ i ≤ 65535 := by simpa [inW] using hw
        have d1 : ¬ i < 1 := by omega
        have d2 : ¬ 65535 < i := by omega
        go_wp2_with fail
        go_round
        case rel => exact ⟨3, by omega, by go_num, fun _ => g0 (by omega), fun _ => g1 (by omega), fun _ => hw⟩
        case measure => simp [intOf]; try omega
      · have hw' : inW i = false := by simpa using hw
        have hx : i < 1 ∨ 65535 < i := by
          simp [inW] at hw
          omega
        have HN := hide (show mayR (on, f, t, i, o, a, b) = false by rw [HM.out, hw']; simp)
        clear hw hw'
        rcases hx with d1 | d2
        · go_wp2_with fail
          go_ret
          exact ⟨ret_bool HN.out.symm, hE2⟩
        · have d1 : ¬ i < 1 := by omega
          go_wp2_with fail
          go_ret
          exact ⟨ret_bool HN.out.symm, hE2⟩
    · have g := And.intro (g0 (by omega)) (And.intro (g1 (by omega)) (g2 (by omega)))
      have HR := hide (show mayR (on, f, t, i, o, a, b) = (on && (decide (0 ≤ o) && (decide (o ≤ 65535) && (!(o == i) && (okN a && okN b))))) by rw [HM.out, g.1, g.2.1, g.2.2]; rfl)
      clear g0 g1 g2 g l0 l1 l2
      have n1 := fun w => dir_Name a w
      have n2 := fun w => dir_Name b w
      rcases on with _ | _
      · go_wp2_with (first
          | (go_at_call 27; with_reducible refine (n1 _).mono ?_; rintro e w3 ⟨rfl, hE3⟩; replace c6 := hE3.cell c6; replace hE2 := hE2.trans hE3)
          | (go_at_call 27; with_reducible refine (n2 _).mono ?_; rintro e w3 ⟨rfl, hE3⟩; replace hE2 := hE2.trans hE3))
        go_ret
        exact ⟨ret_bool (by rw [HR.out]; simp [*]), hE2⟩
      by_cases q1 : 0 ≤ o
      case neg =>
        go_wp2_with (first
          | (go_at_call 27; with_reducible refine (n1 _).mono ?_; rintro e w3 ⟨rfl, hE3⟩; replace c6 := hE3.cell c6; replace hE2 := hE2.trans hE3)
          | (go_at_call 27; with_reducible refine (n2 _).mono ?_; rintro e w3 ⟨rfl, hE3⟩; replace hE2 := hE2.trans hE3))
        go_ret
        exact ⟨ret_bool (by rw [HR.out, decide_eq_false (show ¬ 0 ≤ o by omega)]; simp), hE2⟩
      by_cases q2 : o ≤ 65535
      case neg =>
        go_wp2_with (first
          | (go_at_call 27; with_reducible refine (n1 _).mono ?_; rintro e w3 ⟨rfl, hE3⟩; replace c6 := hE3.cell c6; replace hE2 := hE2.trans hE3)
          | (go_at_call 27; with_reducible refine (n2 _).mono ?_; rintro e w3 ⟨rfl, hE3⟩; replace hE2 := hE2.trans hE3))
        go_ret
        exact ⟨ret_bool (by rw [HR.out, decide_eq_false (show ¬ o ≤ 65535 by omega)]; simp), hE2⟩
      cases q3 : (o == i)
      case true =>
        have q4 : o = i := by simpa using q3
        subst q4
        go_wp2_with (first
          | (go_at_call 27; with_reducible refine (n1 _).mono ?_; rintro e w3 ⟨rfl, hE3⟩; replace c6 := hE3.cell c6; replace hE2 := hE2.trans hE3)
          | (go_at_call 27; with_reducible refine (n2 _).mono ?_; rintro e w3 ⟨rfl, hE3⟩; replace hE2 := hE2.trans hE3))
        go_ret
        exact ⟨ret_bool (by rw [HR.out]; simp [*]), hE2⟩
      have q4 : ¬ o = i := by simpa using q3
      cases q5 : okN a
      · rw [q5] at n1
        go_wp2_with (first
          | (go_at_call 27; with_reducible refine (n1 _).mono ?_; rintro e w3 ⟨rfl, hE3⟩; replace c6 := hE3.cell c6; replace hE2 := hE2.trans hE3)
          | (go_at_call 27; with_reducible refine (n2 _).mono ?_; rintro e w3 ⟨rfl, hE3⟩; replace hE2 := hE2.trans hE3))
        go_ret
        exact ⟨ret_bool (by rw [HR.out]; simp [*]), hE2⟩
      · rw [q5] at n1
        generalize hbb : okN b = bb at n2
        go_wp2_with (first
          | (go_at_call 27; with_reducible refine (n1 _).mono ?_; rintro e w3 ⟨rfl, hE3⟩; replace c6 := hE3.cell c6; replace hE2 := hE2.trans hE3)
          | (go_at_call 27; with_reducible refine (n2 _).mono ?_; rintro e w3 ⟨rfl, hE3⟩; replace hE2 := hE2.trans hE3))
        go_ret
        exact ⟨ret_bool (by rw [HR.out]; simp [*]), hE2⟩
set_option maxHeartbeats 2000000 in
set_option maxRecDepth 100000 in
theorem ref10_May (r : Rec) (w : World) : Calls Try.prog 17 #[.agg (rV r).toArray] w fun e w' => e = .returned (.bool (mayR r)) ∧ Ext w w' := by
  have heq := fun w1 => eq_rec r zR w1
  by_cases hz : r = zR
  · rw [decide_eq_true hz] at heq
    have HM := hide (show mayR r = true by unfold mayR; rw [decide_eq_true hz]; rfl)
    clear hz
    go_enter Try.func17, Try.ntmps17
    go_wp2_with (first
      | (with_reducible refine ag_box rfl 23 (.tmp 0) rfl _ 7 rfl rfl (by omega) (rV_one r) w.heap.size (Nat.le_refl _) ?_; intro w1 hB1 hE1 hz1)
      | (with_reducible refine ag_load rfl 23 (.tmp 1) rfl w.heap.size 7 w.heap.size 23 _ rfl hB1 agg_rec info_rec ?_)
      | (with_reducible refine ag_zero rfl 23 rfl _ (bld_rec _) ?_))
    go_ret
    exact ⟨ret_bool HM.out.symm, hE1⟩
  rw [decide_eq_false hz] at heq
  have hm : mayR r = ((inW r.2.1 && (inW r.2.2.1 && inW r.2.2.2.1)) && (r.1 && (decide (0 ≤ r.2.2.2.2.1) && (decide (r.2.2.2.2.1 ≤ 65535) && (!(r.2.2.2.2.1 == r.2.2.2.1) && (okN r.2.2.2.2.2.1 && okN r.2.2.2.2.2.2)))))) := by
    unfold mayR; rw [decide_eq_false hz]; rfl
  clear hz
  obtain ⟨on, f, t, i, o, a, b⟩ := r
  dsimp only at hm
  have HM := hide hm
  clear hm
  have n1 := fun w => ref9_Name a w
  have n2 := fun w => ref9_Name b w
  go_enter Try.func17, Try.ntmps17
  go_upto_region 3 with (first
    | (with_reducible refine ag_box rfl 23 (.tmp 0) rfl _ 7 rfl rfl (by omega) (rV_one (on, f, t, i, o, a, b)) w.heap.size (Nat.le_refl _) ?_; intro w1 hB1 hE1 hz1
       have c0 : w1.cell? ⟨w.heap.size, 0, none⟩ = some (.bool on) := hB1.cellAt 0 (by omega)
       have c1 : w1.cell? ⟨w.heap.size, 1, none⟩ = some (.int .i64 f) := hB1.cellAt 1 (by omega)
       have c2 : w1.cell? ⟨w.heap.size, 2, none⟩ = some (.int .i64 t) := hB1.cellAt 2 (by omega)
       have c3 : w1.cell? ⟨w.heap.size, 3, none⟩ = some (.int .i64 i) := hB1.cellAt 3 (by omega)
       have c4 : w1.cell? ⟨w.heap.size, 4, none⟩ = some (.int .i64 o) := hB1.cellAt 4 (by omega)
       have c5 : w1.cell? ⟨w.heap.size, 5, none⟩ = some (.string a) := hB1.cellAt 5 (by omega)
       have c6 : w1.cell? ⟨w.heap.size, 6, none⟩ = some (.string b) := hB1.cellAt 6 (by omega))
    | (with_reducible refine ag_load rfl 23 (.tmp 1) rfl w.heap.size 7 w.heap.size 23 _ rfl hB1 agg_rec info_rec ?_)
    | (with_reducible refine ag_zero rfl 23 rfl _ (bld_rec _) ?_))
  clear hB1 heq
  rcases on with _ | _
  case false =>
    go_wp2_with (first
      | (go_at_call 28; with_reducible refine (n1 _).mono ?_; rintro e w3 ⟨rfl, rfl⟩)
      | (go_at_call 28; with_reducible refine (n2 _).mono ?_; rintro e w3 ⟨rfl, rfl⟩))
    go_ret
    exact ⟨ret_bool (by rw [HM.out]; simp), hE1⟩
  by_cases pf0 : 1 ≤ f
  case neg =>
    have hn : inW f = false := by unfold inW; rw [decide_eq_false (show ¬ 1 ≤ f by omega)]; simp
    go_wp2_with (first
      | (go_at_call 28; with_reducible refine (n1 _).mono ?_; rintro e w3 ⟨rfl, rfl⟩)
      | (go_at_call 28; with_reducible refine (n2 _).mono ?_; rintro e w3 ⟨rfl, rfl⟩))
    go_ret
    exact ⟨ret_bool (by rw [HM.out, hn]; simp), hE1⟩
  by_cases pf1 : f ≤ 65535
  case neg =>
    have hn : inW f = false := by unfold inW; rw [decide_eq_false (show ¬ f ≤ 65535 by omega)]; simp
    go_wp2_with (first
      | (go_at_call 28; with_reducible refine (n1 _).mono ?_; rintro e w3 ⟨rfl, rfl⟩)
      | (go_at_call 28; with_reducible refine (n2 _).mono ?_; rintro e w3 ⟨rfl, rfl⟩))
    go_ret
    exact ⟨ret_bool (by rw [HM.out, hn]; simp), hE1⟩
  by_cases pt0 : 1 ≤ t
  case neg =>
    have hn : inW t = false := by unfold inW; rw [decide_eq_false (show ¬ 1 ≤ t by omega)]; simp
    go_wp2_with (first
      | (go_at_call 28; with_reducible refine (n1 _).mono ?_; rintro e w3 ⟨rfl, rfl⟩)
      | (go_at_call 28; with_reducible refine (n2 _).mono ?_; rintro e w3 ⟨rfl, rfl⟩))
    go_ret
    exact ⟨ret_bool (by rw [HM.out, hn]; simp), hE1⟩
  by_cases pt1 : t ≤ 65535
  case neg =>
    have hn : inW t = false := by unfold inW; rw [decide_eq_false (show ¬ t ≤ 65535 by omega)]; simp
    go_wp2_with (first
      | (go_at_call 28; with_reducible refine (n1 _).mono ?_; rintro e w3 ⟨rfl, rfl⟩)
      | (go_at_call 28; with_reducible refine (n2 _).mono ?_; rintro e w3 ⟨rfl, rfl⟩))
    go_ret
    exact ⟨ret_bool (by rw [HM.out, hn]; simp), hE1⟩
  by_cases pi0 : 1 ≤ i
  case neg =>
    have hn : inW i = false := by unfold inW; rw [decide_eq_false (show ¬ 1 ≤ i by omega)]; simp
    go_wp2_with (first
      | (go_at_call 28; with_reducible refine (n1 _).mono ?_; rintro e w3 ⟨rfl, rfl⟩)
      | (go_at_call 28; with_reducible refine (n2 _).mono ?_; rintro e w3 ⟨rfl, rfl⟩))
    go_ret
    exact ⟨ret_bool (by rw [HM.out, hn]; simp), hE1⟩
  by_cases pi1 : i ≤ 65535
  case neg =>
    have hn : inW i = false := by unfold inW; rw [decide_eq_false (show ¬ i ≤ 65535 by omega)]; simp
    go_wp2_with (first
      | (go_at_call 28; with_reducible refine (n1 _).mono ?_; rintro e w3 ⟨rfl, rfl⟩)
      | (go_at_call 28; with_reducible refine (n2 _).mono ?_; rintro e w3 ⟨rfl, rfl⟩))
    go_ret
    exact ⟨ret_bool (by rw [HM.out, hn]; simp), hE1⟩
  by_cases po0 : 0 ≤ o
  case neg =>
    go_wp2_with (first
      | (go_at_call 28; with_reducible refine (n1 _).mono ?_; rintro e w3 ⟨rfl, rfl⟩)
      | (go_at_call 28; with_reducible refine (n2 _).mono ?_; rintro e w3 ⟨rfl, rfl⟩))
    go_ret
    exact ⟨ret_bool (by rw [HM.out, decide_eq_false (show ¬ 0 ≤ o by omega)]; simp), hE1⟩
  by_cases po1 : o ≤ 65535
  case neg =>
    go_wp2_with (first
      | (go_at_call 28; with_reducible refine (n1 _).mono ?_; rintro e w3 ⟨rfl, rfl⟩)
      | (go_at_call 28; with_reducible refine (n2 _).mono ?_; rintro e w3 ⟨rfl, rfl⟩))
    go_ret
    exact ⟨ret_bool (by rw [HM.out, decide_eq_false (show ¬ o ≤ 65535 by omega)]; simp), hE1⟩
  have hf : inW f = true := by unfold inW; rw [decide_eq_true pf0, decide_eq_true pf1]; rfl
  have ht : inW t = true := by unfold inW; rw [decide_eq_true pt0, decide_eq_true pt1]; rfl
  have hi : inW i = true := by unfold inW; rw [decide_eq_true pi0, decide_eq_true pi1]; rfl
  have hr : mayR (true, f, t, i, o, a, b) = (!(o == i) && (okN a && okN b)) := by rw [HM.out, hf, ht, hi, decide_eq_true po0, decide_eq_true po1]; rfl
  have HR := hide hr
  clear hr hf ht hi HM
  cases q3 : (o == i)
  case true =>
    have q4 : o = i := by simpa using q3
    subst q4
    go_wp2_with (first
      | (go_at_call 28; with_reducible refine (n1 _).mono ?_; rintro e w3 ⟨rfl, rfl⟩)
      | (go_at_call 28; with_reducible refine (n2 _).mono ?_; rintro e w3 ⟨rfl, rfl⟩))
    go_ret
    exact ⟨ret_bool (by rw [HR.out, q3]; rfl), hE1⟩
  have q4 : ¬ o = i := by simpa using q3
  cases q5 : okN a
  case false =>
    rw [q5] at n1
    go_wp2_with (first
      | (go_at_call 28; with_reducible refine (n1 _).mono ?_; rintro e w3 ⟨rfl, rfl⟩)
      | (go_at_call 28; with_reducible refine (n2 _).mono ?_; rintro e w3 ⟨rfl, rfl⟩))
    go_ret
    exact ⟨ret_bool (by rw [HR.out, q3, q5]; rfl), hE1⟩
  case true =>
    rw [q5] at n1
    generalize hbb : okN b = bb at n2
    go_wp2_with (first
      | (go_at_call 28; with_reducible refine (n1 _).mono ?_; rintro e w3 ⟨rfl, rfl⟩)
      | (go_at_call 28; with_reducible refine (n2 _).mono ?_; rintro e w3 ⟨rfl, rfl⟩))
    go_ret
    exact ⟨ret_bool (by rw [HR.out, q5, hbb]; rfl), hE1⟩
end Go.Proofs.Ytngffmchjjpfbaa
