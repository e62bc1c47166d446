/- The statement ScoreShares: the walk. -/
import Derived.Test.YtillhbbeghbfeaaDoorSha
namespace Go.Proofs.YtillhbbeghbfeaaDoor
set_option linter.unusedVariables false
set_option linter.unusedSimpArgs false
open Go.RowKit

theorem f_ShareR (x y : Int) (r : Nat) (h : Ieee.double.div (floatOfInt .f64 x) (floatOfInt .f64 y) = some r) (w : World) : Calls Tryd.prog 13 #[.int .i64 x, .int .i64 y] w fun e w' => e = .returned (.float .f64 r) ∧ w = w' := by
  have hd := run_div h 24
  go_enter Tryd.func13, Tryd.ntmps13
  go_wp2_with fail
  go_ret
  exact ⟨rfl, rfl⟩
theorem f_IsInfP (w : World) : Calls Tryd.prog 14 #[.float .f64 9218868437227405312, .int .i64 1] w fun e w' => e = .returned (.bool true) ∧ w = w' := by
  have h2 : (FloatKind.f64.format.order 9218868437227405312 9218868437227405311 == some Ordering.gt) = true := by decide +kernel
  go_enter Tryd.func14, Tryd.ntmps14
  go_wp2_with fail
  go_ret
  exact ⟨rfl, rfl⟩
theorem f_IsInfM (w : World) : Calls Tryd.prog 14 #[.float .f64 18442240474082181120, .int .i64 (-1)] w fun e w' => e = .returned (.bool true) ∧ w = w' := by
  have h2 : (FloatKind.f64.format.order 9218868437227405312 9218868437227405311 == some Ordering.gt) = true := by decide +kernel
  have hn : ∀ w : World, (Op.unary UnOp.neg (Value.float .f64 18442240474082181120)).run Tryd.prog w = Result.ok (Value.float .f64 9218868437227405312) w := fun w => by kernel_rfl
  go_enter Tryd.func14, Tryd.ntmps14
  go_wp2_with fail
  go_ret
  exact ⟨rfl, rfl⟩
set_option maxRecDepth 100000 in
set_option maxHeartbeats 4000000 in
theorem law_ScoreShares (w : World) (htab : TabW w) (a : Int) (a1 : -9223372036854775808 ≤ a) (a2 : a ≤ 9223372036854775807) (b : Int) (b1 : -9223372036854775808 ≤ b) (b2 : b ≤ 9223372036854775807) :
    Calls Tryd.prog 3 #[.int .i64 a, .int .i64 b] w fun e w' => e = .returned (.bool true) ∧ Ext w w' := by
  have L1 := fun w => Low a 1000000 1000000 w rfl (by omega) (by omega)
  have L2 := fun w => Low b 1000000 1000000 w rfl (by omega) (by omega)
  have hf := low_lt a (n := 1000000) (by omega)
  have hg := low_lt b (n := 1000000) (by omega)
  generalize low a 1000000 = f at *
  generalize low b 1000000 = g at *
  obtain ⟨t, ht⟩ : ∃ t, t = 1 + g := ⟨_, rfl⟩
  obtain ⟨f1, hf1⟩ : ∃ f1, f1 = f + 1 := ⟨_, rfl⟩
  obtain ⟨ft, hft⟩ : ∃ ft, ft = f * t := ⟨_, rfl⟩
  have hftb : ft ≤ 1000000 * 1000000 := by rw [hft]; exact Nat.mul_le_mul (by omega) (by omega)
  have W1 : IntKind.i64.wrap (1 + (g : Int)) = (t : Int) := by rw [IntWalk.i64_in _ (by omega)]; omega
  have W2 : IntKind.i64.wrap ((f : Int) + 1) = (f1 : Int) := by rw [IntWalk.i64_in _ (by omega)]; omega
  have hmul : (f : Int) * (t : Int) = (ft : Int) := by rw [hft]; simp
  have W3 : IntKind.i64.wrap ((f : Int) * (t : Int)) = (ft : Int) := by rw [hmul, IntWalk.i64_in _ (by omega)]
  obtain ⟨nf, hnf⟩ : ∃ nf : Int, nf = -((f : Int) + 1) := ⟨_, rfl⟩
  have W4 : IntKind.i64.wrap (-1 - (f : Int)) = nf := by rw [IntWalk.i64_in _ (by omega)]; omega
  obtain ⟨r1, r2, d1, d2, hr1, hr2, hless⟩ := share_grows (f := f) (t := t) hf (by omega) (by omega)
  have c0 : floatOfInt .f64 0 = wF 0 := floatOf_nat 0
  have ct := floatOf_nat t
  have cf := floatOf_nat f
  have cf1 := floatOf_nat f1
  have cft := floatOf_nat ft
  have cn : floatOfInt .f64 nf = Ieee.double.word true (wF f1) := by rw [hnf]; exact floatOf_neg f f1 hf1
  have S1 := f_ShareR f t r1 (by rw [cf, ct]; exact d1)
  have S2 := f_ShareR f1 t r2 (by rw [cf1, ct, hf1]; exact d2)
  have S3 := f_ShareR t t 4607182418800017408 (by
    have := div_whole (q := 1) (t := t) (by omega) (by omega) (by omega)
    rw [Nat.one_mul, wF_1] at this
    rw [ct]; exact this)
  have S4 := f_ShareR 0 t 0 (by
    have := div_whole (q := 0) (t := t) (by omega) (by omega) (by omega)
    rw [Nat.zero_mul, wF_0] at this
    rw [ct, c0, wF_0]; exact this)
  have S5 := f_ShareR f1 0 9218868437227405312 (by rw [cf1, c0]; exact div_zero_pos (by omega) (by omega))
  have S6 := f_ShareR nf 0 18442240474082181120 (by rw [cn, c0]; exact div_zero_neg (by omega) (by omega))
  have S8 := f_ShareR ft t (wF f) (by rw [cft, ct, hft]; exact div_whole (by omega) (by omega) (by omega))
  have o1 : FloatKind.f64.format.order 4607182418800017408 4607182418800017408 = some .eq := by decide +kernel
  have o2 : FloatKind.f64.format.order 0 0 = some .eq := by decide +kernel
  have LS := f_Less r1 r2
  rw [hless] at LS
  have HLS := hide (fun w => LS w (lt_small hr1) (lt_small hr2))
  have HT := hide htab
  have hwf := wF_word f
  have HS := hide (And.intro S1 (And.intro S2 (And.intro S3 (And.intro S4 (And.intro S5 (And.intro S6 S8))))))
  clear hf hg ht hf1 hft hftb hmul hnf d1 d2 hr1 hr2 hless c0 ct cf1 cft cn S1 S2 S3 S4 S5 S6 S8 LS htab a1 a2 b1 b2
  go_enter Tryd.func3, Tryd.ntmps3
  go_wp2_with (first
    | (go_at_call 11; with_reducible refine (L1 _).mono ?_; rintro e w4 ⟨rfl, rfl⟩)
    | (go_at_call 11; with_reducible refine (L2 _).mono ?_; rintro e w4 ⟨rfl, rfl⟩)
    | (go_at_call 13; with_reducible refine (HS.out.1 _).mono ?_; rintro e w4 ⟨rfl, rfl⟩)
    | (go_at_call 13; with_reducible refine (HS.out.2.1 _).mono ?_; rintro e w4 ⟨rfl, rfl⟩)
    | (go_at_call 13; with_reducible refine (HS.out.2.2.1 _).mono ?_; rintro e w4 ⟨rfl, rfl⟩)
    | (go_at_call 13; with_reducible refine (HS.out.2.2.2.1 _).mono ?_; rintro e w4 ⟨rfl, rfl⟩)
    | (go_at_call 13; with_reducible refine (HS.out.2.2.2.2.1 _).mono ?_; rintro e w4 ⟨rfl, rfl⟩)
    | (go_at_call 13; with_reducible refine (HS.out.2.2.2.2.2.1 _).mono ?_; rintro e w4 ⟨rfl, rfl⟩)
    | (go_at_call 13; with_reducible refine (HS.out.2.2.2.2.2.2 _).mono ?_; rintro e w4 ⟨rfl, rfl⟩)
    | (go_at_call 13; with_reducible refine (f_Share _).mono ?_; rintro e w5 ⟨q5, rfl, hq5, hq6, rfl⟩)
    | (go_at_call 12; with_reducible refine (HLS.out _).mono ?_; rintro e w4 ⟨rfl, rfl⟩)
    | (go_at_call 14; with_reducible refine (f_IsInfP _).mono ?_; rintro e w4 ⟨rfl, rfl⟩)
    | (go_at_call 14; with_reducible refine (f_IsInfM _).mono ?_; rintro e w4 ⟨rfl, rfl⟩)
    | (go_at_call 15; refine (f_IsNaN _ _).mono ?_; rintro e w4 ⟨rfl, rfl⟩))
  refine (f_TextW (wF f) hwf _ (HT.out.ext (Ext.refl _).drew)).mono ?_
  rintro e w8 ⟨rfl, hE8⟩
  have ht8 := hide (HT.out.ext ((Ext.refl _).drew.trans hE8))
  go_wp2_with fail
  refine (f_TextW (wF f) hwf _ ht8.out).mono ?_
  rintro e w9 ⟨rfl, hE9⟩
  go_wp2_with (go_at_call 17; refine (law1_awake _).mono ?_; rintro e w10 ⟨rfl, hE10⟩)
  go_ret
  exact ⟨rfl, (((Ext.refl _).drew.trans hE8).trans hE9).trans hE10⟩
end Go.Proofs.YtillhbbeghbfeaaDoor
