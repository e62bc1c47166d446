/- Floats: what every program answers. -/
import Derived.Test.YtillhbbeghbfeaaDoorFlo
namespace Go.Proofs.YtillhbbeghbfeaaDoor
set_option linter.unusedVariables false
open Go.RowKit
theorem f_Abs (w : World) : Calls Tryd.prog 39 #[.float .f64 13826050856027422720] w fun e w' => e = .returned (.float .f64 4602678819172646912) ∧ w = w' := by
  have h := run_bits 13826050856027422720
  have h4 := run_from 4602678819172646912
  have hb : bits BinOp.andNot IntKind.u64 13826050856027422720 9223372036854775808 = 4602678819172646912 := by decide +kernel
  go_enter Tryd.func39, Tryd.ntmps39
  go_wp2_with fail
  go_ret
  exact ⟨rfl, rfl⟩
theorem f_Copysign (w : World) : Calls Tryd.prog 19 #[.float .f64 0, .float .f64 13830554455654793216] w fun e w' => e = .returned (.float .f64 9223372036854775808) ∧ w = w' := by
  have h := run_bits 0
  have h1 := run_bits 13830554455654793216
  have h2 := run_from 9223372036854775808
  have b1 : bits BinOp.andNot IntKind.u64 0 9223372036854775808 = 0 := by decide +kernel
  have b2 : bits BinOp.and IntKind.u64 13830554455654793216 9223372036854775808 = 9223372036854775808 := by decide +kernel
  have b3 : bits BinOp.or IntKind.u64 0 9223372036854775808 = 9223372036854775808 := by decide +kernel
  go_enter Tryd.func19, Tryd.ntmps19
  go_wp2_with fail
  go_ret
  exact ⟨rfl, rfl⟩
theorem nan_cut (t : Nat) : nanF (t % 2 * 2 ^ 63 + 0x7ff0000000000000 + 1 + t / 2 % (2 ^ 52 - 1)) = true ∧ t % 2 * 2 ^ 63 + 0x7ff0000000000000 + 1 + t / 2 % (2 ^ 52 - 1) < 18446744073709551616 := by
  have e52 : 2 ^ 52 - 1 = 4503599627370495 := by decide
  have e63 : 2 ^ 63 = 9223372036854775808 := by decide
  have h := Nat.mod_lt (t / 2) (show 0 < 2 ^ 52 - 1 by decide)
  generalize t / 2 % (2 ^ 52 - 1) = r at *
  rw [e52] at h
  rw [e63]
  unfold nanF rungF fInf fB
  simp only [decide_eq_true_eq]
  rcases Nat.mod_two_eq_zero_or_one t with h2 | h2 <;> rw [h2] <;> omega
theorem run_quo0 (t : TypeId) (w : World) : ∃ q, (binOp BinOp.quo t (.float .f64 (floatOfInt .f64 0)) (.float .f64 (floatOfInt .f64 0))).run Tryd.prog w = .ok (.float .f64 q) w.drew ∧ nanF q = true ∧ q < 18446744073709551616 := by
  have h0 : floatOfInt .f64 0 = 0 := by decide +kernel
  have h1 : FloatKind.f64.format.div 0 0 = none := by decide +kernel
  refine ⟨_, ?_, (nan_cut (w.tape w.drawn (Question.nanBits .f64 0 0))).1, (nan_cut (w.tape w.drawn (Question.nanBits .f64 0 0))).2⟩
  rw [h0]
  simp [binOp, Op.floatArith, h1, Question.forced, Question.cut]
theorem f_Share (w : World) : Calls Tryd.prog 13 #[.int .i64 0, .int .i64 0] w fun e w' => ∃ q, e = .returned (.float .f64 q) ∧ nanF q = true ∧ q < 18446744073709551616 ∧ w' = w.drew := by
  obtain ⟨q, hq, h1, h2⟩ := run_quo0 24 w
  go_enter Tryd.func13, Tryd.ntmps13
  go_wp2_with fail
  go_ret
  exact ⟨q, rfl, h1, h2, rfl⟩
theorem run_trunc (w : World) : (callFunc 48 #[.float .f64 4602678819172646912]).run Tryd.prog w = .ok (.value (.float .f64 0)) w := by
  rw [run_callFunc_extern (e := Extern.MathFloor.toIntegral "math.archTrunc" .zero) Tryd.func48 (by kernel_rfl) (by kernel_rfl) (by kernel_rfl) (by kernel_rfl)]
  kernel_rfl
theorem f_Trunc (w : World) : Calls Tryd.prog 41 #[.float .f64 4602678819172646912] w fun e w' => e = .returned (.float .f64 0) ∧ w = w' := by
  have h1 := run_trunc
  go_enter Tryd.func41, Tryd.ntmps41
  go_wp2_with fail
  go_ret
  exact ⟨rfl, rfl⟩
theorem f_IsInf (w : World) : Calls Tryd.prog 14 #[.float .f64 13826050856027422720, .int .i64 0] w fun e w' => e = .returned (.bool false) ∧ w = w' := by
  have h2 : (FloatKind.f64.format.order 4602678819172646912 9218868437227405311 == some Ordering.gt) = false := by decide +kernel
  go_enter Tryd.func14, Tryd.ntmps14
  go_wp2_with (go_at_call 39; refine (f_Abs _).mono ?_; rintro e w' ⟨rfl, rfl⟩)
  go_ret
  exact ⟨rfl, rfl⟩
theorem f_small (w : World) : Calls Tryd.prog 52 #[.int .i64 0] w fun e w' => e = .returned (.string ⟨#[48]⟩) ∧ w = w' := by
  go_enter Tryd.func52, Tryd.ntmps52
  go_wp2_with fail
  go_ret
  exact ⟨by rfl, rfl⟩
theorem f_FI (w : World) : Calls Tryd.prog 50 #[.int .i64 0, .int .i64 10] w fun e w' => e = .returned (.string ⟨#[48]⟩) ∧ w = w' := by
  go_enter Tryd.func50, Tryd.ntmps50
  go_wp2_with (go_at_call 52; refine (f_small _).mono ?_; rintro e w' ⟨rfl, rfl⟩)
  go_ret
  exact ⟨rfl, rfl⟩
theorem f_FormatInt (w : World) : Calls Tryd.prog 42 #[.int .i64 0, .int .i64 10] w fun e w' => e = .returned (.string ⟨#[48]⟩) ∧ w = w' := by
  go_enter Tryd.func42, Tryd.ntmps42
  go_wp2_with (go_at_call 50; refine (f_FI _).mono ?_; rintro e w' ⟨rfl, rfl⟩)
  go_ret
  exact ⟨rfl, rfl⟩
theorem f_Text (w : World) : Calls Tryd.prog 16 #[.float .f64 13826050856027422720] w fun e w' => e = .returned (.string ⟨#[45, 48]⟩) ∧ w = w' := by
  have n1 : negF 13826050856027422720 = true := by decide
  have n2 : nanF 13826050856027422720 = false := by decide
  have h3 : (FloatKind.f64.format.order 0 4845873199050653696 == some Ordering.gt) = false := by decide +kernel
  have h4 : (FloatKind.f64.format.order 0 4845873199050653696 == some Ordering.eq) = false := by decide +kernel
  have hcv : (convert 24 2 (.float .f64 0)).run Tryd.prog w = .ok (.int .i64 0) w := by kernel_rfl
  go_enter Tryd.func16, Tryd.ntmps16
  go_wp2_with (first
      | (go_at_call 15; refine (f_IsNaN _ _).mono ?_; rintro e w' ⟨rfl, rfl⟩)
      | (go_at_call 40; refine (f_Signbit _ _ (by decide)).mono ?_; rintro e w' ⟨rfl, rfl⟩)
      | (go_at_call 39; refine (f_Abs _).mono ?_; rintro e w' ⟨rfl, rfl⟩)
      | (go_at_call 41; refine (f_Trunc _).mono ?_; rintro e w' ⟨rfl, rfl⟩)
      | (go_at_call 14; refine (f_IsInf _).mono ?_; rintro e w' ⟨rfl, rfl⟩)
      | (go_at_call 42; refine (f_FormatInt _).mono ?_; rintro e w' ⟨rfl, rfl⟩))
  go_ret
  exact ⟨rfl, rfl⟩
theorem f_Best4 (g : Nat) (w : World) (c0 : w.cell? ⟨g, 0, none⟩ = some (.float .f64 9221120237041090561)) (c1 : w.cell? ⟨g, 1, none⟩ = some (.float .f64 4611686018427387904)) (c2 : w.cell? ⟨g, 2, none⟩ = some (.float .f64 9218868437227405312)) (c3 : w.cell? ⟨g, 3, none⟩ = some (.float .f64 13830554455654793216)) :
    Calls Tryd.prog 27 #[.slice (some ⟨g, 0, none⟩) 4 4] w fun e w' => e = .returned (.int .i64 2) ∧ w = w' := by
  have n0 : nanF 9221120237041090561 = true := by decide
  have n1 : nanF 4611686018427387904 = false := by decide
  have n2 : nanF 9218868437227405312 = false := by decide
  have n3 : nanF 13830554455654793216 = false := by decide
  have l1 : lessF 4611686018427387904 9218868437227405312 = true := by decide +kernel
  have l2 : lessF 9218868437227405312 13830554455654793216 = false := by decide +kernel
  go_enter Tryd.func27, Tryd.ntmps27
  go_wp2_with fail
  go_loopw [3, 8] (fun b j wr => w = wr ∧ ((b = .int .i64 (-1) ∧ j = .int .i64 0) ∨ (b = .int .i64 (-1) ∧ j = .int .i64 1) ∨ (b = .int .i64 1 ∧ j = .int .i64 2) ∨ (b = .int .i64 2 ∧ j = .int .i64 3) ∨ (b = .int .i64 2 ∧ j = .int .i64 4))) (fun _ j _ => 4 - (intOf j).toNat)
  case atStart => exact ⟨rfl, .inl ⟨rfl, rfl⟩⟩
  case round =>
    obtain ⟨rfl, hc⟩ := hrel
    rcases hc with ⟨rfl, rfl⟩ | ⟨rfl, rfl⟩ | ⟨rfl, rfl⟩ | ⟨rfl, rfl⟩ | ⟨rfl, rfl⟩
    all_goals
      go_wp2_with (first
        | (go_at_call 15; refine (f_IsNaN _ _).mono ?_; rintro e w' ⟨rfl, rfl⟩)
        | (go_at_call 12; refine (f_Less _ _ _ (by decide) (by decide)).mono ?_; rintro e w' ⟨rfl, rfl⟩))
    · go_roundw
      case rel => exact ⟨trivial, .inr (.inl ⟨rfl, rfl⟩)⟩
      case measure => simp [intOf]
    · go_roundw
      case rel => exact ⟨trivial, .inr (.inr (.inl ⟨rfl, rfl⟩))⟩
      case measure => simp [intOf]
    · go_roundw
      case rel => exact ⟨trivial, .inr (.inr (.inr (.inl ⟨rfl, rfl⟩)))⟩
      case measure => simp [intOf]
    · go_roundw
      case rel => exact ⟨trivial, .inr (.inr (.inr (.inr ⟨rfl, rfl⟩)))⟩
      case measure => simp [intOf]
    · go_ret
      exact ⟨rfl, rfl⟩
end Go.Proofs.YtillhbbeghbfeaaDoor
