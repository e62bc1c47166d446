/- The text of a number: plain law, and the walk of score.Text. -/
import Derived.Test.YtillhbbeghbfeaaDoorTab
import Derived.Test.YtillhbbeghbfeaaDoorMec
namespace Go.Proofs.YtillhbbeghbfeaaDoor
set_option linter.unusedVariables false
set_option linter.unusedSimpArgs false
open Go.RowKit
open Ieee

def pE : Nat := 1074
theorem pE_eq : pE = 1074 := rfl
/-- A rung's whole part. -/
def intF (r : Nat) : Nat := vF r / 2 ^ pE
theorem cutZ (n d : Nat) : Toward.zero.cut false n d = n / 2 ^ d := by
  unfold Toward.cut
  simp only [Nat.one_shiftLeft, Bool.toNat_false, Nat.add_zero]
  by_cases h : d ≤ n.log2 + 2
  · rw [Nat.min_eq_left h]
  · rw [Nat.min_eq_right (by omega)]
    by_cases h0 : n = 0
    · rw [h0, Nat.zero_div, Nat.zero_div]
    · have h1 := (log2_bounds h0).2
      rw [Nat.div_eq_of_lt (Nat.lt_of_lt_of_le h1 (Nat.pow_le_pow_right (by omega) (by omega))), Nat.div_eq_of_lt (Nat.lt_of_lt_of_le h1 (Nat.pow_le_pow_right (by omega) (by omega)))]
theorem trunc_int {r : Nat} (h : r < fInf) : (double.read r).integral .zero = .number false (intF r) 0 := by
  obtain ⟨m, a, e, v⟩ := read_num (x := r) (by rw [rung_small (Nat.le_of_lt h)]; exact h)
  rw [rung_small (Nat.le_of_lt h)] at v
  rw [neg_small (Nat.le_of_lt h)] at e
  have hp := pE_eq
  unfold intF
  generalize pE = p at *
  rw [e, leastD]
  show Datum.number false (Toward.zero.cut false (m <<< (-1074 + (a : Int)).toNat) (-(-1074 + (a : Int))).toNat) 0 = _
  rw [cutZ, Nat.shiftLeft_eq, v]
  congr 1
  by_cases ha : p ≤ a
  · rw [show (-(-1074 + (a : Int))).toNat = 0 by omega, show (-1074 + (a : Int)).toNat = a - p by omega, Nat.pow_zero, Nat.div_one]
    have : 2 ^ a = 2 ^ (a - p) * 2 ^ p := by rw [← Nat.pow_add, show a - p + p = a by omega]
    rw [this, ← Nat.mul_assoc, Nat.mul_div_cancel _ (Nat.two_pow_pos p)]
  · rw [show (-(-1074 + (a : Int))).toNat = p - a by omega, show (-1074 + (a : Int)).toNat = 0 by omega, Nat.pow_zero, Nat.mul_one]
    have : 2 ^ p = 2 ^ (p - a) * 2 ^ a := by rw [← Nat.pow_add, show p - a + a = p by omega]
    rw [this, Nat.mul_div_mul_right _ _ (Nat.two_pow_pos a)]
theorem intF_wF {n : Nat} (h : n < 9007199254740992) : intF (wF n) = n := by
  unfold intF
  rw [wF_val pE_eq h, Nat.mul_div_cancel _ (Nat.two_pow_pos pE)]
/-- Great numbers are great as floats. -/
theorem wF_big (N : Nat) : wF 9007199254740992 ≤ wF N ↔ 9007199254740992 ≤ N := by
  constructor
  · intro h
    rcases Nat.lt_or_ge N 9007199254740992 with hN | hN
    · have h1 := wF_val pE_eq hN
      have h2 : vF (wF 9007199254740992) = 4503599627370496 * 2 ^ (pE + 1) := by
        rw [wF_rnd pE_eq, show 9007199254740992 * 2 ^ pE = 4503599627370496 * 2 ^ (pE + 1) by rw [Nat.pow_succ, Nat.mul_comm (2 ^ pE) 2, ← Nat.mul_assoc]]
        exact rndF_exact (by omega) (by rw [pE_eq]; omega)
      have h3 : vF (wF N) < vF (wF 9007199254740992) := by
        rw [h1, h2, Nat.pow_succ, Nat.mul_comm (2 ^ pE) 2, ← Nat.mul_assoc]
        exact Nat.mul_lt_mul_of_pos_right (by omega) (Nat.two_pow_pos pE)
      rcases Nat.lt_or_eq_of_le h with h4 | h4
      · have := vF_mono h4; omega
      · rw [h4] at h3; omega
    · exact hN
  · exact wF_mono
theorem wF_53 : wF 9007199254740992 = 4845873199050653696 := by decide +kernel
theorem and_low (x : Nat) : x &&& 9223372036854775807 = rungF x := by
  have : (9223372036854775807 : Nat) = 2 ^ 63 - 1 := by decide
  rw [this, Nat.and_two_pow_sub_one_eq_mod]
  rfl
theorem andNot_63 (x : Nat) (hx : x < 18446744073709551616) : bits BinOp.andNot IntKind.u64 (x : Int) 9223372036854775808 = (rungF x : Nat) := by
  have hb : (~~~ (BitVec.ofInt 64 9223372036854775808)) = BitVec.ofNat 64 9223372036854775807 := by decide
  show IntKind.u64.wrap (((BitVec.ofInt 64 (x : Int)) &&& ~~~(BitVec.ofInt 64 9223372036854775808)).toNat : Int) = _
  have ha : (BitVec.ofInt 64 (x : Int)).toNat = x := by
    rw [BitVec.toNat_ofInt]
    omega
  have hc : (BitVec.ofNat 64 9223372036854775807).toNat = 9223372036854775807 := by decide
  rw [hb, BitVec.toNat_and, ha, hc, and_low]
  have : rungF x < 9223372036854775808 := Nat.mod_lt _ (by omega)
  simp [IntKind.wrap, IntKind.bits, IntKind.signed]
  omega
theorem rung_lt (x : Nat) : rungF x < 9223372036854775808 := Nat.mod_lt _ (by omega)
theorem rung_rung (x : Nat) : rungF (rungF x) = rungF x := Nat.mod_eq_of_lt (rung_lt x)
theorem neg_rung (x : Nat) : negF (rungF x) = false := by
  unfold negF
  rw [Nat.div_eq_of_lt (rung_lt x)]
  rfl
theorem nan_rung (x : Nat) : nanF (rungF x) = nanF x := by
  unfold nanF
  rw [rung_rung]
theorem f_AbsW (x : Nat) (hx : x < 18446744073709551616) (w : World) : Calls Tryd.prog 39 #[.float .f64 x] w fun e w' => e = .returned (.float .f64 (rungF x)) ∧ w = w' := by
  have h := run_bits x
  have h3 := andNot_63 x hx
  have h4 := run_from (rungF x : Nat)
  rw [Int.toNat_natCast] at h4
  go_enter Tryd.func39, Tryd.ntmps39
  go_wp2_with fail
  go_ret
  exact ⟨rfl, rfl⟩
/-- A rung made whole. -/
def cutF (r : Nat) : Nat := if r < fInf then wF (intF r) else r
theorem toInt_num {r m : Nat} {s : Bool} {e : Int} (h : double.read r = .number s m e) : Extern.MathFloor.toIntegral "math.archTrunc" .zero #[.float .f64 r] = pure (.float .f64 (FloatKind.f64.encode ((double.read r).integral .zero))) := by
  conv => lhs; whnf
  rw [show FloatKind.f64.decode r = double.read r from rfl, h]
theorem toInt_inf {r : Nat} {s : Bool} (h : double.read r = .infinity s) : Extern.MathFloor.toIntegral "math.archTrunc" .zero #[.float .f64 r] = pure (.float .f64 (FloatKind.f64.encode (.infinity s))) := by
  conv => lhs; whnf
  rw [show FloatKind.f64.decode r = double.read r from rfl, h]
  rfl
theorem toInt_nan {r t : Nat} {s : Bool} (h : double.read r = .nan s t) (w : World) : ∃ v w', (Extern.MathFloor.toIntegral "math.archTrunc" .zero #[.float .f64 r]).run Tryd.prog w = .ok (.float .f64 v) w' ∧ Ext w w' := by
  obtain ⟨X, hX⟩ : ∃ X, X = Extern.MathFloor.toIntegral "math.archTrunc" .zero #[.float .f64 r] := ⟨_, rfl⟩
  have hX2 := hX
  conv at hX2 => rhs; whnf
  rw [show FloatKind.f64.decode r = double.read r from rfl, h] at hX2
  rw [← hX, hX2]
  by_cases hq : FloatKind.f64.format.quiet t = t
  · exact ⟨r, w, by simp [hq], Ext.refl w⟩
  · refine ⟨_, w.drew, by simp [hq]; rfl, (Ext.refl w).drew⟩
theorem run_truncW (r : Nat) (h : r ≤ fInf) (w : World) : (callFunc 48 #[.float .f64 r]).run Tryd.prog w = .ok (.value (.float .f64 (cutF r))) w := by
  rw [run_callFunc_extern (e := Extern.MathFloor.toIntegral "math.archTrunc" .zero) Tryd.func48 (by kernel_rfl) (by kernel_rfl) (by kernel_rfl) (by kernel_rfl)]
  unfold cutF
  rcases Nat.lt_or_eq_of_le h with h1 | h1
  · have ht := trunc_int h1
    obtain ⟨m, a, e, v⟩ := read_num (x := r) (by rw [rung_small h]; exact h1)
    rw [if_pos h1, toInt_num e, ht]
    rfl
  · have e := read_inf (x := r) (by rw [rung_small h]; exact h1)
    rw [neg_small h] at e
    rw [if_neg (by omega), toInt_inf e, h1]
    rfl
theorem run_truncN (x : Nat) (h : nanF x = true) (w : World) : ∃ v w', (callFunc 48 #[.float .f64 x]).run Tryd.prog w = .ok (.value (.float .f64 v)) w' ∧ Ext w w' := by
  obtain ⟨s, t, e⟩ := read_nan h
  obtain ⟨v, w', h1, h2⟩ := toInt_nan e w
  refine ⟨v, w', ?_, h2⟩
  rw [run_callFunc_extern (e := Extern.MathFloor.toIntegral "math.archTrunc" .zero) Tryd.func48 (by kernel_rfl) (by kernel_rfl) (by kernel_rfl) (by kernel_rfl)]
  simp [h1, Result.andThen]
theorem f_TruncW (r : Nat) (h : r ≤ fInf) (w : World) : Calls Tryd.prog 41 #[.float .f64 r] w fun e w' => e = .returned (.float .f64 (cutF r)) ∧ w = w' := by
  have h1 := run_truncW r h
  go_enter Tryd.func41, Tryd.ntmps41
  go_wp2_with fail
  go_ret
  exact ⟨rfl, rfl⟩
theorem f_TruncN (x : Nat) (h : nanF x = true) (w : World) : Calls Tryd.prog 41 #[.float .f64 x] w fun e w' => ∃ v, e = .returned (.float .f64 v) ∧ Ext w w' := by
  obtain ⟨v, w', h1, hE⟩ := run_truncN x h w
  go_enter Tryd.func41, Tryd.ntmps41
  go_wp2_with fail
  go_ret
  exact ⟨v, rfl, hE⟩
theorem max_le : 9218868437227405311 ≤ fInf := by decide
theorem not_nan {x : Nat} (h : nanF x = false) : rungF x ≤ fInf := by
  unfold nanF at h
  simpa using h
theorem f_IsInf0 (x : Nat) (hx : x < 18446744073709551616) (w : World) : Calls Tryd.prog 14 #[.float .f64 x, .int .i64 0] w fun e w' => e = .returned (.bool (decide (rungF x = fInf))) ∧ w = w' := by
  have h2 : (FloatKind.f64.format.order (rungF x) 9218868437227405311 == some Ordering.gt) = decide (rungF x = fInf) := by
    rcases hn : nanF x with _ | _
    · have hr := not_nan hn
      rw [order_pos hr max_le]
      by_cases h : rungF x = fInf
      · rw [h]
        decide
      · have hle : rungF x ≤ 9218868437227405311 := by
          have := fInf_eq
          omega
        rw [decide_eq_false h]
        rcases Nat.lt_or_eq_of_le hle with h1 | h1
        · rw [Int.compare_eq_lt.2 (by omega)]
          rfl
        · rw [h1, Int.compare_eq_eq.2 rfl]
          rfl
    · have h1 : FloatKind.f64.format.order (rungF x) 9218868437227405311 = none := order_nanL (by rw [nan_rung]; exact hn)
      rw [h1]
      have : rungF x ≠ fInf := by
        intro h
        unfold nanF at hn
        rw [h] at hn
        simp at hn
      rw [decide_eq_false this]
      rfl
  go_enter Tryd.func14, Tryd.ntmps14
  go_wp2_with (go_at_call 39; refine (f_AbsW x hx _).mono ?_; rintro e w' ⟨rfl, rfl⟩)
  go_ret
  exact ⟨rfl, rfl⟩
theorem conv_whole {N : Nat} (h : N < 9007199254740992) (w : World) : (convert 24 2 (.float .f64 (wF N))).run Tryd.prog w = .ok (.int .i64 (N : Int)) w := by
  refine run_convert_float_int w 24 2 .f64 .i64 (wF N) N (by kernel_rfl) Tryd.underlying2 ?_
  unfold floatToIntVal
  have e : (FloatKind.f64.decode (wF N)).toInt .zero = some (N : Int) := by
    unfold Datum.toInt
    rw [show FloatKind.f64.decode (wF N) = double.read (wF N) from rfl, trunc_int (wF_lt h), intF_wF h]
    show some (signed false N 0) = _
    unfold signed
    simp
  rw [e]
  have h1 : IntKind.i64.min = -9223372036854775808 := by decide
  have h2 : IntKind.i64.max = 9223372036854775807 := by decide
  rw [h1, h2]
  simp
  omega
end Go.Proofs.YtillhbbeghbfeaaDoor
