/- The document's answers on numbers: alike, clamped, a share. -/
import Derived.Test.YtillhbbeghbfeaaDoorRf1
import Derived.Test.YtillhbbeghbfeaaDoorTxb
namespace Go.Proofs.YtillhbbeghbfeaaDoor
set_option linter.unusedVariables false
set_option linter.unusedSimpArgs false
open Go.RowKit

/-- Are two numbers alike? -/
def aliF (x y : Nat) : Bool := !lessF x y && !lessF y x
theorem aliF_KF (x y : Nat) : aliF x y = decide (KF x = KF y) := by
  unfold aliF
  rw [lessF_KF, lessF_KF, Bool.eq_iff_iff]
  simp
  omega
theorem aliF_ref (x y : Nat) : aliF x y = ((nanF x && nanF y) || ((FloatKind.f64.format.order x y == some .eq) && (negF x == negF y))) := by
  rw [aliF_KF]
  cases h1 : nanF x with
  | true =>
    have o : FloatKind.f64.format.order x y = none := order_nanL h1
    have k1 := KF_nan.1 h1
    cases h2 : nanF y with
    | true =>
      have k2 := KF_nan.1 h2
      rw [o, k1, k2]
      simp
    | false =>
      have k2 := KF_num.1 h2
      rw [o, decide_eq_false (by omega)]
      rfl
  | false =>
    have k1 := KF_num.1 h1
    cases h2 : nanF y with
    | true =>
      have o : FloatKind.f64.format.order x y = none := order_nanR h2
      have k2 := KF_nan.1 h2
      rw [o, decide_eq_false (by omega)]
      rfl
    | false =>
      have e := eq_sv h1 h2
      rw [fmt64, e]
      unfold KF kF
      rw [h1, h2, Bool.eq_iff_iff]
      cases negF x <;> cases negF y <;> simp <;> omega
set_option maxHeartbeats 1000000 in
theorem ref1_Alike (x y : Nat) (w : World) (hx : x < 18446744073709551616) (hy : y < 18446744073709551616) :
    Calls Tryd.prog 31 #[.float .f64 x, .float .f64 y] w fun e w' => e = .returned (.bool (aliF x y)) ∧ w = w' := by
  rw [aliF_ref]
  cases h1 : nanF x <;> cases h2 : nanF y <;> cases h3 : (FloatKind.f64.format.order x y == some .eq) <;> cases h4 : negF x <;> cases h5 : negF y
  all_goals
    go_enter Tryd.func31, Tryd.ntmps31
    go_wp2_with (first
      | (go_at_call 15; refine (f_IsNaN _ _).mono ?_; rintro e w' ⟨rfl, rfl⟩)
      | (go_at_call 40; refine (f_Signbit _ _ (by assumption)).mono ?_; rintro e w' ⟨rfl, rfl⟩))
    go_ret
    exact ⟨rfl, rfl⟩
set_option maxHeartbeats 1000000 in
theorem ref1_Clamp (x lo hi : Nat) (w : World) (hx : x < 18446744073709551616) (hl : lo < 18446744073709551616) (hh : hi < 18446744073709551616) :
    Calls Tryd.prog 35 #[.float .f64 x, .float .f64 lo, .float .f64 hi] w fun e w' => e = .returned (.float .f64 (clampF qN x lo hi)) ∧ w = w' := by
  unfold clampF
  cases n1 : nanF x <;> cases n2 : nanF lo <;> cases n3 : nanF hi <;> cases n4 : lessF hi lo <;> cases n5 : lessF x lo <;> cases n6 : lessF hi x
  all_goals
    go_enter Tryd.func35, Tryd.ntmps35
    go_wp2_with (first
      | (go_at_call 15; refine (f_IsNaN _ _).mono ?_; rintro e w' ⟨rfl, rfl⟩)
      | (go_at_call 21; refine (f_NaN _).mono ?_; rintro e w' ⟨rfl, rfl⟩)
      | (go_at_call 34; refine (ref1_Less _ _ _ (by assumption) (by assumption)).mono ?_; rintro e w' ⟨rfl, rfl⟩))
    go_ret
    exact ⟨rfl, rfl⟩
/-- A sum or a quotient, or none. -/
def OutF (o : Option Nat) (r : Nat) : Prop := o = some r ∨ (o = none ∧ nanF r = true)
theorem run_addO (t : TypeId) (x y : Nat) (w : World) : ∃ r w', (binOp BinOp.add t (.float .f64 x) (.float .f64 y)).run Tryd.prog w = .ok (.float .f64 r) w' ∧ Ext w w' ∧ OutF (Ieee.double.add x y) r ∧ r < 18446744073709551616 := by
  rcases h : Ieee.double.add x y with _ | r
  · have h1 : FloatKind.f64.format.add x y = none := h
    refine ⟨_, w.drew, ?_, (Ext.refl w).drew, Or.inr ⟨rfl, (nan_cut (w.tape w.drawn (Question.nanBits .f64 x y))).1⟩, (nan_cut (w.tape w.drawn (Question.nanBits .f64 x y))).2⟩
    simp [binOp, Op.floatArith, h1, Question.forced, Question.cut]
  · exact ⟨r, w, run_float_arith w .add t .f64 _ _ _ h, Ext.refl w, Or.inl rfl, Ieee.double.add_lt h⟩
theorem run_quoO (t : TypeId) (x y : Nat) (w : World) : ∃ r w', (binOp BinOp.quo t (.float .f64 x) (.float .f64 y)).run Tryd.prog w = .ok (.float .f64 r) w' ∧ Ext w w' ∧ OutF (Ieee.double.div x y) r ∧ r < 18446744073709551616 := by
  rcases h : Ieee.double.div x y with _ | r
  · have h1 : FloatKind.f64.format.div x y = none := h
    refine ⟨_, w.drew, ?_, (Ext.refl w).drew, Or.inr ⟨rfl, (nan_cut (w.tape w.drawn (Question.nanBits .f64 x y))).1⟩, (nan_cut (w.tape w.drawn (Question.nanBits .f64 x y))).2⟩
    simp [binOp, Op.floatArith, h1, Question.forced, Question.cut]
  · exact ⟨r, w, run_float_arith w .quo t .f64 _ _ _ h, Ext.refl w, Or.inl rfl, Ieee.double.div_lt h⟩
theorem f_ShareO (x y : Int) (w : World) : Calls Tryd.prog 13 #[.int .i64 x, .int .i64 y] w fun e w' => ∃ r, e = .returned (.float .f64 r) ∧ Ext w w' ∧ OutF (Ieee.double.div (floatOfInt .f64 x) (floatOfInt .f64 y)) r ∧ r < 18446744073709551616 := by
  obtain ⟨r, w', hr, hE, ho, hlt⟩ := run_quoO 24 (floatOfInt .f64 x) (floatOfInt .f64 y) w
  go_enter Tryd.func13, Tryd.ntmps13
  go_wp2_with fail
  go_ret
  exact ⟨r, rfl, hE, ho, hlt⟩
theorem ref1_ShareO (x y : Int) (w : World) : Calls Tryd.prog 37 #[.int .i64 x, .int .i64 y] w fun e w' => ∃ r, e = .returned (.float .f64 r) ∧ Ext w w' ∧ OutF (Ieee.double.div (floatOfInt .f64 x) (floatOfInt .f64 y)) r ∧ r < 18446744073709551616 := by
  obtain ⟨r, w', hr, hE, ho, hlt⟩ := run_quoO 24 (floatOfInt .f64 x) (floatOfInt .f64 y) w
  go_enter Tryd.func37, Tryd.ntmps37
  go_wp2_with fail
  go_ret
  exact ⟨r, rfl, hE, ho, hlt⟩
theorem OutF.alike {o : Option Nat} {r s : Nat} (h : OutF o r) (k : OutF o s) : aliF r s = true := by
  rw [aliF_KF, decide_eq_true_eq]
  rcases h with h | ⟨h, h2⟩ <;> rcases k with k | ⟨k, k2⟩
  · rw [h] at k
    rw [Option.some.inj k]
  · rw [h] at k; cases k
  · rw [h] at k; cases k
  · rw [KF_nan.1 h2, KF_nan.1 k2]
end Go.Proofs.YtillhbbeghbfeaaDoor
