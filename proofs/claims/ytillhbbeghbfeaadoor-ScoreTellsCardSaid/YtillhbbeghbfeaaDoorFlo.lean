/- Floats: contracts of the small functions. -/
import Derived.Test.YtillhbbeghbfeaaDoorProg
import Derived.Test.YtillhbbeghbfeaaDoorMem
import Derived.Test.YtillhbbeghbfeaaDoorFloP
import Derived.WalkLawsBesides
import Derived.Laws.Externs
namespace Go.Proofs.YtillhbbeghbfeaaDoor
set_option linter.unusedVariables false
open Go.RowKit
theorem retB {a b : Bool} (h : a = b) : Ending.returned (.bool a) = .returned (.bool b) := by rw [h]
theorem retF {a b : Nat} (h : a = b) : Ending.returned (.float .f64 a) = .returned (.float .f64 b) := by rw [h]
theorem fmt64 : FloatKind.f64.format = Ieee.double := rfl
theorem run_bits (x : Nat) (w : World) : (callFunc 45 #[.float .f64 x]).run Tryd.prog w = .ok (.value (.int .u64 x)) w := by
  rw [run_callFunc_extern (e := Extern.MathFloatBits.float64bits) Tryd.func45 (by kernel_rfl) (by kernel_rfl) (by kernel_rfl) (by kernel_rfl)]
  rfl
theorem run_from (x : Int) (w : World) : (callFunc 22 #[.int .u64 x]).run Tryd.prog w = .ok (.value (.float .f64 x.toNat)) w := by
  rw [run_callFunc_extern (e := Extern.MathFloatBits.float64frombits) Tryd.func22 (by kernel_rfl) (by kernel_rfl) (by kernel_rfl) (by kernel_rfl)]
  rfl
theorem f_IsNaN (x : Nat) (w : World) : Calls Tryd.prog 15 #[.float .f64 x] w fun e w' => e = .returned (.bool (nanF x)) ∧ w = w' := by
  go_enter Tryd.func15, Tryd.ntmps15
  go_wp2_with fail
  go_ret
  exact ⟨retB (by rw [← ne_self]; rfl), rfl⟩
theorem f_NaN (w : World) : Calls Tryd.prog 21 #[] w fun e w' => e = .returned (.float .f64 9221120237041090561) ∧ w = w' := by
  have h := run_from 9221120237041090561
  go_enter Tryd.func21, Tryd.ntmps21
  go_wp2_with fail
  go_ret
  exact ⟨rfl, rfl⟩
theorem f_Signbit (x : Nat) (w : World) (hx : x < 18446744073709551616) : Calls Tryd.prog 40 #[.float .f64 x] w fun e w' => e = .returned (.bool (negF x)) ∧ w = w' := by
  have h := run_bits x
  go_enter Tryd.func40, Tryd.ntmps40
  go_wp2_with fail
  go_ret
  refine ⟨retB ?_, rfl⟩
  unfold wrap64 negF
  rw [Bool.eq_iff_iff]
  simp
  omega
theorem eq0 {x : Nat} (h : nanF x = false) : (FloatKind.f64.format.order x 0 == some Ordering.eq) = decide (svF x = 0) := by
  have := eq_sv h (show nanF 0 = false by decide)
  rw [show svF 0 = 0 by decide] at this
  exact this
theorem f_below (x y : Nat) (w : World) (hx : x < 18446744073709551616) (hy : y < 18446744073709551616) (nx : nanF x = false) (ny : nanF y = false) :
    Calls Tryd.prog 38 #[.float .f64 x, .float .f64 y] w fun e w' => e = .returned (.bool (decide (kF x < kF y))) ∧ w = w' := by
  rw [← below_kF]
  have h1 := eq0 nx
  have h2 := eq0 ny
  have h3 : (FloatKind.f64.format.order x y == some Ordering.lt) = decide (svF x < svF y) := lt_sv nx ny
  by_cases z1 : svF x = 0
  · rw [decide_eq_true z1] at h1
    by_cases z2 : svF y = 0
    · rw [decide_eq_true z2] at h2
      rw [if_pos ⟨z1, z2⟩]
      clear h3 z1 z2 nx ny
      cases n1 : negF x
      · go_enter Tryd.func38, Tryd.ntmps38
        go_wp2_with (go_at_call 40; refine (f_Signbit _ _ (by assumption)).mono ?_; rintro e w' ⟨rfl, rfl⟩)
        go_ret
        exact ⟨rfl, rfl⟩
      · cases n2 : negF y
        all_goals
          go_enter Tryd.func38, Tryd.ntmps38
          go_wp2_with (go_at_call 40; refine (f_Signbit _ _ (by assumption)).mono ?_; rintro e w' ⟨rfl, rfl⟩)
          go_ret
          exact ⟨rfl, rfl⟩
    · rw [decide_eq_false z2] at h2
      rw [if_neg (fun h => z2 h.2)]
      clear z1 z2 nx ny
      go_enter Tryd.func38, Tryd.ntmps38
      go_wp2_with fail
      go_ret
      exact ⟨rfl, rfl⟩
  · rw [decide_eq_false z1] at h1
    rw [if_neg (fun h => z1 h.1)]
    clear z1 nx ny
    go_enter Tryd.func38, Tryd.ntmps38
    go_wp2_with fail
    go_ret
    exact ⟨rfl, rfl⟩
theorem f_Less (x y : Nat) (w : World) (hx : x < 18446744073709551616) (hy : y < 18446744073709551616) :
    Calls Tryd.prog 12 #[.float .f64 x, .float .f64 y] w fun e w' => e = .returned (.bool (lessF x y)) ∧ w = w' := by
  unfold lessF
  rw [below_kF]
  cases n1 : nanF x <;> cases n2 : nanF y
  · have hb := f_below x y w hx hy n1 n2
    go_enter Tryd.func12, Tryd.ntmps12
    go_wp2_with (first
      | (go_at_call 15; refine (f_IsNaN _ _).mono ?_; rintro e w' ⟨rfl, rfl⟩)
      | (go_at_call 38; refine hb.mono ?_; rintro e w' ⟨rfl, rfl⟩))
    go_ret
    exact ⟨rfl, rfl⟩
  all_goals
    go_enter Tryd.func12, Tryd.ntmps12
    go_wp2_with (go_at_call 15; refine (f_IsNaN _ _).mono ?_; rintro e w' ⟨rfl, rfl⟩)
    go_ret
    exact ⟨rfl, rfl⟩
theorem f_Alike (x y : Nat) (w : World) (hx : x < 18446744073709551616) (hy : y < 18446744073709551616) :
    Calls Tryd.prog 24 #[.float .f64 x, .float .f64 y] w fun e w' => e = .returned (.bool (!lessF x y && !lessF y x)) ∧ w = w' := by
  cases h1 : lessF x y <;> cases h2 : lessF y x
  all_goals
    go_enter Tryd.func24, Tryd.ntmps24
    go_wp2_with (go_at_call 12; refine (f_Less _ _ _ (by assumption) (by assumption)).mono ?_; rintro e w' ⟨rfl, rfl⟩)
    go_ret
    exact ⟨rfl, rfl⟩
def qN : Nat := 9221120237041090561
theorem f_Clamp (x lo hi : Nat) (w : World) (hx : x < 18446744073709551616) (hl : lo < 18446744073709551616) (hh : hi < 18446744073709551616) :
    Calls Tryd.prog 23 #[.float .f64 x, .float .f64 lo, .float .f64 hi] w fun e w' => e = .returned (.float .f64 (clampF qN x lo hi)) ∧ w = w' := by
  unfold clampF
  cases n1 : nanF x
  case true =>
    go_enter Tryd.func23, Tryd.ntmps23
    go_wp2_with (first
      | (go_at_call 15; refine (f_IsNaN _ _).mono ?_; rintro e w' ⟨rfl, rfl⟩)
      | (go_at_call 21; refine (f_NaN _).mono ?_; rintro e w' ⟨rfl, rfl⟩))
    go_ret
    exact ⟨rfl, rfl⟩
  cases n2 : nanF lo
  case true =>
    go_enter Tryd.func23, Tryd.ntmps23
    go_wp2_with (first
      | (go_at_call 15; refine (f_IsNaN _ _).mono ?_; rintro e w' ⟨rfl, rfl⟩)
      | (go_at_call 21; refine (f_NaN _).mono ?_; rintro e w' ⟨rfl, rfl⟩))
    go_ret
    exact ⟨rfl, rfl⟩
  cases n3 : nanF hi
  case true =>
    go_enter Tryd.func23, Tryd.ntmps23
    go_wp2_with (first
      | (go_at_call 15; refine (f_IsNaN _ _).mono ?_; rintro e w' ⟨rfl, rfl⟩)
      | (go_at_call 21; refine (f_NaN _).mono ?_; rintro e w' ⟨rfl, rfl⟩))
    go_ret
    exact ⟨rfl, rfl⟩
  cases n4 : lessF hi lo <;> cases n5 : lessF x lo <;> cases n6 : lessF hi x
  all_goals
    go_enter Tryd.func23, Tryd.ntmps23
    go_wp2_with (first
      | (go_at_call 15; refine (f_IsNaN _ _).mono ?_; rintro e w' ⟨rfl, rfl⟩)
      | (go_at_call 21; refine (f_NaN _).mono ?_; rintro e w' ⟨rfl, rfl⟩)
      | (go_at_call 12; refine (f_Less _ _ _ (by assumption) (by assumption)).mono ?_; rintro e w' ⟨rfl, rfl⟩))
    go_ret
    exact ⟨rfl, rfl⟩
theorem f_Inf (w : World) : Calls Tryd.prog 43 #[.int .i64 1] w fun e w' => e = .returned (.float .f64 9218868437227405312) ∧ w = w' := by
  have h := run_from 9218868437227405312
  go_enter Tryd.func43, Tryd.ntmps43
  go_wp2_with fail
  go_ret
  exact ⟨rfl, rfl⟩
end Go.Proofs.YtillhbbeghbfeaaDoor
