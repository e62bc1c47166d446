/- The document's answer of chapter 1: Less, Best, Alike, Clamp. -/
import Derived.Test.YtillhbbeghbfeaaDoorBst
import Derived.Deep.QuietTactic
import Derived.BigQuiet
namespace Go.Proofs.YtillhbbeghbfeaaDoor
set_option linter.unusedVariables false
open Go.RowKit

theorem refless_kF (x y : Nat) : (if svF x = svF y then negF x && !negF y else decide (svF x < svF y)) = decide (kF x < kF y) := by
  rw [← below_kF]
  by_cases h : svF x = svF y
  · rw [if_pos h]
    by_cases h0 : svF x = 0
    · rw [if_pos ⟨h0, by omega⟩]
    · rw [if_neg (fun hh => h0 hh.1), svF_neg h0, svF_neg (x := y) (by omega), h]
      rw [Bool.eq_iff_iff]
      simp
  · rw [if_neg h, if_neg (fun hh => h (by omega))]
theorem ref1_Less (x y : Nat) (w : World) (hx : x < 18446744073709551616) (hy : y < 18446744073709551616) :
    Calls Tryd.prog 34 #[.float .f64 x, .float .f64 y] w fun e w' => e = .returned (.bool (lessF x y)) ∧ w = w' := by
  have e : lessF x y = if (nanF x || nanF y) = true then nanF x && !nanF y else (if svF x = svF y then negF x && !negF y else decide (svF x < svF y)) := by
    unfold lessF
    rw [below_kF, refless_kF]
  rw [e]
  clear e
  cases n1 : nanF x <;> cases n2 : nanF y
  · have h1 : (FloatKind.f64.format.order x y == some Ordering.eq) = decide (svF x = svF y) := eq_sv n1 n2
    have h3 : (FloatKind.f64.format.order x y == some Ordering.lt) = decide (svF x < svF y) := lt_sv n1 n2
    by_cases z1 : svF x = svF y
    · rw [decide_eq_true z1] at h1
      rw [if_neg (by simp), if_pos z1]
      clear h3 z1
      cases g1 : negF x <;> cases g2 : negF y
      all_goals
        go_enter Tryd.func34, Tryd.ntmps34
        go_wp2_with (first
          | (go_at_call 15; refine (f_IsNaN _ _).mono ?_; rintro e w' ⟨rfl, rfl⟩)
          | (go_at_call 40; refine (f_Signbit _ _ (by assumption)).mono ?_; rintro e w' ⟨rfl, rfl⟩))
        go_ret
        exact ⟨rfl, rfl⟩
    · rw [decide_eq_false z1] at h1
      rw [if_neg (by simp), if_neg z1]
      clear z1
      go_enter Tryd.func34, Tryd.ntmps34
      go_wp2_with (go_at_call 15; refine (f_IsNaN _ _).mono ?_; rintro e w' ⟨rfl, rfl⟩)
      go_ret
      exact ⟨rfl, rfl⟩
  all_goals
    go_enter Tryd.func34, Tryd.ntmps34
    go_wp2_with (go_at_call 15; refine (f_IsNaN _ _).mono ?_; rintro e w' ⟨rfl, rfl⟩)
    go_ret
    exact ⟨rfl, rfl⟩
set_option maxHeartbeats 1000000 in
theorem ref1_Best (A : Option Addr) (n c : Nat) (xs : List Nat) (w : World) (h : Sl w A n c (fl xs)) (hb : Words xs) :
    Calls Tryd.prog 30 #[.slice A n c] w fun e w' => e = .returned (.int .i64 (bestF xs)) ∧ Ext w w' := by
  have hl : xs.length = n := by have := h.len; rwa [fl_len] at this
  have hcm := h.cm
  have hnc := h.nc
  have HL := hide hl
  clear hl
  go_enter Tryd.func30, Tryd.ntmps30
  go_wp2_with fail
  go_loopw [3, 4] (fun b j wr => Ext w wr ∧ ∃ k : Nat, k ≤ n ∧ j = .int .i64 k ∧ ∃ r, b = .int .i64 r ∧ Hid (r = bI (bestN xs k))) (fun _ j _ => n - (intOf j).toNat)
  case atStart => exact ⟨Ext.refl _, 0, by omega, rfl, _, rfl, rfl⟩
  case round =>
    obtain ⟨hE, k, hk, rfl, r, rfl, hr⟩ := hrel
    by_cases hlt : k < n
    · obtain ⟨b0, o0, x, hA, hx, hc0, hx2⟩ := h.atF hb hlt
      subst hA
      have hc := hE.cell hc0
      have i1 : (k : Int) < (n : Int) := by omega
      rcases hbn : bestN xs k with _ | b
      · have hr1 := hr.out
        rw [hbn] at hr1
        obtain rfl : r = -1 := hr1
        have hd : decide ((-1 : Int) < 0) = true := rfl
        have HB := hide hbn
        clear hbn hr
        cases hn : nanF x
        · have HS := hide (bestN_first hx.out hn HB.out)
          have hN : ∀ w, Calls Tryd.prog 15 #[.float .f64 x] w fun e w' => e = .returned (.bool false) ∧ w' = w := fun w => by have := f_IsNaN x w; rw [hn] at this; exact this.mono fun e w' ⟨a, b⟩ => ⟨a, b.symm⟩
          clear hn
          go_wp2_with fail
          go_quiet (first
              | (go_at_call 15; exact Calls.quiet_of_same (hN _)))
          go_wp2_with fail
          go_roundw
          case rel => exact ⟨hE.drewN _, k + 1, by omega, by go_num, _, rfl, by rw [HS.out]; rfl⟩
          case measure => simp [intOf]; omega
        · have HS := hide (bestN_nan hx.out hn)
          have hN : ∀ w, Calls Tryd.prog 15 #[.float .f64 x] w fun e w' => e = .returned (.bool true) ∧ w' = w := fun w => by have := f_IsNaN x w; rw [hn] at this; exact this.mono fun e w' ⟨a, b⟩ => ⟨a, b.symm⟩
          clear hn
          go_wp2_with fail
          go_quiet (first
              | (go_at_call 15; exact Calls.quiet_of_same (hN _)))
          go_wp2_with fail
          go_roundw
          case rel => exact ⟨hE.drewN _, k + 1, by omega, by go_num, _, rfl, by rw [HS.out, HB.out]; rfl⟩
          case measure => simp [intOf]; omega
      · have hbk : b < k := by
          rcases bestN_is xs k with ⟨h1, _⟩ | ⟨c, h1, h2⟩
          · rw [h1] at hbn; cases hbn
          · rw [h1] at hbn; cases hbn; exact h2.1
        have hr1 := hr.out
        rw [hbn] at hr1
        obtain rfl : r = (b : Int) := hr1
        obtain ⟨b1, o1, y, hA, hy, hcy0, hy2⟩ := h.atF hb (k := b) (by omega)
        simp at hA
        obtain ⟨rfl, rfl⟩ := hA
        have hcy := hE.cell hcy0
        have i2 : (b : Int) < (n : Int) := by omega
        have hd : decide ((b : Int) < 0) = false := decide_eq_false (by omega)
        have HB := hide hbn
        clear hbn hr
        cases hn : nanF x
        · have hs := bestN_next hx.out hn HB.out hy.out
          cases hl : lessF y x
          · rw [hl] at hs
            have HS := hide hs
            clear hs
            have hN : ∀ w, Calls Tryd.prog 15 #[.float .f64 x] w fun e w' => e = .returned (.bool false) ∧ w' = w := fun w => by have := f_IsNaN x w; rw [hn] at this; exact this.mono fun e w' ⟨a, b⟩ => ⟨a, b.symm⟩
            have hLs : ∀ w, Calls Tryd.prog 34 #[.float .f64 y, .float .f64 x] w fun e w' => e = .returned (.bool false) ∧ w' = w := fun w => by have := ref1_Less y x w hy2 hx2; rw [hl] at this; exact this.mono fun e w' ⟨a, b⟩ => ⟨a, b.symm⟩
            clear hn hl
            go_wp2_with fail
            go_quiet (first
                | (go_at_call 15; exact Calls.quiet_of_same (hN _))
                | (go_at_call 34; exact Calls.quiet_of_same (hLs _)))
            go_wp2_with fail
            go_roundw
            case rel => exact ⟨hE.drewN _, k + 1, by omega, by go_num, _, rfl, by rw [HS.out]; rfl⟩
            case measure => simp [intOf]; omega
          · rw [hl] at hs
            have HS := hide hs
            clear hs
            have hN : ∀ w, Calls Tryd.prog 15 #[.float .f64 x] w fun e w' => e = .returned (.bool false) ∧ w' = w := fun w => by have := f_IsNaN x w; rw [hn] at this; exact this.mono fun e w' ⟨a, b⟩ => ⟨a, b.symm⟩
            have hLs : ∀ w, Calls Tryd.prog 34 #[.float .f64 y, .float .f64 x] w fun e w' => e = .returned (.bool true) ∧ w' = w := fun w => by have := ref1_Less y x w hy2 hx2; rw [hl] at this; exact this.mono fun e w' ⟨a, b⟩ => ⟨a, b.symm⟩
            clear hn hl
            go_wp2_with fail
            go_quiet (first
                | (go_at_call 15; exact Calls.quiet_of_same (hN _))
                | (go_at_call 34; exact Calls.quiet_of_same (hLs _)))
            go_wp2_with fail
            go_roundw
            case rel => exact ⟨hE.drewN _, k + 1, by omega, by go_num, _, rfl, by rw [HS.out]; rfl⟩
            case measure => simp [intOf]; omega
        · have HS := hide (bestN_nan hx.out hn)
          have hN : ∀ w, Calls Tryd.prog 15 #[.float .f64 x] w fun e w' => e = .returned (.bool true) ∧ w' = w := fun w => by have := f_IsNaN x w; rw [hn] at this; exact this.mono fun e w' ⟨a, b⟩ => ⟨a, b.symm⟩
          clear hn
          go_wp2_with fail
          go_quiet (first
              | (go_at_call 15; exact Calls.quiet_of_same (hN _)))
          go_wp2_with fail
          go_roundw
          case rel => exact ⟨hE.drewN _, k + 1, by omega, by go_num, _, rfl, by rw [HS.out, HB.out]; rfl⟩
          case measure => simp [intOf]; omega
    · obtain rfl : k = n := by omega
      go_wp2_with fail
      go_ret
      exact ⟨retI (by unfold bestF; rw [HL.out, hr.out]), hE⟩
end Go.Proofs.YtillhbbeghbfeaaDoor
