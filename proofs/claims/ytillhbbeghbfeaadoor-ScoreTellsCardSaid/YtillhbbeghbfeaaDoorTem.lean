/- The mean of any numbers, as the program and as the document reckon it. -/
import Derived.Test.YtillhbbeghbfeaaDoorTel
namespace Go.Proofs.YtillhbbeghbfeaaDoor
set_option linter.unusedVariables false
set_option linter.unusedSimpArgs false
open Go.RowKit

def addO (o : Option Nat) (y : Nat) : Option Nat := o.bind fun x => Ieee.double.add x y
/-- The sum of the first k + 1 numbers, if it is one. -/
def accO (xs : List Nat) : Nat → Option Nat
  | 0 => some (xs.getD 0 0)
  | k + 1 => addO (accO xs k) (xs.getD (k + 1) 0)
def meanO (xs : List Nat) (n : Nat) : Option Nat := if n = 0 then none else (accO xs (n - 1)).bind fun s => Ieee.double.div s (wF n)
theorem add_nanL (y : Nat) {q : Nat} (hq : nanF q = true) : Ieee.double.add q y = none := by
  obtain ⟨s, u, e⟩ := read_nan hq
  unfold Ieee.Format.add
  rw [e]
  rfl
theorem OutF.step {o : Option Nat} {s y r : Nat} (h : OutF o s) (k : OutF (Ieee.double.add s y) r) : OutF (addO o y) r := by
  rcases h with h | ⟨h, h2⟩
  · rw [h]; exact k
  · rw [h]
    rw [add_nanL y h2] at k
    rcases k with k | ⟨_, k2⟩
    · cases k
    · exact Or.inr ⟨rfl, k2⟩
theorem OutF.last {o : Option Nat} {s y r : Nat} (h : OutF o s) (k : OutF (Ieee.double.div s y) r) : OutF (o.bind fun s => Ieee.double.div s y) r := by
  rcases h with h | ⟨h, h2⟩
  · rw [h]; exact k
  · rw [h]
    rw [div_nan y h2] at k
    rcases k with k | ⟨_, k2⟩
    · cases k
    · exact Or.inr ⟨rfl, k2⟩
set_option maxHeartbeats 2000000 in
theorem ref1_MeanO (w : World) (A : Option Addr) (n c : Nat) (xs : List Nat) (hS : Sl w A n c (fl xs)) (hb : Words xs) (hn : n ≤ 1000) :
    Calls Tryd.prog 32 #[.slice A n c] w fun e w' => ∃ r, e = .returned (.float .f64 r) ∧ Ext w w' ∧ OutF (meanO xs n) r ∧ r < 18446744073709551616 := by
  have hcm := hS.cm
  have hnc := hS.nc
  by_cases h0 : n = 0
  · subst h0
    go_enter Tryd.func32, Tryd.ntmps32
    go_wp2_with (go_at_call 21; refine (f_NaN _).mono ?_; rintro e w' ⟨rfl, rfl⟩)
    go_ret
    exact ⟨_, rfl, Ext.refl _, Or.inr ⟨rfl, by decide⟩, by decide⟩
  have e0 : ((n : Int) == 0) = false := by simp; omega
  obtain ⟨b, o, x0, hA, hx0, hc0, hx2⟩ := hS.atF hb (k := 0) (by omega)
  subst hA
  rw [Nat.add_zero] at hc0
  have i0 : (0 : Int) < (n : Int) := by omega
  have hg0 : xs.getD 0 0 = x0 := getD_of hx0.out
  have hcv := floatOf_nat n
  have HP := hide h0
  clear hx0 h0
  go_enter Tryd.func32, Tryd.ntmps32
  go_wp2_with fail
  go_loopw [3, 4] (fun s v wr => ∃ (j x : Nat), 1 ≤ j ∧ j ≤ n ∧ s = .float .f64 x ∧ v = .int .i64 j ∧ Ext w wr ∧ Hid (OutF (accO xs (j - 1)) x)) (fun _ v _ => n - (intOf v).toNat)
  case atStart => exact ⟨1, x0, by omega, by have := HP.out; omega, rfl, rfl, Ext.refl w, Or.inl (by rw [← hg0]; rfl)⟩
  case round =>
    obtain ⟨j, x, hj1, hj, rfl, rfl, hE, ho⟩ := hrel
    by_cases hlt : j < n
    · obtain ⟨b1, o1, y, hA, hy, hcy, hy2⟩ := hS.atF hb hlt
      simp at hA
      obtain ⟨rfl, rfl⟩ := hA
      have hcy2 := hE.cell hcy
      have i2 : (j : Int) < (n : Int) := by omega
      obtain ⟨r, w', hr, hE2, ho2, hlt2⟩ := run_addO 24 x y wr
      have HO := hide (show OutF (accO xs (j + 1 - 1)) r by
        rw [show j + 1 - 1 = (j - 1) + 1 by omega]
        unfold accO
        rw [show j - 1 + 1 = j by omega, getD_of hy.out]
        exact ho.out.step ho2)
      clear hy hcy ho2 ho
      go_wp2_with fail
      go_roundw
      case rel => exact ⟨j + 1, r, by omega, by omega, rfl, by go_num, hE.trans hE2, HO⟩
      case measure => simp [intOf]; omega
    · obtain rfl : j = n := by omega
      obtain ⟨r, w', hr, hE2, ho2, hlt2⟩ := run_quoO 24 x (floatOfInt .f64 (j : Int)) wr
      have HO := hide (show OutF (meanO xs j) r by
        unfold meanO
        rw [if_neg HP.out]
        rw [hcv] at ho2
        exact ho.out.last ho2)
      clear ho2 ho hcv
      go_wp2_with fail
      go_ret
      exact ⟨r, rfl, hE.trans hE2, HO.out, hlt2⟩
set_option maxHeartbeats 2000000 in
theorem f_MeanO (w : World) (A : Option Addr) (n c : Nat) (xs : List Nat) (hS : Sl w A n c (fl xs)) (hb : Words xs) (hn : n ≤ 1000) :
    Calls Tryd.prog 20 #[.slice A n c] w fun e w' => ∃ r, e = .returned (.float .f64 r) ∧ Ext w w' ∧ OutF (meanO xs n) r ∧ r < 18446744073709551616 := by
  have hcm := hS.cm
  have hnc := hS.nc
  by_cases h0 : n = 0
  · subst h0
    go_enter Tryd.func20, Tryd.ntmps20
    go_wp2_with (go_at_call 21; refine (f_NaN _).mono ?_; rintro e w' ⟨rfl, rfl⟩)
    go_ret
    exact ⟨_, rfl, Ext.refl _, Or.inr ⟨rfl, by decide⟩, by decide⟩
  have e0 : ((n : Int) == 0) = false := by simp; omega
  obtain ⟨b, o, x0, hA, hx0, hc0, hx2⟩ := hS.atF hb (k := 0) (by omega)
  subst hA
  rw [Nat.add_zero] at hc0
  have i0 : (0 : Int) < (n : Int) := by omega
  have i1 : (1 : Int) ≤ (n : Int) := by omega
  have hg0 : xs.getD 0 0 = x0 := getD_of hx0.out
  have hcv := floatOf_nat n
  have HP := hide h0
  have hat : ∀ j, j < n - 1 → ∃ y, xs.getD (j + 1) 0 = y ∧ w.cell? ⟨b, o + 1 + j, none⟩ = some (.float .f64 y) := by
    intro j hj
    obtain ⟨b1, o1, y, hA, hy, hc1, _⟩ := hS.atF hb (k := j + 1) (by omega)
    simp at hA
    obtain ⟨rfl, rfl⟩ := hA
    refine ⟨y, getD_of hy.out, ?_⟩
    rw [Nat.add_assoc, Nat.add_comm 1 j]
    exact hc1
  have HC := hide hat
  clear hx0 h0 hat hS
  by_cases hc1 : c = 1
  · obtain rfl : n = 1 := by omega
    subst hc1
    obtain ⟨r, w', hr, hE2, ho2, hlt2⟩ := run_quoO 24 x0 (floatOfInt .f64 ((1 : Nat) : Int)) w
    have hcv2 : floatOfInt .f64 ((1 : Nat) : Int) = floatOfInt .f64 1 := rfl
    have HO := hide (show OutF (meanO xs 1) r by
      unfold meanO
      rw [if_neg HP.out]
      rw [hcv] at ho2
      exact OutF.last (o := accO xs 0) (Or.inl (by rw [← hg0]; rfl)) ho2)
    rw [hcv2] at hr
    clear ho2 hcv hcv2
    go_enter Tryd.func20, Tryd.ntmps20
    go_wp2_with fail
    go_loopw [3, 16] (fun s v wr => s = .float .f64 x0 ∧ v = .int .i64 0 ∧ wr = w) (fun s v _ => 0)
    case atStart => exact ⟨rfl, rfl, rfl⟩
    case round =>
      obtain ⟨rfl, rfl, rfl⟩ := hrel
      go_wp2_with fail
      go_ret
      exact ⟨r, rfl, hE2, HO.out, hlt2⟩
  · go_enter Tryd.func20, Tryd.ntmps20
    go_wp2_with fail
    go_loopw [3, 16] (fun s v wr => ∃ (j x : Nat), j ≤ n - 1 ∧ s = .float .f64 x ∧ v = .int .i64 j ∧ Ext w wr ∧ Hid (OutF (accO xs j) x)) (fun _ v _ => n - 1 - (intOf v).toNat)
    case atStart => exact ⟨0, x0, by omega, rfl, rfl, Ext.refl w, Or.inl (by rw [← hg0]; rfl)⟩
    case round =>
      obtain ⟨j, x, hj, rfl, rfl, hE, ho⟩ := hrel
      by_cases hlt : j < n - 1
      · obtain ⟨y, hy, hcy⟩ := HC.out j hlt
        have hcy2 := hE.cell hcy
        have i2 : (j : Int) < ((n - 1 : Nat) : Int) := by omega
        obtain ⟨r, w', hr, hE2, ho2, hlt2⟩ := run_addO 24 x y wr
        have HO := hide (show OutF (accO xs (j + 1)) r by
          unfold accO
          rw [hy]
          exact ho.out.step ho2)
        clear hy hcy ho2 ho
        go_wp2_with fail
        go_roundw
        case rel => exact ⟨j + 1, r, by omega, rfl, by go_num, hE.trans hE2, HO⟩
        case measure => simp [intOf]; omega
      · obtain rfl : j = n - 1 := by omega
        obtain ⟨r, w', hr, hE2, ho2, hlt2⟩ := run_quoO 24 x (floatOfInt .f64 (n : Int)) wr
        have HO := hide (show OutF (meanO xs n) r by
          unfold meanO
          rw [if_neg HP.out]
          rw [hcv] at ho2
          exact ho.out.last ho2)
        clear ho2 ho hcv
        go_wp2_with fail
        go_ret
        exact ⟨r, rfl, hE.trans hE2, HO.out, hlt2⟩
end Go.Proofs.YtillhbbeghbfeaaDoor
