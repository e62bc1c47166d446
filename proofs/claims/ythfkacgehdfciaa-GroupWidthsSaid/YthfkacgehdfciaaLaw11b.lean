/- The second statement on sectors of bits: what was laid is read again. -/
import Derived.Test.YthfkacgehdfciaaLaw11
import Derived.Test.YthfkacgehdfciaaArg
namespace Go.Proofs.Ythfkacgehdfciaa
set_option linter.unusedVariables false
open Go.RowKit

theorem allB_le (xs : List Nat) (n : Nat) (hn : n ≤ 1000) : ∀ i ∈ nI (allB xs n), i ≤ 9223372036854775807 := by
  intro i hi
  obtain ⟨k, hk, rfl⟩ := List.mem_map.1 hi
  have := (mem_allB.1 hk).1
  omega
/-- With a number more that lies beyond, nothing is read. -/
theorem g_over {x ys : List Nat} {n m q : Nat} (hx : x.length ≤ 4) (hy : ys.length = 12) (hb : Bytes ys) (hq : m + q < 96) : ¬ gOk (sealOf 71 (gB x (withB ys (m + q) true))) n m := by
  intro h
  have h2 := ((g_lay_ok hx (by rw [withB_len]; omega) n m).1 h).2 (m + q) (by omega)
  rw [hasB_withB hb, if_pos ⟨rfl, by omega⟩] at h2
  cases h2

set_option maxRecDepth 100000 in
set_option maxHeartbeats 2000000 in
theorem law_GroupBack (w : World) (z1 : Int) (_a1 : -9223372036854775808 ≤ z1) (_b1 : z1 ≤ 9223372036854775807) (z2 : Int) (_a2 : -9223372036854775808 ≤ z2) (_b2 : z2 ≤ 9223372036854775807)
    (A1 : Option Addr) (n1 c1 : Nat) (is : List Int) (h1 : Sl w A1 n1 c1 (is.map (Value.int .i64))) (hw1 : ∀ x ∈ is, (Lit.int .i64 x).wf = true) (A2 : Option Addr) (n2 c2 : Nat) (bs : List Int) (h2 : Sl w A2 n2 c2 (bs.map (Value.int .i64))) (hw2 : ∀ x ∈ bs, (Lit.int .i64 x).wf = true)
    (z3 : Int) (_a3 : -9223372036854775808 ≤ z3) (_b3 : z3 ≤ 9223372036854775807) :
    Calls Try.prog 13 #[.int .i64 z1, .int .i64 z2, .slice A1 n1 c1, .slice A2 n2 c2, .int .i64 z3] w fun e w' => e = .returned (.bool true) ∧ Ext w w' := by
  have hi1 : ∀ x ∈ is, x ≤ 9223372036854775807 := fun x hx => (i64_wf (hw1 x hx)).2
  have hi2 : ∀ x ∈ bs, x ≤ 9223372036854775807 := fun x hx => (i64_wf (hw2 x hx)).2
  have HI1 := hide hi1
  have HI2 := hide hi2
  have hS1 : Sl w A1 n1 c1 (i64s is) := h1
  have hS2 : Sl w A2 n2 c2 (i64s bs) := h2
  clear hi1 hi2 hw1 hw2 h1 h2 _a1 _b1 _a2 _b2 _a3 _b3
  by_cases l1 : (30 : Int) < n1
  · go_enter Try.func13, Try.ntmps13
    go_wp2_with (go_at_call 40; refine (law11_awake _).mono ?_; rintro e w2 ⟨rfl, hE2⟩)
    go_ret
    exact ⟨rfl, hE2⟩
  by_cases l2 : (30 : Int) < n2
  · go_enter Try.func13, Try.ntmps13
    go_wp2_with (go_at_call 40; refine (law11_awake _).mono ?_; rintro e w2 ⟨rfl, hE2⟩)
    go_ret
    exact ⟨rfl, hE2⟩
  go_enter Try.func13, Try.ntmps13
  go_wp2_with fail
  refine (Low z1 _ 8 _ rfl (by omega) (by omega)).mono ?_
  rintro e w1 ⟨rfl, rfl⟩
  have hp := low_lt z1 (n := 8) (by omega)
  generalize low z1 8 = p at *
  go_wp2_with fail
  refine (Low z2 _ 81 _ rfl (by omega) (by omega)).mono ?_
  rintro e w1 ⟨rfl, rfl⟩
  have hr := low_lt z2 (n := 81) (by omega)
  generalize low z2 81 = r at *
  obtain ⟨n, hn⟩ : ∃ n : Nat, n = 4 + 4 * p := ⟨_, rfl⟩
  obtain ⟨m, hm⟩ : ∃ m : Nat, m = 16 + r := ⟨_, rfl⟩
  have HN := hide hn
  have HM := hide hm
  have bn : 4 ≤ n ∧ n ≤ 32 := by omega
  have bm : 16 ≤ m ∧ m ≤ 96 := by omega
  clear hn hm
  go_wp2_with fail
  refine (bits_Of n _ (by rw [HN.out]; omega) _ _ _ _ _ hS1 HI1.out (by omega)).mono ?_
  rintro e w3 ⟨A3, c3, rfl, hO3, hE3⟩
  go_wp2_with fail
  refine (bits_Of m _ (by rw [HM.out]; omega) _ _ _ _ _ (hS2.ext hE3) HI2.out (by omega)).mono ?_
  rintro e w4 ⟨A4, c4, rfl, hO4, hE4⟩
  have bx := Bytes.ofB n is
  have bY := Bytes.ofB m bs
  have lx := ofB_len n is
  have ly := ofB_len m bs
  have fx := hasB_ofB_far n is
  have fy := hasB_ofB_far m bs
  generalize ofB n is = x at *
  generalize ofB m bs = y at *
  have hX4 := hO3.ext hE4
  have HG := hide ((g_lay_ok (x := x) (y := y) (by omega) (by omega) n m).2 ⟨fx, fy⟩)
  have HR := hide (g_lay_read (x := x) (y := y) (n := n) (m := m) lx ly (by omega) (by omega))
  have LX := hide lx
  have LY := hide ly
  clear fx fy lx ly
  go_wp2_with fail
  refine (group_Lay _ _ _ _ _ _ _ _ _ hX4.sl hO4.sl bx bY (by omega) (by omega) (by omega) (by omega)).mono ?_
  rintro e w5 ⟨g5, c5, rfl, hO5, hE5⟩
  go_wp2_with fail
  refine (group_Read2 _ _ _ _ n m _ _ (by rw [HN.out]; omega) (by rw [HM.out]; omega) _ hO5.sl (Bytes.sealOf (by omega) (Bytes.gB bx bY)) (by omega) (by omega) (by omega) (by omega)).mono ?_
  rintro e w6 ⟨hR, hE6⟩
  obtain ⟨A6, c6, A7, c7, B7, rfl, o6, o7, _, _⟩ := hR.ok HG.out
  clear hR
  rw [HR.out.1] at o6
  rw [HR.out.2] at o7
  have hX6 := hX4.ext (hE5.trans hE6)
  have hY6 := hO4.ext (hE5.trans hE6)
  go_wp2_with fail
  refine (SameBytes _ _ _ _ _ _ _ _ _ o6.sl hX6.sl bx bx).mono ?_
  rintro e w7 ⟨rfl, j7⟩
  have hE7 := drewExt j7
  clear j7
  rw [decide_eq_true (rfl : x = x)]
  go_wp2_with fail
  refine (SameBytes _ _ _ _ _ _ _ _ _ (o7.ext hE7).sl (hY6.ext hE7).sl bY bY).mono ?_
  rintro e w8 ⟨rfl, j8⟩
  have hE8 := drewExt j8
  clear j8
  rw [decide_eq_true (rfl : y = y)]
  go_wp2_with fail
  refine (bits_All _ _ _ _ _ _ (hY6.ext (hE7.trans hE8)).sl bY (by omega) (by omega)).mono ?_
  rintro e w9 ⟨A9, m9, c9, rfl, hO9, hE9⟩
  have et : (16 + (r : Int)).toNat = m := by rw [HM.out]; omega
  rw [et] at hO9
  clear et
  go_wp2_with fail
  refine (bits_Of 96 _ rfl _ _ _ _ _ hO9.sl (allB_le y m (by omega)) (by omega)).mono ?_
  rintro e w10 ⟨A10, c10, rfl, hO10, hE10⟩
  have hF10 := hE7.trans (hE8.trans (hE9.trans hE10))
  have hX10 := hX6.ext hF10
  have hG10 : Ext w w10 := hE3.trans (hE4.trans (hE5.trans (hE6.trans hF10)))
  have bw := Bytes.ofB 96 (nI (allB y m))
  have lw := ofB_len 96 (nI (allB y m))
  generalize ofB 96 (nI (allB y m)) = v at *
  have LW := hide lw
  clear lw
  by_cases hr8 : r = 80
  · subst hr8
    go_wp2_with fail
    refine (Low z3 _ 1 _ (by rfl) (by omega) (by omega)).mono ?_
    rintro e w1 ⟨rfl, rfl⟩
    have hq := low_lt z3 (n := 1) (by omega)
    generalize low z3 1 = q at *
    go_wp2_with fail
    refine (bits_With _ _ _ _ _ true _ hO10.sl bw (by omega) (by omega)).mono ?_
    rintro e w11 ⟨A11, c11, rfl, hO11, hE11⟩
    rw [if_pos (by omega), show (96 + (q : Int)).toNat = m + q from by rw [HM.out]; omega] at hO11
    have bz : Bytes (withB v (m + q) true) := bw.withB _ _
    have hno : m + q < 96 → ¬ gOk (sealOf 71 (gB x (withB v (m + q) true))) n m := fun h => g_over (by rw [LX.out]; omega) LW.out bw h
    have HNO := hide hno
    clear hno
    generalize withB v (m + q) true = z at *
    go_wp2_with fail
    refine (group_Lay _ _ _ _ _ _ _ _ _ (hX10.ext hE11).sl hO11.sl bx bz (by omega) (by omega) (by omega) (by omega)).mono ?_
    rintro e w12 ⟨g12, c12, rfl, hO12, hE12⟩
    go_wp2_with fail
    refine (group_Read2 _ _ _ _ n m _ _ (by rw [HN.out]; omega) (by rw [HM.out]; omega) _ hO12.sl (Bytes.sealOf (by omega) (Bytes.gB bx bz)) (by omega) (by omega) (by omega) (by omega)).mono ?_
    rintro e w13 ⟨hR, hE13⟩
    have hG13 := hG10.trans (hE11.trans (hE12.trans hE13))
    have hR' : (∃ A1 c1 A2 c2, e = .returned (.tuple #[.slice A1 ((n + 7) / 8) c1, .slice A2 ((m + 7) / 8) c2, .int .i64 0])) ∨ e = .returned (.tuple #[.slice none 0 0, .slice none 0 0, .int .i64 3]) := by
      rcases hR with ⟨_, a, b, c, d, _, h, _⟩ | ⟨_, h⟩
      · exact .inl ⟨a, b, c, d, h⟩
      · exact .inr h
    clear hR
    rcases hR' with ⟨A13, c13, A14, c14, rfl⟩ | rfl
    · go_wp2_with (go_at_call 40; refine (law11_awake _).mono ?_; rintro e w14 ⟨rfl, hE14⟩)
      go_ret
      exact ⟨rfl, hG13.trans hE14⟩
    · go_wp2_with (go_at_call 40; refine (law11_awake _).mono ?_; rintro e w14 ⟨rfl, hE14⟩)
      go_ret
      exact ⟨rfl, hG13.trans hE14⟩
  · have hrI : 16 + (r : Int) ≤ 95 := by omega
    have hm95 : m ≤ 95 := by rw [HM.out]; omega
    go_wp2_with fail
    refine (Low z3 _ (96 - m) _ (by rw [HM.out]; omega) (by omega) (by omega)).mono ?_
    rintro e w1 ⟨rfl, rfl⟩
    have hq := low_lt z3 (n := (96 - m)) (by omega)
    generalize low z3 (96 - m) = q at *
    go_wp2_with fail
    refine (bits_With _ _ _ _ _ true _ hO10.sl bw (by omega) (by omega)).mono ?_
    rintro e w11 ⟨A11, c11, rfl, hO11, hE11⟩
    rw [if_pos (by omega), show (16 + (r : Int) + (q : Int)).toNat = m + q from by rw [HM.out]; omega] at hO11
    have bz : Bytes (withB v (m + q) true) := bw.withB _ _
    have hno : m + q < 96 → ¬ gOk (sealOf 71 (gB x (withB v (m + q) true))) n m := fun h => g_over (by rw [LX.out]; omega) LW.out bw h
    have HNO := hide hno
    clear hno
    generalize withB v (m + q) true = z at *
    go_wp2_with fail
    refine (group_Lay _ _ _ _ _ _ _ _ _ (hX10.ext hE11).sl hO11.sl bx bz (by omega) (by omega) (by omega) (by omega)).mono ?_
    rintro e w12 ⟨g12, c12, rfl, hO12, hE12⟩
    go_wp2_with fail
    refine (group_Read2 _ _ _ _ n m _ _ (by rw [HN.out]; omega) (by rw [HM.out]; omega) _ hO12.sl (Bytes.sealOf (by omega) (Bytes.gB bx bz)) (by omega) (by omega) (by omega) (by omega)).mono ?_
    rintro e w13 ⟨hR, hE13⟩
    have hG13 := hG10.trans (hE11.trans (hE12.trans hE13))
    have := hR.no (HNO.out (by rw [HM.out] at *; omega))
    subst this
    clear hR
    have e96 : ((16 + (r : Int)) == 96) = false := by simp; omega
    go_wp2_with (go_at_call 40; refine (law11_awake _).mono ?_; rintro e w14 ⟨rfl, hE14⟩)
    go_ret
    exact ⟨rfl, hG13.trans hE14⟩
end Go.Proofs.Ythfkacgehdfciaa
