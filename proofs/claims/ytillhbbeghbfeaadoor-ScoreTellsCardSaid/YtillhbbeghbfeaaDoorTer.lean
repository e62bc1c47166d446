/- The statement ScoreTells: the walk. -/
import Derived.Test.YtillhbbeghbfeaaDoorTeq
namespace Go.Proofs.YtillhbbeghbfeaaDoor
set_option linter.unusedVariables false
set_option linter.unusedSimpArgs false
open Go.RowKit

theorem q_RAlike (x y : Nat) (hx : x < 18446744073709551616) (hy : y < 18446744073709551616) (b : Bool) (hb : aliF x y = b) : ∀ w, Calls Tryd.prog 31 #[.float .f64 x, .float .f64 y] w fun e w' => e = .returned (.bool b) ∧ w' = w :=
  fun w => (ref1_Alike x y w hx hy).mono fun e w' ⟨a, c⟩ => ⟨by rw [a, hb], c.symm⟩
theorem clampF_word (x lo hi : Nat) (hx : x < 18446744073709551616) (hl : lo < 18446744073709551616) (hh : hi < 18446744073709551616) : clampF qN x lo hi < 18446744073709551616 := by
  unfold clampF
  repeat' split
  all_goals first | assumption | decide
theorem aliF_self (x : Nat) : aliF x x = true := by rw [aliF_KF]; simp
/-- Two answers of one list are the same. -/
theorem q_SameInts (A A2 : Option Addr) (n c m c2 : Nat) (xs : List Int) (w : World) (h : Sl w A n c (i64s xs)) (h2 : Sl w A2 m c2 (i64s xs)) :
    Calls Tryd.prog 28 #[.slice A n c, .slice A2 m c2] w fun e w' => e = .returned (.bool true) ∧ Ext w w' :=
  (SameInts A A2 n c m c2 xs xs w h h2).mono fun e w' ⟨a, k, hk⟩ => ⟨by rw [a]; simp, hk ▸ (Ext.refl w).drewN k⟩
set_option maxRecDepth 100000 in
set_option maxHeartbeats 8000000 in
theorem law_ScoreTells (w : World) (htab : TabW w) (A : Option Addr) (n cc : Nat) (zs : List Int) (h : Sl w A n cc (zs.map (Value.int .u64))) (hw : ∀ x ∈ zs, (Lit.int .u64 x).wf = true) (a : Int) (ha1 : 0 ≤ a) (ha2 : a ≤ 18446744073709551615) (b : Int) (hb1 : 0 ≤ b) (hb2 : b ≤ 18446744073709551615) (c : Int) (hc1 : 0 ≤ c) (hc2 : c ≤ 18446744073709551615) (f : Int) (f1 : -9223372036854775808 ≤ f) (f2 : f ≤ 9223372036854775807) (t : Int) (t1 : -9223372036854775808 ≤ t) (t2 : t ≤ 9223372036854775807) :
    Calls Tryd.prog 10 #[.slice A n cc, .int .u64 a, .int .u64 b, .int .u64 c, .int .i64 f, .int .i64 t] w fun e w' => e = .returned (.bool true) ∧ Ext w w' := by
  have hcm := h.cm
  have hnc := h.nc
  by_cases h40 : 40 < n
  · have i1 : (n : Int) > 40 := by omega
    go_enter Tryd.func10, Tryd.ntmps10
    go_wp2_with (go_at_call 17; refine (law1_awake _).mono ?_; rintro e w9 ⟨rfl, hE9⟩)
    go_ret
    exact ⟨rfl, hE9⟩
  have ra := run_from a
  have rb := run_from b
  have rc := run_from c
  have hx : a.toNat < 18446744073709551616 := by omega
  have hy : b.toNat < 18446744073709551616 := by omega
  have hz : c.toNat < 18446744073709551616 := by omega
  generalize a.toNat = x at *
  generalize b.toNat = y at *
  generalize c.toNat = z at *
  have hNum := hide (f_numbers w A n cc zs h hw (by omega))
  have hWd := Words.of64 hw
  have hlen : zs.length = n := by have := h.len; rwa [List.length_map] at this
  obtain ⟨xs, hxs⟩ : ∃ xs, xs = zs.map Int.toNat := ⟨_, rfl⟩
  rw [← hxs] at hNum hWd
  have HW := hide hWd
  have hn40 : n ≤ 40 := by omega
  clear ha1 ha2 hb1 hb2 hc1 hc2 h hw hlen hxs hWd h40
  have i1 : ¬ (n : Int) > 40 := by omega
  have Hx := hide hx
  have Hy := hide hy
  have Hz := hide hz
  clear hx hy hz
  have HT := hide htab
  clear htab
  go_enter Tryd.func10, Tryd.ntmps10
  go_wp2_with fail
  refine hNum.out.mono ?_
  rintro e w1 ⟨A', c1, rfl, hO, hE⟩
  have hOrd := hide (f_Order w1 A' n c1 xs hO.sl HW.out (by omega))
  have HO := hide hO
  clear hO hNum
  go_wp2_with fail
  with_reducible refine hOrd.out.mono ?_
  rintro e w2 ⟨g, c2, Z, rfl, hOZ, hE2, hZs, hZp⟩
  have hRef := hide (ref1_Order w2 A' n c1 xs (HO.out.ext hE2).sl HW.out (by omega))
  have HOZ := hide hOZ
  have HZ := hide (And.intro hZs hZp)
  have HE2 := hide hE2
  clear hOZ hZs hZp hE2 hOrd
  go_wp2_with fail
  with_reducible refine hRef.out.mono ?_
  rintro e w3 ⟨A3, c3, Z3, rfl, hO3, hE3, hZ3s, hZ3p⟩
  have hZZ : Z3 = Z := srt_uniq hZ3s HZ.out.1 (hZ3p.trans HZ.out.2.symm)
  subst hZZ
  have hSame := hide (q_SameInts (some ⟨g, 0, none⟩) A3 n c2 n c3 Z3 w3 (HOZ.out.ext hE3).sl hO3.sl)
  have HE3 := hide hE3
  clear hO3 hE3 hZ3s hZ3p hRef
  go_wp2_with fail
  with_reducible refine hSame.out.mono ?_
  rintro e w4 ⟨rfl, hE4⟩
  have HE4 := hide (HE3.out.trans hE4)
  have hBest := hide (f_Best A' n c1 xs w4 (HO.out.ext (HE2.out.trans HE4.out)).sl HW.out)
  obtain ⟨bv, hbv⟩ : ∃ bv, bv = bestF xs := ⟨_, rfl⟩
  rw [← hbv] at hBest
  have Hbv := hide hbv
  clear hE4 hSame hbv
  go_wp2_with fail
  with_reducible refine hBest.out.mono ?_
  rintro e w5 ⟨rfl, hww⟩
  subst hww
  have hRB := hide (ref1_Best A' n c1 xs w4 (HO.out.ext (HE2.out.trans HE4.out)).sl HW.out)
  rw [← Hbv.out] at hRB
  clear hBest
  go_wp2_with fail
  with_reducible refine hRB.out.mono ?_
  rintro e w5 ⟨rfl, hE5⟩
  have HE5 := hide (HE4.out.trans hE5)
  have hMe := hide (f_MeanO w5 A' n c1 xs (HO.out.ext (HE2.out.trans HE5.out)).sl HW.out (by omega))
  have bb : (bv == bv) = true := by simp
  clear hRB hE5
  go_wp2_with fail
  with_reducible refine hMe.out.mono ?_
  rintro e w6 ⟨r1, rfl, hE6, hr1, hr1b⟩
  have HE6 := hide (HE5.out.trans hE6)
  have hRM := hide (ref1_MeanO w6 A' n c1 xs (HO.out.ext (HE2.out.trans HE6.out)).sl HW.out (by omega))
  have Hr1 := hide (And.intro hr1 hr1b)
  clear hMe hE6 hr1 hr1b
  go_wp2_with fail
  with_reducible refine hRM.out.mono ?_
  rintro e w7 ⟨r2, rfl, hE7, hr2, hr2b⟩
  have HE7 := hide (HE6.out.trans hE7)
  have hAl := hide (q_RAlike r1 r2 Hr1.out.2 hr2b true (Hr1.out.1.alike hr2))
  clear hRM hE7 hr2 hr2b
  go_wp2_with fail
  with_reducible refine (hAl.out _).mono ?_
  rintro e w8 ⟨rfl, hww⟩
  subst hww
  have hOv := hide (f_OverInts (w0 := w1) (w := w8) (g := g) (n := n) (c := c2) (zs := Z3) ⟨HOZ.out.ext HE7.out, HE2.out.trans HE7.out⟩ (by omega))
  clear hAl
  go_wp2_with fail
  with_reducible refine hOv.out.mono ?_
  rintro e w9 ⟨rfl, hE9⟩
  have HE9 := hide (hE.trans hE9)
  clear hOv hE9 hE HE7 HE6 HE5 HE4 HE3 HE2 HO HOZ HZ
  have hA1 := hide (q_Alike x y Hx.out Hy.out (aliF x y) rfl)
  have hA2 := hide (q_RAlike x y Hx.out Hy.out (aliF x y) rfl)
  obtain ⟨b1, hb1⟩ : ∃ b1, b1 = aliF x y := ⟨_, rfl⟩
  rw [← hb1] at hA1 hA2
  have bb1 : (b1 == b1) = true := by simp
  go_wp2_with fail
  with_reducible refine (hA1.out _).mono ?_
  rintro e w8 ⟨rfl, hww⟩
  subst hww
  go_wp2_with fail
  with_reducible refine (hA2.out _).mono ?_
  rintro e w9 ⟨rfl, hww⟩
  subst hww
  have hL1 := hide (q_Less x y Hx.out Hy.out (lessF x y) rfl)
  have hL2 := hide (q_RLess x y Hx.out Hy.out (lessF x y) rfl)
  obtain ⟨b2, hb2⟩ : ∃ b2, b2 = lessF x y := ⟨_, rfl⟩
  rw [← hb2] at hL1 hL2
  have bb2 : (b2 == b2) = true := by simp
  clear hA1 hA2
  go_wp2_with fail
  with_reducible refine (hL1.out _).mono ?_
  rintro e w9 ⟨rfl, hww⟩
  subst hww
  go_wp2_with fail
  with_reducible refine (hL2.out _).mono ?_
  rintro e w8 ⟨rfl, hww⟩
  subst hww
  have hC1 := hide (f_Clamp x y z w8 Hx.out Hy.out Hz.out)
  have hC2 := hide (ref1_Clamp x y z w8 Hx.out Hy.out Hz.out)
  have hcw := clampF_word x y z Hx.out Hy.out Hz.out
  generalize clampF qN x y z = q at *
  have hC3 := hide (q_RAlike q q hcw hcw true (aliF_self q))
  clear hL1 hL2 hcw
  go_wp2_with fail
  with_reducible refine hC1.out.mono ?_
  rintro e w9 ⟨rfl, hww⟩
  subst hww
  go_wp2_with fail
  with_reducible refine hC2.out.mono ?_
  rintro e w9 ⟨rfl, hww⟩
  subst hww
  go_wp2_with fail
  with_reducible refine (hC3.out _).mono ?_
  rintro e w9 ⟨rfl, hww⟩
  subst hww
  have hT1 := hide (f_TextW x Hx.out w9 (HT.out.ext HE9.out))
  have hT2 := hide (fun w => ref1_Text x Hx.out w)
  obtain ⟨s, hs⟩ : ∃ s, s = txtF x := ⟨_, rfl⟩
  rw [← hs] at hT1
  have bb3 : (s.toList == s.toList) = true := by simp
  clear hC1 hC2 hC3
  go_wp2_with fail
  with_reducible refine hT1.out.mono ?_
  rintro e w10 ⟨rfl, hE10⟩
  go_wp2_with fail
  with_reducible refine (hT2.out _).mono ?_
  rintro e w11 ⟨rfl, hE11⟩
  rw [← hs]
  have HE11 := hide (HE9.out.trans (hE10.trans hE11))
  have hS1 := hide (fun w => f_ShareO f t w)
  have hS2 := hide (fun w => ref1_ShareO f t w)
  clear hT1 hT2 hE10 hE11 hs
  go_wp2_with fail
  with_reducible refine (hS1.out _).mono ?_
  rintro e w12 ⟨r3, rfl, hE12, hr3, hr3b⟩
  go_wp2_with fail
  with_reducible refine (hS2.out _).mono ?_
  rintro e w13 ⟨r4, rfl, hE13, hr4, hr4b⟩
  have hA3 := hide (q_RAlike r3 r4 hr3b hr4b true (hr3.alike hr4))
  have HE13 := hide (HE11.out.trans (hE12.trans hE13))
  clear hS1 hS2 hE12 hE13 hr3 hr4 hr3b hr4b
  go_wp2_with fail
  with_reducible refine (hA3.out _).mono ?_
  rintro e w14 ⟨rfl, hww⟩
  subst hww
  clear hA3
  go_wp2_with fail
  with_reducible refine (law1_awake _).mono ?_
  rintro e w15 ⟨rfl, hE15⟩
  go_wp2_with fail
  go_ret
  exact ⟨rfl, HE13.out.trans hE15⟩
end Go.Proofs.YtillhbbeghbfeaaDoor
