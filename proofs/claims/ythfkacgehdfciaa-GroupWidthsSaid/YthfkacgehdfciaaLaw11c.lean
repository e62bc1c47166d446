/- The third statement on sectors of bits: read for fewer. -/
import Derived.Test.YthfkacgehdfciaaLaw11b
import Derived.Test.YthfkacgehdfciaaFilt
import Derived.Test.YthfkacgehdfciaaApart
namespace Go.Proofs.Ythfkacgehdfciaa
set_option linter.unusedVariables false
open Go.RowKit

/-- A bit of any number, as it is asked for. -/
def bitT (x : Int) (k : Nat) : Bool := bits .and .i64 (x / 2 ^ k) 1 == 1
def three (f : Nat → Bool) : Nat → Bool := fun j => decide (j % 3 = 0) && f (j / 3)
theorem three_map (f : Nat → Bool) (k : Nat) : (filtR f k).map (3 * ·) = filtR (three f) (3 * k) := filtR_three f k
theorem pad_self {n : Nat} {xs : List Nat} (h : xs.length = n) : padTo n xs = xs := by unfold padTo; rw [h]; simp
theorem nI_sorted_le {xs : List Nat} {n : Nat} (h : ∀ i ∈ xs, i < n) (hn : n ≤ 1000) : ∀ i ∈ nI xs, i ≤ 9223372036854775807 := by
  intro i hi
  obtain ⟨k, hk, rfl⟩ := List.mem_map.1 hi
  have := h k hk
  omega

set_option maxRecDepth 100000 in
set_option maxHeartbeats 2000000 in
theorem law_GroupWidths (w : World) (z1 : Int) (a1 : -9223372036854775808 ≤ z1) (b1 : z1 ≤ 9223372036854775807) (z2 : Int) (a2 : -9223372036854775808 ≤ z2) (b2 : z2 ≤ 9223372036854775807)
    (z3 : Int) (_a3 : -9223372036854775808 ≤ z3) (_b3 : z3 ≤ 9223372036854775807) (z4 : Int) (_a4 : -9223372036854775808 ≤ z4) (_b4 : z4 ≤ 9223372036854775807) :
    Calls Try.prog 14 #[.int .i64 z1, .int .i64 z2, .int .i64 z3, .int .i64 z4] w fun e w' => e = .returned (.bool true) ∧ Ext w w' := by
  clear _a3 _b3 _a4 _b4
  go_enter Try.func14, Try.ntmps14
  go_wp2_with fail
  refine (Low z3 _ 29 _ rfl (by omega) (by omega)).mono ?_
  rintro e w1 ⟨rfl, rfl⟩
  have hp := low_lt z3 (n := 29) (by omega)
  generalize low z3 29 = p at *
  go_wp2_with fail
  refine (Low z4 _ 81 _ rfl (by omega) (by omega)).mono ?_
  rintro e w1 ⟨rfl, rfl⟩
  have hr := low_lt z4 (n := 81) (by omega)
  generalize low z4 81 = r at *
  obtain ⟨n, hn⟩ : ∃ n : Nat, n = 4 + p := ⟨_, rfl⟩
  obtain ⟨m, hm⟩ : ∃ m : Nat, m = 16 + r := ⟨_, rfl⟩
  have HN := hide hn
  have HM := hide hm
  have bn : 4 ≤ n ∧ n ≤ 32 := by omega
  have bm : 16 ≤ m ∧ m ≤ 96 := by omega
  clear hn hm
  have hw : ∀ k : Int, 0 ≤ k → k < 32 → bits .and .i64 (z1 / 2 ^ k.toNat) 1 = z1 / 2 ^ k.toNat % 2 := fun k _ _ => and1_64 _
  clear hw
  obtain ⟨f1, hf1⟩ : ∃ f : Nat → Bool, f = bitT z1 := ⟨_, rfl⟩
  obtain ⟨f2, hf2⟩ : ∃ f : Nat → Bool, f = bitT z2 := ⟨_, rfl⟩
  have HF1 := hide hf1
  have HF2 := hide hf2
  clear hf1 hf2
  go_wp2
  go_loopw [9, 10, 11] (fun a b i wr => ∃ (k n1 n2 c1 c2 : Nat) (A1 A2 : Option Addr), k ≤ 32 ∧ a = .slice A1 n1 c1 ∧ b = .slice A2 n2 c2 ∧ i = .int .i64 k ∧ n1 ≤ k ∧ n2 ≤ k ∧
    Own wr w.heap.size 3 A1 n1 c1 (i64s (nI (filtR f1 k))) ∧ Own wr w.heap.size 3 A2 n2 c2 (i64s (nI ((filtR f2 k).map (3 * ·)))) ∧ Apart A1 A2 ∧ Ext w wr) (fun _ _ i _ => 32 - (intOf i).toNat)
  case atStart => exact ⟨0, 0, 0, 0, 0, none, none, by omega, rfl, rfl, rfl, by omega, by omega, Own.nilS _ _ _, Own.nilS _ _ _, Apart.nil _, Ext.refl _⟩
  case round =>
    obtain ⟨k, n1, n2, c1, c2, A1, A2, hk, rfl, rfl, rfl, hn1, hn2, hO1, hO2, hAp, hE⟩ := hrel
    by_cases hlt : k < 32
    · have hsz := hE.size
      have hs1 := filtR_succ f1 k
      have hs2 := filtR_succ f2 k
      have HS1 := hide hs1
      have HS2 := hide hs2
      clear hs1 hs2
      rcases e1 : f1 k with _ | _ <;> rcases e2 : f2 k with _ | _
      · have T1 : (bits .and .i64 (z1 / 2 ^ k) 1 == 1) = false := by rw [← e1, HF1.out]; rfl
        have T2 : (bits .and .i64 (z2 / 2 ^ k) 1 == 1) = false := by rw [← e2, HF2.out]; rfl
        rw [e1] at HS1
        rw [e2] at HS2
        clear e1 e2
        go_wp2
        go_roundw
        case rel => exact ⟨k + 1, n1, n2, c1, c2, A1, A2, by omega, rfl, rfl, by go_num, by omega, by omega, (by have := HS1.out; simp only [Bool.false_eq_true, if_false] at this; rw [this]; exact hO1), (by have := HS2.out; simp only [Bool.false_eq_true, if_false] at this; rw [this]; exact hO2), hAp, hE⟩
        case measure => simp [intOf]; omega
      · have T1 : (bits .and .i64 (z1 / 2 ^ k) 1 == 1) = false := by rw [← e1, HF1.out]; rfl
        have T2 : (bits .and .i64 (z2 / 2 ^ k) 1 == 1) = true := by rw [← e2, HF2.out]; rfl
        rw [e1] at HS1
        rw [e2] at HS2
        clear e1 e2
        go_wp2_with (first
          | (at_builtin; refine appI2 rfl (.tmp 42) (.tmp 45) rfl w.heap.size _ n2 c2 _ rfl (hO2.ext ((Ext.refl wr).alloc _)) _ 1 1 _ rfl (Sl.lit wr _ 3 1 rfl (by omega) (by simp [Value.oneCell'])) (by omega) (by simp; omega) ?_; intro A4 c4 w4 hO4 hG4 hT4; have hK4 := (hO1.ext ((Ext.refl wr).alloc _)).kept hG4 hAp.symm.row; have hAp4 := (hAp.symm.grew hT4 hO1 (by simp)).symm; have hE4 := (hE.alloc _).grown hG4 (fun q hq => (hO2.block q hq).1)))
        go_roundw
        case rel => exact ⟨k + 1, n1, n2 + 1, c1, c4, A1, A4, by omega, rfl, rfl, by go_num, by omega, by omega, (by have := HS1.out; simp only [Bool.false_eq_true, if_false] at this; rw [this]; exact hK4), (by have := HS2.out; simp only [if_true] at this; rw [this]; rw [List.map_append, nI_append, i64s_append]; exact hO4), hAp4, hE4⟩
        case measure => simp [intOf]; omega
      · have T1 : (bits .and .i64 (z1 / 2 ^ k) 1 == 1) = true := by rw [← e1, HF1.out]; rfl
        have T2 : (bits .and .i64 (z2 / 2 ^ k) 1 == 1) = false := by rw [← e2, HF2.out]; rfl
        rw [e1] at HS1
        rw [e2] at HS2
        clear e1 e2
        go_wp2_with (first
          | (at_builtin; refine appI2 rfl (.tmp 33) (.tmp 35) rfl w.heap.size _ n1 c1 _ rfl (hO1.ext ((Ext.refl wr).alloc _)) _ 1 1 _ rfl (Sl.lit wr _ 3 1 rfl (by omega) (by simp [Value.oneCell'])) (by omega) (by simp; omega) ?_; intro A3 c3 w3 hO3 hG3 hT3; have hK3 := (hO2.ext ((Ext.refl wr).alloc _)).kept hG3 hAp.row; have hAp3 := hAp.grew hT3 hO2 (by simp); have hE3 := (hE.alloc _).grown hG3 (fun q hq => (hO1.block q hq).1); have hsz3 := hE3.size))
        go_roundw
        case rel => exact ⟨k + 1, n1 + 1, n2, c3, c2, A3, A2, by omega, rfl, rfl, by go_num, by omega, by omega, (by have := HS1.out; simp only [if_true] at this; rw [this]; rw [nI_append, i64s_append]; exact hO3), (by have := HS2.out; simp only [Bool.false_eq_true, if_false] at this; rw [this]; exact hK3), hAp3, hE3⟩
        case measure => simp [intOf]; omega
      · have T1 : (bits .and .i64 (z1 / 2 ^ k) 1 == 1) = true := by rw [← e1, HF1.out]; rfl
        have T2 : (bits .and .i64 (z2 / 2 ^ k) 1 == 1) = true := by rw [← e2, HF2.out]; rfl
        rw [e1] at HS1
        rw [e2] at HS2
        clear e1 e2
        go_wp2_with (first
          | (at_builtin; refine appI2 rfl (.tmp 33) (.tmp 35) rfl w.heap.size _ n1 c1 _ rfl (hO1.ext ((Ext.refl wr).alloc _)) _ 1 1 _ rfl (Sl.lit wr _ 3 1 rfl (by omega) (by simp [Value.oneCell'])) (by omega) (by simp; omega) ?_; intro A3 c3 w3 hO3 hG3 hT3; have hK3 := (hO2.ext ((Ext.refl wr).alloc _)).kept hG3 hAp.row; have hAp3 := hAp.grew hT3 hO2 (by simp); have hE3 := (hE.alloc _).grown hG3 (fun q hq => (hO1.block q hq).1); have hsz3 := hE3.size)
          | (at_builtin; refine appI2 rfl (.tmp 42) (.tmp 45) rfl w.heap.size _ n2 c2 _ rfl (hK3.ext ((Ext.refl w3).alloc _)) _ 1 1 _ rfl (Sl.lit w3 _ 3 1 rfl (by omega) (by simp [Value.oneCell'])) (by omega) (by simp; omega) ?_; intro A4 c4 w4 hO4 hG4 hT4; have hK4 := (hO3.ext ((Ext.refl w3).alloc _)).kept hG4 hAp3.symm.row; have hAp4 := (hAp3.symm.grew hT4 hO3 (by simp)).symm; have hE4 := (hE3.alloc _).grown hG4 (fun q hq => (hK3.block q hq).1)))
        go_roundw
        case rel => exact ⟨k + 1, n1 + 1, n2 + 1, c3, c4, A3, A4, by omega, rfl, rfl, by go_num, by omega, by omega, (by have := HS1.out; simp only [if_true] at this; rw [this]; rw [nI_append, i64s_append]; exact hK4), (by have := HS2.out; simp only [if_true] at this; rw [this]; rw [List.map_append, nI_append, i64s_append]; exact hO4), hAp4, hE4⟩
        case measure => simp [intOf]; omega
    · obtain rfl : k = 32 := by omega
      rw [three_map f2 32] at hO2
      have hl1 := hO1.len
      rw [i64s_len, nI_len] at hl1
      have hl2 := hO2.len
      rw [i64s_len, nI_len] at hl2
      have m1 : ∀ i ∈ filtR f1 32, i < 32 := fun i hi => (mem_filtR.1 hi).1
      have m2 : ∀ i ∈ filtR (three f2) (3 * 32), i < 96 := fun i hi => (mem_filtR.1 hi).1
      have I1 := hide (nI_sorted_le m1 (by omega))
      have I2 := hide (nI_sorted_le m2 (by omega))
      have so1 := filtR_sorted f1 32
      have so2 := filtR_sorted (three f2) (3 * 32)
      have HG := hide (g_lay_ok (x := ofB 32 (nI (filtR f1 32))) (y := ofB 96 (nI (filtR (three f2) (3 * 32)))) (by rw [ofB_len]; omega) (by rw [ofB_len]; omega) n m)
      have far1 := filtR_far (g := f1) (n := n) (N := 32)
      have far2 := filtR_far (g := three f2) (n := m) (N := 3 * 32)
      have hall1 := fun h => all_filtR (g := f1) (n := n) (N := 32) bn.2 h
      have hall2 := fun h => all_filtR (g := three f2) (n := m) (N := 3 * 32) bm.2 h
      obtain ⟨gx1, gx2, gx3, _⟩ := g_lay (x := ofB 32 (nI (filtR f1 32))) (y := ofB 96 (nI (filtR (three f2) (3 * 32)))) (by rw [ofB_len]; omega) (by rw [ofB_len]; omega)
      have GX := hide (And.intro gx2 gx3)
      clear gx1 gx2 gx3
      have lx := ofB_len 32 (nI (filtR f1 32))
      have ly := ofB_len 96 (nI (filtR (three f2) (3 * 32)))
      have bx := Bytes.ofB 32 (nI (filtR f1 32))
      have bY := Bytes.ofB 96 (nI (filtR (three f2) (3 * 32)))
      simp only [show 3 * 32 = 96 from rfl] at *
      have c1x := bits_Of 32 32 rfl _ _ _ _ wr hO1.sl I1.out (by omega)
      have c2x := fun w1 hS => bits_Of 96 96 rfl A2 n2 c2 _ w1 hS I2.out (by omega)
      generalize filtR f1 32 = us at *
      generalize filtR (three f2) 96 = vs at *
      generalize ofB 32 (nI us) = x0 at *
      generalize ofB 96 (nI vs) = y0 at *
      have HF := hide (And.intro far1 far2)
      have HA1 := hide hall1
      have HA2 := hide hall2
      have HL := hide (And.intro hl1 hl2)
      have HX := hide (And.intro lx ly)
      have HSO := hide (And.intro so1 so2)
      have HC2 := hide c2x
      clear far1 far2 hall1 hall2 hl1 hl2 lx ly so1 so2 m1 m2 I1 I2 HF1 HF2 c2x
      go_wp2_with fail
      refine c1x.mono ?_
      clear c1x
      rintro e w3 ⟨A3, c3, rfl, hO3, hE3⟩
      go_wp2_with fail
      refine (HC2.out _ (hO2.sl.ext hE3)).mono ?_
      rintro e w4 ⟨A4, c4, rfl, hO4, hE4⟩
      clear HC2
      go_wp2_with fail
      refine (group_Lay _ _ _ _ _ _ _ _ _ (hO3.ext hE4).sl hO4.sl bx bY (by omega) (by omega) (by omega) (by omega)).mono ?_
      rintro e w5 ⟨g5, c5, rfl, hO5, hE5⟩
      go_wp2_with fail
      refine (group_Read2 _ _ _ _ n m _ _ (by rw [HN.out]; omega) (by rw [HM.out]; omega) _ hO5.sl (Bytes.sealOf (by omega) (Bytes.gB bx bY)) (by omega) (by omega) (by omega) (by omega)).mono ?_
      rintro e w6 ⟨hR, hE6⟩
      have hE36 := hE3.trans (hE4.trans (hE5.trans hE6))
      have hP1 := hO1.ext hE36
      have hP2 := hO2.ext hE36
      have hEE := hE.trans hE36
      have cl1 : n1 = 0 ∧ Hid (∀ i ∈ us, i < n) ∨ ∃ b o x, A1 = some ⟨b, o, none⟩ ∧ 0 < n1 ∧ w6.cell? ⟨b, o + (n1 - 1), none⟩ = some (.int .i64 (x : Nat)) ∧ Hid ((∀ i ∈ us, i < n) ↔ x < n) := by
        by_cases h0 : n1 = 0
        · refine .inl ⟨h0, ?_⟩
          have : us = [] := List.eq_nil_of_length_eq_zero (by rw [HL.out.1]; exact h0)
          subst this
          simp [Hid]
        · obtain ⟨b, o, x, hA, hx, hc⟩ := hP1.sl.atI (k := n1 - 1) (by omega)
          have hx' := hx.out
          simp only [nI, List.getElem?_map, Option.map_eq_some_iff] at hx'
          obtain ⟨y, hy, rfl⟩ := hx'
          rw [← HL.out.1] at hy
          exact .inr ⟨b, o, y, hA, by omega, hc, last_lt HSO.out.1 hy⟩
      have cl2 : n2 = 0 ∧ Hid (∀ i ∈ vs, i < m) ∨ ∃ b o x, A2 = some ⟨b, o, none⟩ ∧ 0 < n2 ∧ w6.cell? ⟨b, o + (n2 - 1), none⟩ = some (.int .i64 (x : Nat)) ∧ Hid ((∀ i ∈ vs, i < m) ↔ x < m) := by
        by_cases h0 : n2 = 0
        · refine .inl ⟨h0, ?_⟩
          have : vs = [] := List.eq_nil_of_length_eq_zero (by rw [HL.out.2]; exact h0)
          subst this
          simp [Hid]
        · obtain ⟨b, o, x, hA, hx, hc⟩ := hP2.sl.atI (k := n2 - 1) (by omega)
          have hx' := hx.out
          simp only [nI, List.getElem?_map, Option.map_eq_some_iff] at hx'
          obtain ⟨y, hy, rfl⟩ := hx'
          rw [← HL.out.2] at hy
          exact .inr ⟨b, o, y, hA, by omega, hc, last_lt HSO.out.2 hy⟩
      have hyes : (∀ i ∈ us, i < n) → (∀ i ∈ vs, i < m) → gOk (sealOf 71 (gB x0 y0)) n m := fun h1 h2 => HG.out.2 ⟨HF.out.1.2 h1, HF.out.2.2 h2⟩
      have hnot : ¬ ((∀ i ∈ us, i < n) ∧ (∀ i ∈ vs, i < m)) → ¬ gOk (sealOf 71 (gB x0 y0)) n m := fun h hg => h ⟨HF.out.1.1 (HG.out.1 hg).1, HF.out.2.1 (HG.out.1 hg).2⟩
      have HY := hide hyes
      have HNO := hide hnot
      clear hyes hnot HG HF HSO HL
      rcases cl1 with ⟨hz1, hp1⟩ | ⟨b1, o1, x1, rfl, h01, hc1, hp1⟩
      · have t1 : ((n1 : Int) == 0) = true := by simp; omega
        clear hz1
        rcases cl2 with ⟨hz2, hp2⟩ | ⟨b2, o2, x2, rfl, h02, hc2, hp2⟩
        · have t2 : ((n2 : Int) == 0) = true := by simp; omega
          clear hz2
          have PU : ∀ i ∈ us, i < n := hp1.out
          have PV : ∀ i ∈ vs, i < m := hp2.out
          obtain ⟨A6, c6, A7, c7, B7, rfl, o6, o7, _, _⟩ := hR.ok (HY.out PU PV)
          clear hR
          have ex : gXr (sealOf 71 (gB x0 y0)) n = x0.take ((n + 7) / 8) := by unfold gXr; rw [GX.out.1, pad_self HX.out.1]
          have ey : gYr (sealOf 71 (gB x0 y0)) m = y0.take ((m + 7) / 8) := by unfold gYr; rw [GX.out.2, pad_self HX.out.2]
          rw [ex] at o6
          rw [ey] at o7
          clear ex ey
          have EA := hide (HA1.out PU)
          have EB := hide (HA2.out PV)
          clear PU PV
          have l6 : ((n : Int) + 7) / 8 = (((n + 7) / 8 : Nat) : Int) := by omega
          have l7 : ((m : Int) + 7) / 8 = (((m + 7) / 8 : Nat) : Int) := by omega
          have L67 := hide (And.intro l6 l7)
          clear l6 l7
          go_wp2_with fail
          refine (bits_All _ _ _ _ _ _ o6.sl (bx.take _) (by omega) (by omega)).mono ?_
          rintro e w9 ⟨A9, m9, c9, rfl, hO9, hE9⟩
          have et : (4 + (p : Int)).toNat = n := by rw [HN.out]; omega
          rw [et, EA.out] at hO9
          clear et
          go_wp2_with fail
          refine (SameInts _ _ _ _ _ _ (nI us) (nI us) _ hO9.sl (hP1.sl.ext hE9)).mono ?_
          rintro e w10 ⟨rfl, j10⟩
          have hE10 := drewExt j10
          clear j10
          rw [decide_eq_true rfl]
          go_wp2_with fail
          refine (bits_All _ _ _ _ _ _ (o7.sl.ext (hE9.trans hE10)) (bY.take _) (by omega) (by omega)).mono ?_
          rintro e w11 ⟨A11, m11, c11, rfl, hO11, hE11⟩
          have et : (16 + (r : Int)).toNat = m := by rw [HM.out]; omega
          rw [et, EB.out] at hO11
          clear et
          go_wp2_with fail
          refine (SameInts _ _ _ _ _ _ (nI vs) (nI vs) _ hO11.sl (hP2.sl.ext (hE9.trans (hE10.trans hE11)))).mono ?_
          rintro e w12 ⟨rfl, j12⟩
          have hE12 := drewExt j12
          clear j12
          rw [decide_eq_true rfl]
          have q1 : (((n : Int) + 7) / 8 == (4 + (p : Int) + 7) / 8) = true := by rw [HN.out]; simp
          have q2 : (((m : Int) + 7) / 8 == (16 + (r : Int) + 7) / 8) = true := by rw [HM.out]; simp
          go_wp2_with (go_at_call 40; refine (law11_awake _).mono ?_; rintro e w14 ⟨rfl, hE14⟩)
          go_ret
          exact ⟨rfl, hEE.trans (hE9.trans (hE10.trans (hE11.trans (hE12.trans hE14))))⟩
        · have t2 : ((n2 : Int) == 0) = false := by simp; omega
          by_cases hx2 : x2 < m
          · have t2' : decide ((x2 : Int) < 16 + (r : Int)) = true := by rw [HM.out] at hx2; simp; omega
            have s2 : (0 : Int) < n2 := by omega
            have PU : ∀ i ∈ us, i < n := hp1.out
            have PV : ∀ i ∈ vs, i < m := hp2.out.2 hx2
            obtain ⟨A6, c6, A7, c7, B7, rfl, o6, o7, _, _⟩ := hR.ok (HY.out PU PV)
            clear hR
            have ex : gXr (sealOf 71 (gB x0 y0)) n = x0.take ((n + 7) / 8) := by unfold gXr; rw [GX.out.1, pad_self HX.out.1]
            have ey : gYr (sealOf 71 (gB x0 y0)) m = y0.take ((m + 7) / 8) := by unfold gYr; rw [GX.out.2, pad_self HX.out.2]
            rw [ex] at o6
            rw [ey] at o7
            clear ex ey
            have EA := hide (HA1.out PU)
            have EB := hide (HA2.out PV)
            clear PU PV
            have l6 : ((n : Int) + 7) / 8 = (((n + 7) / 8 : Nat) : Int) := by omega
            have l7 : ((m : Int) + 7) / 8 = (((m + 7) / 8 : Nat) : Int) := by omega
            have L67 := hide (And.intro l6 l7)
            clear l6 l7
            go_wp2_with fail
            refine (bits_All _ _ _ _ _ _ o6.sl (bx.take _) (by omega) (by omega)).mono ?_
            rintro e w9 ⟨A9, m9, c9, rfl, hO9, hE9⟩
            have et : (4 + (p : Int)).toNat = n := by rw [HN.out]; omega
            rw [et, EA.out] at hO9
            clear et
            go_wp2_with fail
            refine (SameInts _ _ _ _ _ _ (nI us) (nI us) _ hO9.sl (hP1.sl.ext hE9)).mono ?_
            rintro e w10 ⟨rfl, j10⟩
            have hE10 := drewExt j10
            clear j10
            rw [decide_eq_true rfl]
            go_wp2_with fail
            refine (bits_All _ _ _ _ _ _ (o7.sl.ext (hE9.trans hE10)) (bY.take _) (by omega) (by omega)).mono ?_
            rintro e w11 ⟨A11, m11, c11, rfl, hO11, hE11⟩
            have et : (16 + (r : Int)).toNat = m := by rw [HM.out]; omega
            rw [et, EB.out] at hO11
            clear et
            go_wp2_with fail
            refine (SameInts _ _ _ _ _ _ (nI vs) (nI vs) _ hO11.sl (hP2.sl.ext (hE9.trans (hE10.trans hE11)))).mono ?_
            rintro e w12 ⟨rfl, j12⟩
            have hE12 := drewExt j12
            clear j12
            rw [decide_eq_true rfl]
            have q1 : (((n : Int) + 7) / 8 == (4 + (p : Int) + 7) / 8) = true := by rw [HN.out]; simp
            have q2 : (((m : Int) + 7) / 8 == (16 + (r : Int) + 7) / 8) = true := by rw [HM.out]; simp
            go_wp2_with (go_at_call 40; refine (law11_awake _).mono ?_; rintro e w14 ⟨rfl, hE14⟩)
            go_ret
            exact ⟨rfl, hEE.trans (hE9.trans (hE10.trans (hE11.trans (hE12.trans hE14))))⟩
          · have t2' : decide ((x2 : Int) < 16 + (r : Int)) = false := by rw [HM.out] at hx2; simp; omega
            have s2 : (0 : Int) < n2 := by omega
            have hno := hR.no (HNO.out (fun h => hx2 (hp2.out.1 h.2)))
            clear hR
            subst hno
            go_wp2_with (go_at_call 40; refine (law11_awake _).mono ?_; rintro e w14 ⟨rfl, hE14⟩)
            go_ret
            exact ⟨rfl, hEE.trans hE14⟩
      · have t1 : ((n1 : Int) == 0) = false := by simp; omega
        have s1 : (0 : Int) < n1 := by omega
        by_cases hx1 : x1 < n
        · have t1' : decide ((x1 : Int) < 4 + (p : Int)) = true := by rw [HN.out] at hx1; simp; omega
          rcases cl2 with ⟨hz2, hp2⟩ | ⟨b2, o2, x2, rfl, h02, hc2, hp2⟩
          · have t2 : ((n2 : Int) == 0) = true := by simp; omega
            clear hz2
            have PU : ∀ i ∈ us, i < n := hp1.out.2 hx1
            have PV : ∀ i ∈ vs, i < m := hp2.out
            obtain ⟨A6, c6, A7, c7, B7, rfl, o6, o7, _, _⟩ := hR.ok (HY.out PU PV)
            clear hR
            have ex : gXr (sealOf 71 (gB x0 y0)) n = x0.take ((n + 7) / 8) := by unfold gXr; rw [GX.out.1, pad_self HX.out.1]
            have ey : gYr (sealOf 71 (gB x0 y0)) m = y0.take ((m + 7) / 8) := by unfold gYr; rw [GX.out.2, pad_self HX.out.2]
            rw [ex] at o6
            rw [ey] at o7
            clear ex ey
            have EA := hide (HA1.out PU)
            have EB := hide (HA2.out PV)
            clear PU PV
            have l6 : ((n : Int) + 7) / 8 = (((n + 7) / 8 : Nat) : Int) := by omega
            have l7 : ((m : Int) + 7) / 8 = (((m + 7) / 8 : Nat) : Int) := by omega
            have L67 := hide (And.intro l6 l7)
            clear l6 l7
            go_wp2_with fail
            refine (bits_All _ _ _ _ _ _ o6.sl (bx.take _) (by omega) (by omega)).mono ?_
            rintro e w9 ⟨A9, m9, c9, rfl, hO9, hE9⟩
            have et : (4 + (p : Int)).toNat = n := by rw [HN.out]; omega
            rw [et, EA.out] at hO9
            clear et
            go_wp2_with fail
            refine (SameInts _ _ _ _ _ _ (nI us) (nI us) _ hO9.sl (hP1.sl.ext hE9)).mono ?_
            rintro e w10 ⟨rfl, j10⟩
            have hE10 := drewExt j10
            clear j10
            rw [decide_eq_true rfl]
            go_wp2_with fail
            refine (bits_All _ _ _ _ _ _ (o7.sl.ext (hE9.trans hE10)) (bY.take _) (by omega) (by omega)).mono ?_
            rintro e w11 ⟨A11, m11, c11, rfl, hO11, hE11⟩
            have et : (16 + (r : Int)).toNat = m := by rw [HM.out]; omega
            rw [et, EB.out] at hO11
            clear et
            go_wp2_with fail
            refine (SameInts _ _ _ _ _ _ (nI vs) (nI vs) _ hO11.sl (hP2.sl.ext (hE9.trans (hE10.trans hE11)))).mono ?_
            rintro e w12 ⟨rfl, j12⟩
            have hE12 := drewExt j12
            clear j12
            rw [decide_eq_true rfl]
            have q1 : (((n : Int) + 7) / 8 == (4 + (p : Int) + 7) / 8) = true := by rw [HN.out]; simp
            have q2 : (((m : Int) + 7) / 8 == (16 + (r : Int) + 7) / 8) = true := by rw [HM.out]; simp
            go_wp2_with (go_at_call 40; refine (law11_awake _).mono ?_; rintro e w14 ⟨rfl, hE14⟩)
            go_ret
            exact ⟨rfl, hEE.trans (hE9.trans (hE10.trans (hE11.trans (hE12.trans hE14))))⟩
          · have t2 : ((n2 : Int) == 0) = false := by simp; omega
            by_cases hx2 : x2 < m
            · have t2' : decide ((x2 : Int) < 16 + (r : Int)) = true := by rw [HM.out] at hx2; simp; omega
              have s2 : (0 : Int) < n2 := by omega
              have PU : ∀ i ∈ us, i < n := hp1.out.2 hx1
              have PV : ∀ i ∈ vs, i < m := hp2.out.2 hx2
              obtain ⟨A6, c6, A7, c7, B7, rfl, o6, o7, _, _⟩ := hR.ok (HY.out PU PV)
              clear hR
              have ex : gXr (sealOf 71 (gB x0 y0)) n = x0.take ((n + 7) / 8) := by unfold gXr; rw [GX.out.1, pad_self HX.out.1]
              have ey : gYr (sealOf 71 (gB x0 y0)) m = y0.take ((m + 7) / 8) := by unfold gYr; rw [GX.out.2, pad_self HX.out.2]
              rw [ex] at o6
              rw [ey] at o7
              clear ex ey
              have EA := hide (HA1.out PU)
              have EB := hide (HA2.out PV)
              clear PU PV
              have l6 : ((n : Int) + 7) / 8 = (((n + 7) / 8 : Nat) : Int) := by omega
              have l7 : ((m : Int) + 7) / 8 = (((m + 7) / 8 : Nat) : Int) := by omega
              have L67 := hide (And.intro l6 l7)
              clear l6 l7
              go_wp2_with fail
              refine (bits_All _ _ _ _ _ _ o6.sl (bx.take _) (by omega) (by omega)).mono ?_
              rintro e w9 ⟨A9, m9, c9, rfl, hO9, hE9⟩
              have et : (4 + (p : Int)).toNat = n := by rw [HN.out]; omega
              rw [et, EA.out] at hO9
              clear et
              go_wp2_with fail
              refine (SameInts _ _ _ _ _ _ (nI us) (nI us) _ hO9.sl (hP1.sl.ext hE9)).mono ?_
              rintro e w10 ⟨rfl, j10⟩
              have hE10 := drewExt j10
              clear j10
              rw [decide_eq_true rfl]
              go_wp2_with fail
              refine (bits_All _ _ _ _ _ _ (o7.sl.ext (hE9.trans hE10)) (bY.take _) (by omega) (by omega)).mono ?_
              rintro e w11 ⟨A11, m11, c11, rfl, hO11, hE11⟩
              have et : (16 + (r : Int)).toNat = m := by rw [HM.out]; omega
              rw [et, EB.out] at hO11
              clear et
              go_wp2_with fail
              refine (SameInts _ _ _ _ _ _ (nI vs) (nI vs) _ hO11.sl (hP2.sl.ext (hE9.trans (hE10.trans hE11)))).mono ?_
              rintro e w12 ⟨rfl, j12⟩
              have hE12 := drewExt j12
              clear j12
              rw [decide_eq_true rfl]
              have q1 : (((n : Int) + 7) / 8 == (4 + (p : Int) + 7) / 8) = true := by rw [HN.out]; simp
              have q2 : (((m : Int) + 7) / 8 == (16 + (r : Int) + 7) / 8) = true := by rw [HM.out]; simp
              go_wp2_with (go_at_call 40; refine (law11_awake _).mono ?_; rintro e w14 ⟨rfl, hE14⟩)
              go_ret
              exact ⟨rfl, hEE.trans (hE9.trans (hE10.trans (hE11.trans (hE12.trans hE14))))⟩
            · have t2' : decide ((x2 : Int) < 16 + (r : Int)) = false := by rw [HM.out] at hx2; simp; omega
              have s2 : (0 : Int) < n2 := by omega
              have hno := hR.no (HNO.out (fun h => hx2 (hp2.out.1 h.2)))
              clear hR
              subst hno
              go_wp2_with (go_at_call 40; refine (law11_awake _).mono ?_; rintro e w14 ⟨rfl, hE14⟩)
              go_ret
              exact ⟨rfl, hEE.trans hE14⟩
        · have t1' : decide ((x1 : Int) < 4 + (p : Int)) = false := by rw [HN.out] at hx1; simp; omega
          clear cl2
          have hno := hR.no (HNO.out (fun h => hx1 (hp1.out.1 h.1)))
          clear hR
          subst hno
          go_wp2_with (go_at_call 40; refine (law11_awake _).mono ?_; rintro e w14 ⟨rfl, hE14⟩)
          go_ret
          exact ⟨rfl, hEE.trans hE14⟩
end Go.Proofs.Ythfkacgehdfciaa
