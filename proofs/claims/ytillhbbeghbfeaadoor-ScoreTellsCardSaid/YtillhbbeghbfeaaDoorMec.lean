/- The statement ScoreMeans. -/
import Derived.Test.YtillhbbeghbfeaaDoorMeb
namespace Go.Proofs.YtillhbbeghbfeaaDoor
set_option linter.unusedVariables false
set_option linter.unusedSimpArgs false
open Go.RowKit

/-- append onto floats, behind a guard that holds. -/
theorem appFG {w : World} {ops : Array Oper} {rest : List Oper} {o : Oper} {a : Act} {Q : Exit → Act → World → Prop} (hgd : Region.wanted o (yielded ops a.tmps) = true) (s x : Operand)
    (ho : o.op = .call { callee := .builtin .append, args := #[s, x], argTypes := #[34, 34] })
    (B : Nat) (A : Option Addr) (n c : Nat) (xs : List Value) (hs : a.eval s = .slice A n c) (hown : Own w B 24 A n c xs)
    (A2 : Option Addr) (m c2 : Nat) (ys : List Value) (hx : a.eval x = .slice A2 m c2) (hsl : Sl w A2 m c2 ys) (hbytes : n + m ≤ 1000000000000) (hB : B ≤ w.heap.size)
    (h : ∀ A' c' w', Own w' B 24 A' (n + m) c' (xs ++ ys) → w.grownBy w' (Value.slice A n c).ownBlock → wpList Tryd.prog ops Q rest (a.put o.dst (.slice A' (n + m) c')) w') : wpList Tryd.prog ops Q (o :: rest) a w := by
  obtain ⟨i0, hi0, hz0, hz1, hz2⟩ := info_parts info_fT
  obtain ⟨A', c', w', hr, h2, h3⟩ := run_app (P := Tryd.prog) (w := w) B 34 o.type 24 i0 _ 8 Tryd.underlying34 hi0 hz0 hz1 hz2 rfl A n c xs hown A2 m c2 ys hsl (by omega) (by omega) hB
  show (if Region.wanted o (yielded ops a.tmps) then _ else _)
  rw [if_pos hgd]
  refine .inl ?_
  unfold Oper.wp execOp
  simp only [ho, resolve, invoke, builtin, Sem.run_bind, Sem.run_pure, Result.andThen_ok, List.map_toArray, List.map_cons, List.map_nil, hs, hx, hr]
  exact h A' c' w' h2 h3
theorem sumN_le {ns : List Nat} {k b : Nat} (h : ∀ x ∈ ns, x ≤ b) : sumN ns k ≤ b * k := by
  induction k with
  | zero => unfold sumN; simp
  | succ k ih =>
    rcases hx : ns[k]? with _ | x
    · have : sumN ns (k + 1) = sumN ns k := by unfold sumN; rw [List.take_add_one, hx]; simp
      rw [this, Nat.mul_succ]
      omega
    · rw [sumN_succ hx, Nat.mul_succ]
      have := h x (List.mem_of_getElem? hx)
      omega
theorem sumN_ge {ns : List Nat} {k b : Nat} (hk : k ≤ ns.length) (h : ∀ x ∈ ns, b ≤ x) : b * k ≤ sumN ns k := by
  induction k with
  | zero => simp
  | succ k ih =>
    have hx : ns[k]? = some (ns[k]'(by omega)) := List.getElem?_eq_getElem (by omega)
    rw [sumN_succ hx, Nat.mul_succ]
    have := h _ (List.mem_of_getElem? hx)
    have := ih (by omega)
    omega
theorem sumN_all {ns : List Nat} {k : Nat} (hk : ns.length ≤ k) : sumN ns k = sumN ns ns.length := by
  unfold sumN
  rw [List.take_of_length_le hk, List.take_of_length_le (Nat.le_refl _)]
theorem sumN_cap {ns : List Nat} {b : Nat} (h : ∀ x ∈ ns, x ≤ b) (k : Nat) : sumN ns k ≤ b * ns.length := by
  by_cases hk : k ≤ ns.length
  · exact Nat.le_trans (sumN_le h) (Nat.mul_le_mul_left _ hk)
  · rw [sumN_all (by omega)]
    exact sumN_le h
/-- The mean of some whole numbers, none above 999, at most 20. -/
theorem mean_is {ns : List Nat} {n lo hi : Nat} (hl : ns.length = n) (hn : n ≠ 0) (hn2 : n ≤ 20) (h1 : ∀ x ∈ ns, lo ≤ x) (h2 : ∀ x ∈ ns, x ≤ hi) (h3 : ∀ x ∈ ns, x ≤ 999) :
    (∀ k, sumN ns k < 9007199254740992) ∧ ∃ r, Ieee.double.div (wF (sumN ns n)) (wF n) = some r ∧ r ≤ fInf ∧ wF lo ≤ r ∧ r ≤ wF hi := by
  have hb : ∀ k, sumN ns k < 9007199254740992 := fun k => by
    have := sumN_cap h3 k
    rw [hl] at this
    have : 999 * n ≤ 999 * 20 := Nat.mul_le_mul_left _ hn2
    omega
  exact ⟨hb, mean_bounds hn (by omega) (hb n) (sumN_ge (by omega) h1) (sumN_le h2)⟩
/-- Places of whole numbers above zero. -/
theorem order_pos {x y : Nat} (hx : x ≤ fInf) (hy : y ≤ fInf) : FloatKind.f64.format.order x y = some (compare (x : Int) (y : Int)) := by
  show Ieee.double.order x y = _
  rw [order_sv (nan_small hx) (nan_small hy), sv_small hx, sv_small hy]
  congr 1
  rcases Nat.lt_trichotomy x y with h | h | h
  · have := vF_mono h
    rw [Int.compare_eq_lt.2 (by omega), Int.compare_eq_lt.2 (by omega)]
  · rw [h]
    rw [Int.compare_eq_eq.2 rfl, Int.compare_eq_eq.2 rfl]
  · have := vF_mono h
    rw [Int.compare_eq_gt.2 (by omega), Int.compare_eq_gt.2 (by omega)]
set_option maxRecDepth 100000 in
set_option maxHeartbeats 8000000 in
theorem law_ScoreMeans (w : World) (A : Option Addr) (n cc : Nat) (is : List Int) (h : Sl w A n cc (is.map (Value.int .i64))) (hw : ∀ x ∈ is, (Lit.int .i64 x).wf = true) (x : Int) (x1 : -9223372036854775808 ≤ x) (x2 : x ≤ 9223372036854775807) :
    Calls Tryd.prog 5 #[.slice A n cc, .int .i64 x] w fun e w' => e = .returned (.bool true) ∧ Ext w w' := by
  have hcm := h.cm
  have hnc := h.nc
  by_cases h20 : n > 20
  · have i1 : (n : Int) > 20 := by omega
    go_enter Tryd.func5, Tryd.ntmps5
    go_wp2_with (go_at_call 17; refine (law1_awake _).mono ?_; rintro e w9 ⟨rfl, hE9⟩)
    go_ret
    exact ⟨rfl, hE9⟩
  have i1 : ¬ (n : Int) > 20 := by omega
  by_cases hn0 : n = 0
  · subst hn0
    go_enter Tryd.func5, Tryd.ntmps5
    go_wp2_with (go_at_call 17; refine (law1_awake _).mono ?_; rintro e w9 ⟨rfl, hE9⟩)
    go_ret
    exact ⟨rfl, hE9⟩
  have e0 : ((n : Int) == 0) = false := by simp; omega
  have hlen : is.length = n := by have := h.len; rwa [List.length_map] at this
  obtain ⟨ns, hns⟩ : ∃ ns : List Nat, ns = is.map (fun z => low z 1000) := ⟨_, rfl⟩
  have hnl : ns.length = n := by rw [hns, List.length_map]; exact hlen
  have hat : ∀ k, k < n → ∃ (b o : Nat) (z : Int), A = some ⟨b, o, none⟩ ∧ w.cell? ⟨b, o + k, none⟩ = some (.int .i64 z) ∧ ns[k]? = some (low z 1000) := by
    intro k hk
    obtain ⟨b, o, u, hA, hu, hc⟩ := h.at_ hk
    have hu' := hu.out
    rw [List.getElem?_map, Option.map_eq_some_iff] at hu'
    obtain ⟨z, hz, rfl⟩ := hu'
    exact ⟨b, o, z, hA, hc, by rw [hns, List.getElem?_map, hz]; rfl⟩
  have hlt : ∀ y ∈ ns, y < 1000 := by
    intro y hy
    rw [hns] at hy
    obtain ⟨z, _, rfl⟩ := List.mem_map.1 hy
    exact low_lt z (by omega)
  have HA := hide hat
  have HN := hide (And.intro hnl hlt)
  have hn20 : n ≤ 20 := by omega
  have HP := hide hn0
  obtain ⟨m, hm⟩ : ∃ m, m = low x 1000 := ⟨_, rfl⟩
  have hm2 : m < 1000 := by rw [hm]; exact low_lt x (by omega)
  have HLow := fun w => Low x 1000 1000 w rfl (by omega) (by omega)
  rw [← hm] at HLow
  have HLw := hide HLow
  have HM := hide hm2
  have hcvm := floatOf_nat m
  clear hat hns hnl hlen hlt h hw h20 hn0 hm hm2 HLow x1 x2
  go_enter Tryd.func5, Tryd.ntmps5
  go_wp2_with fail
  go_loopw [5, 6, 7, 8, 9] (fun vl vh vx vy vi wr => ∃ (k lo hi c1 c2 : Nat) (A1 A2 : Option Addr), k ≤ n ∧ vi = .int .i64 k ∧ vl = .int .i64 lo ∧ vh = .int .i64 hi ∧ vx = .slice A1 k c1 ∧ vy = .slice A2 k c2 ∧ Own wr w.heap.size 24 A1 k c1 (fl ((ns.take k).map wF)) ∧ Own wr w.heap.size 24 A2 k c2 (fl ((List.replicate k m).map wF)) ∧ Hid (Apart A1 A2) ∧ Ext w wr ∧ Hid (lo ≤ 1000 ∧ hi < 1000 ∧ ∀ y ∈ ns.take k, lo ≤ y ∧ y ≤ hi)) (fun _ _ _ _ vi _ => n - (intOf vi).toNat)
  case atStart => exact ⟨0, 1000, 0, 0, 0, none, none, by omega, rfl, rfl, rfl, rfl, rfl, Own.nilS _ _ _, Own.nilS _ _ _, Apart.nil _, Ext.refl w, by omega, by omega, by simp⟩
  case round =>
    obtain ⟨k, lo, hi, c1, c2, A1, A2, hk, rfl, rfl, rfl, rfl, rfl, hO1, hO2, hAp, hE, hB⟩ := hrel
    by_cases hlt : k < n
    · have i2 : (k : Int) < (n : Int) := by omega
      obtain ⟨b, o, z, rfl, hcz, hz⟩ := HA.out k hlt
      have hcz2 := hE.cell hcz
      obtain ⟨v, hv⟩ : ∃ v, v = low z 1000 := ⟨_, rfl⟩
      have hL0 := fun w => Low z 1000 1000 w rfl (by omega) (by omega)
      rw [← hv] at hL0 hz
      have HZ := hide hz
      have HL2 := hide hL0
      have hcv := floatOf_nat v
      clear hcz hz hL0 hv
      go_upto_region 9 with (go_at_call 11; with_reducible refine (HL2.out _).mono ?_; rintro e w4 ⟨rfl, rfl⟩)
      go_cut [5, 6] from 32 to 37 (fun s5 s6 wx => s5 = .int .i64 ((min lo v : Nat) : Int) ∧ s6 = .int .i64 ((max hi v : Nat) : Int) ∧ wx = wr)
      case first =>
        by_cases q1 : v < lo
        · by_cases q2 : hi < v
          · have e1 : (v : Int) < (lo : Int) := by omega
            have e2 : (hi : Int) < (v : Int) := by omega
            go_wp2_with fail
            go_meet
            case rel => exact ⟨by rw [Nat.min_eq_right (by omega)], by rw [Nat.max_eq_right (by omega)], rfl⟩
          · have e1 : (v : Int) < (lo : Int) := by omega
            have e2 : ¬ (hi : Int) < (v : Int) := by omega
            go_wp2_with fail
            go_meet
            case rel => exact ⟨by rw [Nat.min_eq_right (by omega)], by rw [Nat.max_eq_left (by omega)], rfl⟩
        · by_cases q2 : hi < v
          · have e1 : ¬ (v : Int) < (lo : Int) := by omega
            have e2 : (hi : Int) < (v : Int) := by omega
            go_wp2_with fail
            go_meet
            case rel => exact ⟨by rw [Nat.min_eq_left (by omega)], by rw [Nat.max_eq_right (by omega)], rfl⟩
          · have e1 : ¬ (v : Int) < (lo : Int) := by omega
            have e2 : ¬ (hi : Int) < (v : Int) := by omega
            go_wp2_with fail
            go_meet
            case rel => exact ⟨by rw [Nat.min_eq_left (by omega)], by rw [Nat.max_eq_left (by omega)], rfl⟩
      case rest =>
      obtain ⟨rfl, rfl, hww⟩ := hcut
      subst hww
      rename World => wr
      obtain ⟨lo2, hlo2⟩ : ∃ lo2, lo2 = min lo v := ⟨_, rfl⟩
      obtain ⟨hi2, hhi2⟩ : ∃ hi2, hi2 = max hi v := ⟨_, rfl⟩
      rw [← hlo2, ← hhi2]
      have hB2 : Hid (lo2 ≤ 1000 ∧ hi2 < 1000 ∧ ∀ y ∈ ns.take (k + 1), lo2 ≤ y ∧ y ≤ hi2) := by
        obtain ⟨b1, b2, b3⟩ := hB.out
        have hv1 := HN.out.2 v (List.mem_of_getElem? HZ.out)
        refine ⟨by omega, by omega, fun y hy => ?_⟩
        rw [List.take_add_one, HZ.out] at hy
        rcases List.mem_append.1 hy with hy | hy
        · have := b3 y hy
          omega
        · have : y = v := by simpa using hy
          omega
      have HS1 := hide (show (ns.take (k + 1)).map wF = (ns.take k).map wF ++ [wF v] by rw [List.take_add_one, HZ.out]; simp)
      have HS2 := hide (show (List.replicate (k + 1) m).map wF = (List.replicate k m).map wF ++ [wF m] by rw [List.replicate_succ']; simp)
      clear hB hlo2 hhi2
      have hEs := hE.size
      go_wp2_with (first
        | (at_builtin; refine appF2 rfl (.tmp 38) (.tmp 41) rfl w.heap.size A1 k c1 _ rfl (hO1.ext ((Ext.refl _).alloc _)) _ 1 1 _ rfl (Sl.lit wr _ 24 1 rfl (by omega) (by simp [Value.oneCell'])) (by omega) (by simp; omega) ?_; intro A3 c3 w3 hO3 hG3 hGr3; have hE3 : Ext w w3 := (hE.alloc _).grown hG3 (fun q hq => (hO1.block q hq).1); have hE3s := hE3.size; have hO2' := (hO2.ext ((Ext.refl _).alloc _)).kept hG3 (hAp.out.row); have hAp2 := hide (hAp.out.grew hGr3 hO2 (by simp)))
        | (go_at_call 11; with_reducible refine (HLw.out _).mono ?_; rintro e w4 ⟨rfl, rfl⟩)
        | (at_builtin; refine appF2 rfl (.tmp 43) (.tmp 47) rfl w.heap.size A2 k c2 _ rfl (hO2'.ext ((Ext.refl _).alloc _)) _ 1 1 _ rfl (Sl.lit w3 _ 24 1 rfl (by omega) (by simp [Value.oneCell'])) (by omega) (by simp; omega) ?_; intro A4 c4 w4 hO4 hG4 hGr4; have hE4 : Ext w w4 := (hE3.alloc _).grown hG4 (fun q hq => (hO2'.block q hq).1); have hO3' := (hO3.ext ((Ext.refl _).alloc _)).kept hG4 (hAp2.out.symm.row); have hAp3 := hide ((hAp2.out.symm.grew hGr4 hO3 (by simp)).symm)))
      go_roundw
      case rel => exact ⟨k + 1, lo2, hi2, c3, c4, A3, A4, by omega, by go_num, rfl, rfl, rfl, rfl, by rw [HS1.out, fl_append]; exact hO3', by rw [HS2.out, fl_append]; exact hO4, hAp3, hE4, hB2⟩
      case measure => simp [intOf]; omega
    · obtain rfl : k = n := by omega
      rw [List.take_of_length_le (by rw [HN.out.1]; omega)] at hO1 hB
      obtain ⟨hsum, r, hr, hr1, hr2, hr3⟩ := mean_is (lo := lo) (hi := hi) HN.out.1 HP.out hn20 (fun y hy => (hB.out.2.2 y hy).1) (fun y hy => (hB.out.2.2 y hy).2) (fun y hy => by have := HN.out.2 y hy; omega)
      obtain ⟨hsum2, r2, hq, hq1, hq2, hq3⟩ := mean_is (ns := List.replicate k m) (lo := m) (hi := m) (by simp) HP.out hn20 (fun y hy => by rw [List.eq_of_mem_replicate hy]; omega) (fun y hy => by rw [List.eq_of_mem_replicate hy]; omega) (fun y hy => by have := HM.out; rw [List.eq_of_mem_replicate hy]; omega)
      obtain rfl : r2 = wF m := Nat.le_antisymm hq3 hq2
      have HM1 := hide (fun w (hE : Ext wr w) => f_Mean w A1 k c1 ns (hO1.sl.ext hE) HP.out (by omega) hsum r hr)
      have HM2 := hide (fun w (hE : Ext wr w) => f_Mean w A2 k c2 (List.replicate k m) (hO2.sl.ext hE) HP.out (by omega) hsum2 (wF m) hq)
      have hcl := floatOf_nat lo
      have hch := floatOf_nat hi
      have o3 : FloatKind.f64.format.order (wF m) (wF m) = some .eq := by rw [order_pos hq1 hq1, Int.compare_eq_eq.2 rfl]
      have n1 : nanF 9221120237041090561 = true := by decide
      have o1 : FloatKind.f64.format.order r (wF lo) = some .gt ∨ FloatKind.f64.format.order r (wF lo) = some .eq := by
        rw [order_pos hr1 (wF_le lo)]
        rcases Nat.lt_or_eq_of_le hr2 with h | h
        · exact Or.inl (by rw [Int.compare_eq_gt.2 (by omega)])
        · exact Or.inr (by rw [h, Int.compare_eq_eq.2 rfl])
      have o2 : FloatKind.f64.format.order r (wF hi) = some .lt ∨ FloatKind.f64.format.order r (wF hi) = some .eq := by
        rw [order_pos hr1 (wF_le hi)]
        rcases Nat.lt_or_eq_of_le hr3 with h | h
        · exact Or.inl (by rw [Int.compare_eq_lt.2 (by omega)])
        · exact Or.inr (by rw [h, Int.compare_eq_eq.2 rfl])
      have HSum := hide hsum
      have hEs := hE.size
      clear hq hq1 hq2 hq3 hsum hsum2 hr hr1 hr2 hr3 hO2 hB hAp
      rcases o1 with o1 | o1 <;> rcases o2 with o2 | o2
      all_goals
        go_wp2_with (first
          | (go_at_call 20; with_reducible refine (HM1.out wr (Ext.refl wr)).mono ?_; rintro e w4 ⟨rfl, rfl⟩)
          | (go_at_call 20; with_reducible refine (HM2.out wr (Ext.refl wr)).mono ?_; rintro e w4 ⟨rfl, rfl⟩)
          | (go_at_call 20; with_reducible refine (f_Mean0 _).mono ?_; rintro e w4 ⟨rfl, rfl⟩)
          | (go_at_call 11; with_reducible refine (HLw.out _).mono ?_; rintro e w4 ⟨rfl, rfl⟩)
          | (go_at_call 21; refine (f_NaN _).mono ?_; rintro e w' ⟨rfl, rfl⟩)
          | (at_builtin; refine appFG (by rfl) (.tmp 70) (.tmp 72) rfl w.heap.size A1 k c1 _ rfl (hO1.ext ((Ext.refl _).alloc _)) _ 1 1 _ rfl (Sl.lit wr _ 24 1 rfl (by omega) (by simp [Value.oneCell'])) (by omega) (by simp; omega) ?_; intro A5 c5 w5 hO5 hG5; have hE5 : Ext w w5 := (hE.alloc _).grown hG5 (fun q hq => (hO1.block q hq).1))
          | (go_at_call 20; refine (f_MeanN w5 A5 k c5 ns 9221120237041090561 (by decide) (by decide) (by rw [fl_append]; exact hO5.sl) HP.out (by omega) HSum.out).mono ?_; rintro e w6 ⟨rn, rfl, hnn, hE6⟩)
          | (go_at_call 15; refine (f_IsNaN _ _).mono ?_; rintro e w' ⟨rfl, rfl⟩)
          | (go_at_call 17; refine (law1_awake _).mono ?_; rintro e w9 ⟨rfl, hE9⟩))
        go_ret
        exact ⟨rfl, (hE5.trans hE6).trans hE9⟩
end Go.Proofs.YtillhbbeghbfeaaDoor
