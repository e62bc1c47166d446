/- The statement ScoreBest. -/
import Derived.Test.YtillhbbeghbfeaaDoorSrtL
namespace Go.Proofs.YtillhbbeghbfeaaDoor
set_option linter.unusedVariables false
set_option linter.unusedSimpArgs false
open Go.RowKit

theorem getD_app {xs ys : List Nat} {i : Nat} (h : i < xs.length) : (xs ++ ys).getD i 0 = xs.getD i 0 := by
  rw [List.getD_eq_getElem?_getD, List.getD_eq_getElem?_getD, List.getElem?_append_left h]
theorem getD_last (xs : List Nat) (q : Nat) : (xs ++ [q]).getD xs.length 0 = q := by
  rw [List.getD_eq_getElem?_getD, List.getElem?_append_right (by omega), Nat.sub_self]
  rfl
/-- A number more that is none changes nothing. -/
theorem bestF_nan (xs : List Nat) {q : Nat} (hq : nanF q = true) : bestF (xs ++ [q]) = bestF xs := by
  have hl : (xs ++ [q]).length = xs.length + 1 := by simp
  rcases bestF_is xs with ⟨h1, h2⟩ | ⟨b, h1, g1, g2, g3, g4⟩
  · rw [h1, bestF_none]
    intro i hi
    by_cases e : i = xs.length
    · rw [e, getD_last]; exact hq
    · rw [getD_app (by omega)]; exact h2 i (by omega)
  · rw [h1]
    refine bestF_some ⟨by omega, by rw [getD_app g1]; exact g2, fun i hi => ?_, fun i hi => ?_⟩
    · by_cases e : i = xs.length
      · rw [e, getD_last, getD_app g1, KF_nan.1 hq]
        exact KF_low _
      · rw [getD_app (by omega), getD_app g1]; exact g3 i (by omega)
    · rw [getD_app (by omega), getD_app g1]; exact g4 i hi
theorem last_max {K : Int → Int} {Z : List Int} {n l : Nat} {zl : Int} (hs : Z.Pairwise (LT K)) (hp : Z.Perm (idx n)) (hl : l + 1 = n) (hz : Z[l]? = some zl) {i : Nat} (hi : i < n) : K (i : Int) ≤ K zl := by
  have hm : (i : Int) ∈ Z := hp.mem_iff.2 (List.mem_map.2 ⟨i, List.mem_range.2 hi, rfl⟩)
  obtain ⟨p, hp1⟩ := List.mem_iff_getElem?.1 hm
  have hlen : Z.length = n := by rw [hp.length_eq, idx_len]
  obtain ⟨h1, e1⟩ := List.getElem?_eq_some_iff.1 hp1
  obtain ⟨h2, e2⟩ := List.getElem?_eq_some_iff.1 hz
  by_cases e : p = l
  · subst e
    rw [hp1] at hz
    cases hz
    exact Int.le_refl _
  · have := List.pairwise_iff_getElem.1 hs p l h1 h2 (by omega)
    rw [e1, e2] at this
    unfold LT at this
    omega
set_option maxRecDepth 100000 in
set_option maxHeartbeats 8000000 in
theorem law_ScoreBest (w : World) (A : Option Addr) (n cc : Nat) (zs : List Int) (h : Sl w A n cc (zs.map (Value.int .u64))) (hw : ∀ x ∈ zs, (Lit.int .u64 x).wf = true) :
    Calls Tryd.prog 8 #[.slice A n cc] w fun e w' => e = .returned (.bool true) ∧ Ext w w' := by
  have hcm := h.cm
  have hnc := h.nc
  by_cases h30 : 30 < n
  · have i1 : (n : Int) > 30 := by omega
    go_enter Tryd.func8, Tryd.ntmps8
    go_wp2_with (go_at_call 17; refine (law1_awake _).mono ?_; rintro e w9 ⟨rfl, hE9⟩)
    go_ret
    exact ⟨rfl, hE9⟩
  have hNum := hide (f_numbers w A n cc zs h hw (by omega))
  have hWd := Words.of64 hw
  have hlen : zs.length = n := by have := h.len; rwa [List.length_map] at this
  obtain ⟨xs, hxs⟩ : ∃ xs, xs = zs.map Int.toNat := ⟨_, rfl⟩
  rw [← hxs] at hNum hWd
  have hxl : xs.length = n := by rw [hxs, List.length_map]; exact hlen
  have HX := hide hxl
  have HW := hide hWd
  have HWq := hide (Words.append hWd (Words.one (x := qN) (by decide)))
  have hn30 : n ≤ 30 := by omega
  obtain ⟨bv, hbv⟩ : ∃ bv, bv = bestF xs := ⟨_, rfl⟩
  have hbq : bestF (xs ++ [qN]) = bv := by rw [hbv]; exact bestF_nan xs (by decide)
  have HB := hide (And.intro hbv hbq)
  clear h hw hlen hxs hxl hWd h30 hbv hbq
  have i1 : ¬ (n : Int) > 30 := by omega
  go_enter Tryd.func8, Tryd.ntmps8
  go_wp2_with (go_at_call 25; with_reducible refine hNum.out.mono ?_; rintro e w1 ⟨A', c1, rfl, hO, hE⟩)
  have hBst := hide (f_Best A' n c1 xs w1 hO.sl HW.out)
  rw [← HB.out.1] at hBst
  have hOn := hO.sl.nc
  have hOm := hO.sl.cm
  go_wp2_with (first
    | (go_at_call 27; with_reducible refine hBst.out.mono ?_; rintro e w4 ⟨rfl, rfl⟩)
    | (at_builtin; refine appF rfl (.const (.slice none 0 0)) (.tmp 15) rfl w1.heap.size none 0 0 [] rfl (Own.nilS _ _ _) _ n c1 _ rfl hO.sl (by omega) (Nat.le_refl _) ?_; intro A2 c2 w2 hO2 hG2))
  refine (f_NaN _).mono ?_
  rintro e w' ⟨rfl, rfl⟩
  rw [Nat.zero_add, List.nil_append] at hO2
  have hE2 : Ext w1 w2 := (Ext.refl w1).grown hG2 (fun q hq => by simp [Value.ownBlock] at hq)
  have hE2s := hE2.size
  go_wp2_with (at_builtin; refine appF rfl (.tmp 16) (.tmp 18) rfl w1.heap.size A2 n c2 _ rfl (hO2.ext ((Ext.refl _).alloc _)) _ 1 1 _ rfl (Sl.lit w2 _ 24 1 rfl (by omega) (by simp [Value.oneCell'])) (by omega) (by simp; omega) ?_; intro A3 c3 w3 hO3 hG3)
  have hE3 : Ext w1 w3 := (hE2.alloc _).grown hG3 (fun q hq => (hO2.block q hq).1)
  have hO3' : Own w3 w1.heap.size 24 A3 (n + 1) c3 (fl (xs ++ [qN])) := by rw [fl_append]; exact hO3
  have hq := f_Best A3 (n + 1) c3 (xs ++ [qN]) w3 hO3'.sl HWq.out
  rw [HB.out.2] at hq
  refine hq.mono ?_
  rintro e w' ⟨rfl, rfl⟩
  have hOx := hO.ext hE3
  have hOrd := hide (f_Order w3 A' n c1 xs hOx.sl HW.out (by omega))
  clear hBst hNum hq hO3 hG3 hO3' hO2 hG2 hO HWq hE2s
  go_upto_region 8 with (go_at_call 26; with_reducible refine hOrd.out.mono ?_; rintro e w5 ⟨g, c5, Z, rfl, hOZ, hE5, hZs, hZp⟩)
  have hOy := hOx.ext hE5
  have hEy := hE.trans (hE3.trans hE5)
  have hbi := bestF_is xs
  rw [HX.out, ← HB.out.1] at hbi
  have hyn := hOy.sl.nc
  have hym := hOy.sl.cm
  have hzn := hOZ.sl.nc
  have hzm := hOZ.sl.cm
  clear hOrd hOx hE hE2 hE3 hE5
  by_cases hn0 : n = 0
  · subst hn0
    have hbv : bv = -1 := by
      rcases hbi with ⟨h1, _⟩ | ⟨b, _, h1, _⟩
      · exact h1
      · omega
    subst hbv
    clear hbi HB
    go_wp2_with (go_at_call 17; refine (law1_awake _).mono ?_; rintro e w9 ⟨rfl, hE9⟩)
    go_ret
    exact ⟨rfl, hEy.trans hE9⟩
  have W1 : IntKind.i64.wrap ((n : Int) - 1) = ((n - 1 : Nat) : Int) := wrap_sub (a := n) (b := 1) (by omega) (by omega)
  obtain ⟨l, hl⟩ : ∃ l, l = n - 1 := ⟨_, rfl⟩
  rw [← hl] at W1
  obtain ⟨zl, hzl, hzln⟩ := idx_at hZp (i := l) (by omega)
  have hmax := fun i (hi : i < n) => last_max hZs hZp (show l + 1 = n by omega) hzl (i := i) hi
  have hci := hOZ.atI hzl
  obtain ⟨b0, o0, x1, hA, hx1, hc1, hx12⟩ := hOy.sl.atF HW.out hzln
  subst hA
  have e0 : ((n : Int) == 0) = false := by simp; omega
  have e1 : decide ((zl : Int) < 0) = false := decide_eq_false (by omega)
  have e2 : decide ((zl : Int) ≥ (n : Int)) = false := decide_eq_false (by omega)
  have i2 : (zl : Int) < (n : Int) := by omega
  have i3 : (l : Int) < (n : Int) := by omega
  have i4 : l < n := by omega
  simp only [KX_nat, getD_of hx1.out] at hmax
  have HMax := hide hmax
  have HL := hide hl
  clear hmax hzl hZs hZp hl
  cases hnn : nanF x1 with
  | true =>
    have hbv : bv = -1 := by
      rcases hbi with ⟨h1, _⟩ | ⟨b, _, g1, g2, _⟩
      · exact h1
      · have := HMax.out b g1
        rw [KF_nan.1 hnn] at this
        have := KF_num.1 g2
        omega
    subst hbv
    have N1 := f_IsNaN x1
    rw [hnn] at N1
    clear hbi HB hnn hx1
    go_wp2_with (first
      | (go_at_call 15; refine (N1 _).mono ?_; rintro e w' ⟨rfl, rfl⟩)
      | (go_at_call 17; refine (law1_awake _).mono ?_; rintro e w9 ⟨rfl, hE9⟩))
    go_ret
    exact ⟨rfl, hEy.trans hE9⟩
  | false =>
    have hbs : ∃ b : Nat, bv = (b : Int) ∧ BestIs xs n b := by
      rcases hbi with ⟨_, h1⟩ | h1
      · have := h1 zl hzln
        rw [getD_of hx1.out, hnn] at this
        cases this
      · exact h1
    obtain ⟨b, hbb, g1, g2, g3, g4⟩ := hbs
    subst hbb
    obtain ⟨b2, o2, x2, hA, hx2, hc2, hx22⟩ := hOy.sl.atF HW.out g1
    simp at hA
    obtain ⟨rfl, rfl⟩ := hA
    rw [getD_of hx2.out] at g2 g3 g4
    have k1 := g3 zl hzln
    have k2 := HMax.out b g1
    rw [getD_of hx1.out] at k1
    rw [getD_of hx2.out] at k2
    have N1 := f_IsNaN x1
    rw [hnn] at N1
    have Q2 := q_Alike x2 x1 hx22 hx12 true (by rw [lessF_KF, lessF_KF]; simp; omega)
    have HG := hide g4
    have i5 : (b : Int) < (n : Int) := by omega
    have hd1 := hide (show decide ((b : Int) < 0) = false from decide_eq_false (by omega))
    have hd2 := hide (show decide (n ≤ b) = false by simp; omega)
    have hEz := hEy
    have hS2 := fun w (hE : Ext w5 w) => And.intro (hE.cell hci) (And.intro (hE.cell hc1) (hE.cell hc2))
    clear hbi HB hnn hx1 k1 k2 g2 g3 g4 HMax hEy hx12
    go_wp2_with (go_at_call 15; refine (N1 _).mono ?_; rintro e w' ⟨rfl, rfl⟩)
    refine wp_region_held_drew (S := (fun w' => w'.cell? ⟨g, l, none⟩ = some (.int .i64 (zl : Nat)) ∧ w'.cell? ⟨b0, o0 + zl, none⟩ = some (.float .f64 x1) ∧ w'.cell? ⟨b0, o0 + b, none⟩ = some (.float .f64 x2))) (by kernel_rfl) (hS2 _ (Ext.refl w5).drew) (fun hHeld => ?_)
    refine held_take 0 rfl (by kernel_rfl) (by kernel_rfl) (by kernel_rfl) (fun _ _ _ _ h => h) (by rfl) ?_ ?_ (by assumption) ?_
    rotate_left
    · (intro wx hSx; (try dsimp only at hSx); go_simp)
      all_goals with_reducible rfl
    (try simp only [Act.put, List.setIfInBounds_toArray, List.set_cons_zero, List.set_cons_succ])
    refine held_take 1 rfl (by kernel_rfl) (by kernel_rfl) (by kernel_rfl) (fun _ _ _ _ h => h) (by rfl) ?_ ?_ (by assumption) ?_
    rotate_left
    · (intro wx hSx; (try dsimp only at hSx); go_simp)
      all_goals with_reducible rfl
    (try simp only [Act.put, List.setIfInBounds_toArray, List.set_cons_zero, List.set_cons_succ])
    (try rw [hd1.out])
    refine held_take 2 rfl (by kernel_rfl) (by kernel_rfl) (by kernel_rfl) (fun _ _ _ _ h => h) (by rfl) ?_ ?_ (by assumption) ?_
    rotate_left
    · (intro wx hSx; (try dsimp only at hSx); go_simp)
      all_goals with_reducible rfl
    (try simp only [Act.put, List.setIfInBounds_toArray, List.set_cons_zero, List.set_cons_succ])
    refine held_take 3 rfl (by kernel_rfl) (by kernel_rfl) (by kernel_rfl) (fun _ _ _ _ h => h) (by rfl) ?_ ?_ (by assumption) ?_
    rotate_left
    · (intro wx hSx; (try dsimp only at hSx); go_simp)
      all_goals with_reducible rfl
    (try simp only [Act.put, List.setIfInBounds_toArray, List.set_cons_zero, List.set_cons_succ])
    refine held_take 4 rfl (by kernel_rfl) (by kernel_rfl) (by kernel_rfl) (fun _ _ _ _ h => h) (by rfl) ?_ ?_ (by assumption) ?_
    rotate_left
    · (intro wx hSx; (try dsimp only at hSx); go_simp)
      all_goals with_reducible rfl
    (try simp only [Act.put, List.setIfInBounds_toArray, List.set_cons_zero, List.set_cons_succ])
    refine held_take 5 rfl (by kernel_rfl) (by kernel_rfl) (by kernel_rfl) (fun _ _ _ _ h => h) (by rfl) ?_ ?_ (by assumption) ?_
    rotate_left
    · (intro wx hSx; (try dsimp only at hSx); go_simp)
      all_goals with_reducible rfl
    (try simp only [Act.put, List.setIfInBounds_toArray, List.set_cons_zero, List.set_cons_succ])
    refine held_take 6 rfl (by kernel_rfl) (by kernel_rfl) (by kernel_rfl) (fun _ _ _ _ h => h) (by rfl) ?_ ?_ (by assumption) ?_
    rotate_left
    · (intro wx hSx; (try dsimp only at hSx); go_simp)
      all_goals with_reducible rfl
    (try simp only [Act.put, List.setIfInBounds_toArray, List.set_cons_zero, List.set_cons_succ])
    (try rw [hd2.out])
    refine held_take 7 rfl (by kernel_rfl) (by kernel_rfl) (by kernel_rfl) (fun _ _ _ _ h => h) (by rfl) ?_ ?_ (by assumption) ?_
    rotate_left
    · (intro wx hSx; (try dsimp only at hSx); go_simp)
      all_goals with_reducible rfl
    (try simp only [Act.put, List.setIfInBounds_toArray, List.set_cons_zero, List.set_cons_succ])
    refine held_take 8 rfl (by kernel_rfl) (by kernel_rfl) (by kernel_rfl) (fun _ _ _ _ h => h) (by rfl) ?_ ?_ (by assumption) ?_
    rotate_left
    · (intro wx hSx; (try dsimp only at hSx); go_simp)
      all_goals with_reducible rfl
    (try simp only [Act.put, List.setIfInBounds_toArray, List.set_cons_zero, List.set_cons_succ])
    refine held_take 9 rfl (by kernel_rfl) (by kernel_rfl) (by kernel_rfl) (fun _ _ _ _ h => h) (by rfl) ?_ ?_ (by assumption) ?_
    rotate_left
    · (intro wx hSx; (try dsimp only at hSx); go_simp)
      all_goals with_reducible rfl
    (try simp only [Act.put, List.setIfInBounds_toArray, List.set_cons_zero, List.set_cons_succ])
    refine held_take 10 rfl (by kernel_rfl) (by kernel_rfl) (by kernel_rfl) (fun _ _ _ _ h => h) (by rfl) ?_ ?_ (by assumption) ?_
    rotate_left
    · (intro wx hSx; (try dsimp only at hSx); go_simp)
      all_goals with_reducible rfl
    (try simp only [Act.put, List.setIfInBounds_toArray, List.set_cons_zero, List.set_cons_succ])
    refine held_take 11 rfl (by kernel_rfl) (by kernel_rfl) (by kernel_rfl) (fun _ _ _ _ h => h) (by rfl) ?_ ?_ (by assumption) ?_
    rotate_left
    · (intro wx hSx; (try dsimp only at hSx); go_simp)
      all_goals with_reducible rfl
    (try simp only [Act.put, List.setIfInBounds_toArray, List.set_cons_zero, List.set_cons_succ])
    refine held_take 12 rfl (by kernel_rfl) (by kernel_rfl) (by kernel_rfl) (fun _ _ _ _ h => h) (by rfl) ?_ ?_ (by assumption) ?_
    rotate_left
    · (intro wx hSx; (try dsimp only at hSx); go_simp)
      all_goals with_reducible rfl
    (try simp only [Act.put, List.setIfInBounds_toArray, List.set_cons_zero, List.set_cons_succ])
    refine held_take 13 rfl (by kernel_rfl) (by kernel_rfl) (by kernel_rfl) (fun _ _ _ _ h => h) (by rfl) ?_ ?_ (by assumption) ?_
    rotate_left
    · (intro wx hSx; (try dsimp only at hSx); go_simp)
      all_goals with_reducible rfl
    (try simp only [Act.put, List.setIfInBounds_toArray, List.set_cons_zero, List.set_cons_succ])
    refine held_take 14 rfl (by kernel_rfl) (by kernel_rfl) (by kernel_rfl) (fun _ _ _ _ h => h) (by rfl) ?_ ?_ (by assumption) ?_
    rotate_left
    · (intro wx hSx; (try dsimp only at hSx); go_simp)
      all_goals with_reducible rfl
    (try simp only [Act.put, List.setIfInBounds_toArray, List.set_cons_zero, List.set_cons_succ])
    refine held_take 15 rfl (by kernel_rfl) (by kernel_rfl) (by kernel_rfl) (fun _ _ _ _ h => h) (by rfl) ?_ ?_ (by assumption) ?_
    rotate_left
    · (intro wx hSx; (try dsimp only at hSx); go_simp)
      all_goals with_reducible rfl
    (try simp only [Act.put, List.setIfInBounds_toArray, List.set_cons_zero, List.set_cons_succ])
    refine held_take 16 rfl (by kernel_rfl) (by kernel_rfl) (by kernel_rfl) (fun _ _ _ _ h => h) (by rfl) ?_ ?_ (by assumption) ?_
    rotate_left
    · (intro wx hSx; (try dsimp only at hSx); go_simp)
      all_goals with_reducible rfl
    (try simp only [Act.put, List.setIfInBounds_toArray, List.set_cons_zero, List.set_cons_succ])
    refine held_take 17 rfl (by kernel_rfl) (by kernel_rfl) (by kernel_rfl) (fun _ _ _ _ h => h) (by rfl) ?_ ?_ (by assumption) ?_
    rotate_left
    · (intro wx hSx; (try dsimp only at hSx); go_simp)
      all_goals with_reducible rfl
    (try simp only [Act.put, List.setIfInBounds_toArray, List.set_cons_zero, List.set_cons_succ])
    refine held_take 18 rfl (by kernel_rfl) (by kernel_rfl) (by kernel_rfl) (fun _ _ _ _ h => h) (by rfl) ?_ ?_ (by assumption) ?_
    rotate_left
    · (intro wx hSx; (try dsimp only at hSx); go_simp)
      all_goals with_reducible rfl
    (try simp only [Act.put, List.setIfInBounds_toArray, List.set_cons_zero, List.set_cons_succ])
    refine held_take 19 rfl (by kernel_rfl) (by kernel_rfl) (by kernel_rfl) (fun _ _ _ _ h => h) (by rfl) ?_ ?_ (by assumption) ?_
    rotate_left
    · (intro wx hSx; (try dsimp only at hSx); go_simp)
      all_goals with_reducible rfl
    (try simp only [Act.put, List.setIfInBounds_toArray, List.set_cons_zero, List.set_cons_succ])
    refine held_take 20 rfl (by kernel_rfl) (by kernel_rfl) (by kernel_rfl) (fun _ _ _ _ h => h) (by rfl) ?_ ?_ (by assumption) ?_
    rotate_left
    · (intro wx hSx; (try dsimp only at hSx); go_simp)
      all_goals with_reducible rfl
    (try simp only [Act.put, List.setIfInBounds_toArray, List.set_cons_zero, List.set_cons_succ])
    refine held_take 21 rfl (by kernel_rfl) (by kernel_rfl) (by kernel_rfl) (fun _ _ _ _ h => h) (by rfl) ?_ ?_ (by assumption) ?_
    rotate_left
    · (intro wx hSx; (try dsimp only at hSx); go_simp)
      all_goals with_reducible rfl
    (try simp only [Act.put, List.setIfInBounds_toArray, List.set_cons_zero, List.set_cons_succ])
    refine held_call 22 rfl (by kernel_rfl) (fun K hK => ?_)
    go_simp
    go_at_call 24
    refine (Q2 _).mono ?_
    rintro e w6 ⟨rfl, rfl⟩
    go_wp2_with fail
    refine hK.out _ _ hHeld (fun hHeld => ?_)
    clear hK K
    (try simp only [Act.put, List.setIfInBounds_toArray, List.set_cons_zero, List.set_cons_succ])
    refine held_take 23 rfl (by kernel_rfl) (by kernel_rfl) (by kernel_rfl) (fun _ _ _ _ h => h) (by rfl) ?_ ?_ (by assumption) ?_
    rotate_left
    · (intro wx hSx; (try dsimp only at hSx); go_simp)
      all_goals with_reducible rfl
    (try simp only [Act.put, List.setIfInBounds_toArray, List.set_cons_zero, List.set_cons_succ])
    refine held_take 24 rfl (by kernel_rfl) (by kernel_rfl) (by kernel_rfl) (fun _ _ _ _ h => h) (by rfl) ?_ ?_ (by assumption) ?_
    rotate_left
    · (intro wx hSx; (try dsimp only at hSx); go_simp)
      all_goals with_reducible rfl
    (try simp only [Act.put, List.setIfInBounds_toArray, List.set_cons_zero, List.set_cons_succ])
    refine wpAnyH_done (by kernel_rfl) ?_ _
    clear hS2 Q2 N1 e0 e1 e2 i2 i3 i4 W1 hci hc1
    obtain ⟨w6, hw6⟩ : ∃ w6 : World, w6 = w5.drew := ⟨_, rfl⟩
    have hE6 : Ext w5 w6 := by rw [hw6]; exact (Ext.refl w5).drew
    rw [← hw6]
    clear hw6
    go_wp2_with fail
    go_loopw [6] (fun v wr => ∃ j : Nat, j ≤ b ∧ v = .int .i64 j ∧ Ext w6 wr) (fun v _ => b - (intOf v).toNat)
    case atStart => exact ⟨0, by omega, rfl, Ext.refl w6⟩
    case round =>
      obtain ⟨j, hj, rfl, hE7⟩ := hrel
      have hE8 := hE6.trans hE7
      by_cases hlt : j < b
      · have i6 : (j : Int) < (b : Int) := by omega
        have i7 : (j : Int) < (n : Int) := by omega
        obtain ⟨b3, o3, x3, hA, hx3, hc3, hx32⟩ := (hOy.ext hE8).sl.atF HW.out (k := j) (by omega)
        simp at hA
        obtain ⟨rfl, rfl⟩ := hA
        have k3 := HG.out j hlt
        rw [getD_of hx3.out] at k3
        have Q2 := q_Alike x3 x2 hx32 hx22 false (by rw [lessF_KF, lessF_KF]; simp; omega)
        have hS3 := And.intro ((Ext.refl wr).drew.cell hc3) ((Ext.refl wr).drew.cell (hE8.cell hc2))
        clear k3 hx3 hc3 hx32
        go_wp2_with fail
        refine wp_region_held_drew (S := (fun w' => w'.cell? ⟨b0, o0 + j, none⟩ = some (.float .f64 x3) ∧ w'.cell? ⟨b0, o0 + b, none⟩ = some (.float .f64 x2))) (by kernel_rfl) hS3 (fun hHeld => ?_)
        refine held_take 0 rfl (by kernel_rfl) (by kernel_rfl) (by kernel_rfl) (fun _ _ _ _ h => h) (by rfl) ?_ ?_ (by assumption) ?_
        rotate_left
        · (intro wx hSx; (try dsimp only at hSx); go_simp)
          all_goals with_reducible rfl
        (try simp only [Act.put, List.setIfInBounds_toArray, List.set_cons_zero, List.set_cons_succ])
        refine held_take 1 rfl (by kernel_rfl) (by kernel_rfl) (by kernel_rfl) (fun _ _ _ _ h => h) (by rfl) ?_ ?_ (by assumption) ?_
        rotate_left
        · (intro wx hSx; (try dsimp only at hSx); go_simp)
          all_goals with_reducible rfl
        (try simp only [Act.put, List.setIfInBounds_toArray, List.set_cons_zero, List.set_cons_succ])
        refine held_take 2 rfl (by kernel_rfl) (by kernel_rfl) (by kernel_rfl) (fun _ _ _ _ h => h) (by rfl) ?_ ?_ (by assumption) ?_
        rotate_left
        · (intro wx hSx; (try dsimp only at hSx); go_simp)
          all_goals with_reducible rfl
        (try simp only [Act.put, List.setIfInBounds_toArray, List.set_cons_zero, List.set_cons_succ])
        refine held_take 3 rfl (by kernel_rfl) (by kernel_rfl) (by kernel_rfl) (fun _ _ _ _ h => h) (by rfl) ?_ ?_ (by assumption) ?_
        rotate_left
        · (intro wx hSx; (try dsimp only at hSx); go_simp)
          all_goals with_reducible rfl
        (try simp only [Act.put, List.setIfInBounds_toArray, List.set_cons_zero, List.set_cons_succ])
        refine held_take 4 rfl (by kernel_rfl) (by kernel_rfl) (by kernel_rfl) (fun _ _ _ _ h => h) (by rfl) ?_ ?_ (by assumption) ?_
        rotate_left
        · (intro wx hSx; (try dsimp only at hSx); go_simp)
          all_goals with_reducible rfl
        (try simp only [Act.put, List.setIfInBounds_toArray, List.set_cons_zero, List.set_cons_succ])
        refine held_take 5 rfl (by kernel_rfl) (by kernel_rfl) (by kernel_rfl) (fun _ _ _ _ h => h) (by rfl) ?_ ?_ (by assumption) ?_
        rotate_left
        · (intro wx hSx; (try dsimp only at hSx); go_simp)
          all_goals with_reducible rfl
        (try simp only [Act.put, List.setIfInBounds_toArray, List.set_cons_zero, List.set_cons_succ])
        refine held_take 6 rfl (by kernel_rfl) (by kernel_rfl) (by kernel_rfl) (fun _ _ _ _ h => h) (by rfl) ?_ ?_ (by assumption) ?_
        rotate_left
        · (intro wx hSx; (try dsimp only at hSx); go_simp)
          all_goals with_reducible rfl
        (try simp only [Act.put, List.setIfInBounds_toArray, List.set_cons_zero, List.set_cons_succ])
        refine held_take 7 rfl (by kernel_rfl) (by kernel_rfl) (by kernel_rfl) (fun _ _ _ _ h => h) (by rfl) ?_ ?_ (by assumption) ?_
        rotate_left
        · (intro wx hSx; (try dsimp only at hSx); go_simp)
          all_goals with_reducible rfl
        (try simp only [Act.put, List.setIfInBounds_toArray, List.set_cons_zero, List.set_cons_succ])
        refine held_call 8 rfl (by kernel_rfl) (fun K hK => ?_)
        go_simp
        go_at_call 24
        refine (Q2 _).mono ?_
        rintro e w6 ⟨rfl, rfl⟩
        go_wp2_with fail
        refine hK.out _ _ hHeld (fun hHeld => ?_)
        clear hK K
        (try simp only [Act.put, List.setIfInBounds_toArray, List.set_cons_zero, List.set_cons_succ])
        refine wpAnyH_done (by kernel_rfl) ?_ _
        go_wp2_with fail
        go_roundw
        case rel => exact ⟨j + 1, by omega, by go_num, hE7.drew⟩
        case measure => simp [intOf]; omega
      · obtain rfl : j = b := by omega
        have i6 : ¬ (j : Int) < (j : Int) := by omega
        have hEf := hEz.trans hE8
        clear hOy hc2 hE6 hE7 hE8 hOZ hx2 hEz
        go_wp2_with (go_at_call 17; refine (law1_awake _).mono ?_; rintro e w9 ⟨rfl, hE9⟩)
        go_ret
        exact ⟨rfl, hEf.trans hE9⟩
end Go.Proofs.YtillhbbeghbfeaaDoor
