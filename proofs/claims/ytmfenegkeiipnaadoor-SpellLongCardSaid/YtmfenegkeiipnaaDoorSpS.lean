/- The statement SpellTells: the walk. -/
import Derived.Test.YtmfenegkeiipnaaDoorSpR
namespace Go.Proofs.YtmfenegkeiipnaaDoor
set_option linter.unusedVariables false
set_option linter.unusedSimpArgs false
open Go.RowKit

theorem op_fit {w w' : World} {A : Option Addr} {n c : Nat} {o : Opp} (h : Sl w A n c (by8 (nat8 o.da))) : n = o.da.length := by
  have := h.len
  rw [by8_len, nat8_len] at this
  exact this.symm
theorem readS_sm {l : L8} {o : Opp} (h : readS l = some o) (hl : l.length ≤ 100000) : o.Sm := by
  obtain ⟨p0, ps, hsp⟩ : ∃ p0 ps, spb l = p0 :: ps := by
    cases h : spb l with
    | nil => exact absurd h (spb_ne l)
    | cons a b => exact ⟨a, b, rfl⟩
  rw [readS_eq hsp] at h
  cases hf : foldS (start l) ps with
  | none => rw [hf] at h; cases h
  | some q =>
    rw [hf] at h
    simp only at h
    split at h
    · cases h
    · obtain rfl := Option.some.inj h
      exact fold_sm (fun p hp => by
        have := spb_plen l p (by rw [hsp]; simp [hp])
        omega) (start_sm l) hf
set_option maxRecDepth 100000 in
set_option maxHeartbeats 1000000 in
theorem walk_SpellTells (w : World) (hL : Laid w) (o : Opp) (A : Option Addr) (n c : Nat) (hk : InR o.k) (ho : o.Ok) (hD : Sl w A n c (by8 (nat8 o.da))) (l : L8) :
    Calls Tryd.prog 3 #[.agg (opV o A n c), .string (toB l)] w fun e w' => e = .returned (.bool true) ∧ Ext w w' := by
  have hGr := hide (fun w => f_Great o A n c w (op_fit (w' := w) hD))
  have hsz := toB_size l
  rw [← opL_arr]
  go_enter Tryd.func3, Tryd.ntmps3
  go_wp2_with (first
    | (with_reducible refine ag_box rfl 24 (.tmp 0) rfl _ 8 rfl (opL_len _ _ _ _) (by omega) (opL_one _ _ _ _) w.heap.size (Nat.le_refl _) ?_; intro w1 hB1 hE1 hz1)
    | (with_reducible refine ag_load rfl 24 (.tmp 2) rfl w.heap.size 8 w.heap.size 24 _ rfl hB1 agg_op info_op ?_))
  refine (hGr.out w1).mono ?_
  rintro e w2 ⟨rfl, hE2⟩
  have hL2 := hL.ext (hE1.trans hE2)
  clear hGr
  cases hg : greatB o with
  | true =>
    go_wp2_with fail
    refine (law25_awake _ hL2).mono ?_
    rintro e w3 ⟨rfl, hE3⟩
    go_wp2_with fail
    go_ret
    exact ⟨rfl, (hE1.trans hE2).trans hE3⟩
  | false =>
  have hsm := (great_sm hg).1
  obtain ⟨m, hm⟩ : ∃ m, m = l.length := ⟨_, rfl⟩
  rw [← hm] at hsz
  by_cases hl : 3000 < m
  · have i1 : (m : Int) > 3000 := by omega
    generalize toB l = s at *
    go_wp2_with fail
    refine (law25_awake _ hL2).mono ?_
    rintro e w3 ⟨rfl, hE3⟩
    go_wp2_with fail
    go_ret
    exact ⟨rfl, (hE1.trans hE2).trans hE3⟩
  have i1 : ¬ (m : Int) > 3000 := by omega
  have hR1 := hide (fun w (h : Laid w) => f_Read l w (by omega) h)
  have hR2 := hide (fun w => q_Read l w (by omega))
  have HM := hide hm
  obtain ⟨s, hs⟩ : ∃ s, s = toB l := ⟨_, rfl⟩
  rw [← hs] at hsz hR1 hR2 ⊢
  clear hm hs hg
  go_wp2_with fail
  refine (hR1.out _ hL2).mono ?_
  rintro e w3 ⟨o1, A1, n1, c1, er1, rfl, hE3, hD1, hcase1⟩
  rw [← opL_arr]
  go_wp2_with (first
    | (with_reducible refine ag_alloc (o := ⟨some 5, _, _, _, _, _⟩) rfl 24 rfl _ 8 zero_op (opL_len _ _ _ _) (by omega) (opL_one noOp none 0 0) w3.heap.size (Nat.le_refl _) ?_; intro w4 hO4 hE4 hz4)
    | (with_reducible refine ag_store (o := ⟨none, _, _, _, _, _⟩) rfl 24 (.tmp 5) (.tmp 21) rfl w3.heap.size 8 w3.heap.size 24 _ (opL o1 A1 n1 c1) rfl rfl hO4 (opL_len _ _ _ _) (opL_one _ _ _ _) info_op ?_; intro w5 hO5 hG5))
  have hE5 : Ext w3 w5 := hE4.grown hG5 (fun k hk => by cases hk; exact Nat.le_refl _)
  refine (hR2.out w5).mono ?_
  rintro e w6 ⟨o2, A2, n2, c2, er2, rfl, hE6, hD2, hcase2⟩
  rw [← opL_arr]
  go_upto_region 5 with (first
    | (with_reducible refine ag_alloc (o := ⟨some 7, _, _, _, _, _⟩) rfl 24 rfl _ 8 zero_op (opL_len _ _ _ _) (by omega) (opL_one noOp none 0 0) w6.heap.size (Nat.le_refl _) ?_; intro w7 hO7 hE7 hz7)
    | (with_reducible refine ag_store (o := ⟨none, _, _, _, _, _⟩) rfl 24 (.tmp 7) (.tmp 26) rfl w6.heap.size 8 w6.heap.size 24 _ (opL o2 A2 n2 c2) rfl rfl hO7 (opL_len _ _ _ _) (opL_one _ _ _ _) info_op ?_; intro w8 hO8 hG8))
  have hE8 : Ext w6 w8 := hE7.grown hG8 (fun k hk => by cases hk; exact Nat.le_refl _)
  have hu : Tryd.prog.underlying 24 = _ := Tryd.underlying24
  have hsame : o1 = o2 ∧ er1 = er2 := by
    rw [← read_same] at hcase2
    rcases hcase1 with ⟨a1, a2⟩ | ⟨a1, a2, a3, a4⟩ <;> rcases hcase2 with ⟨b1, b2⟩ | ⟨b1, b2, b3⟩
    · rw [a1] at b1
      exact ⟨Option.some.inj b1, by rw [a2, b2]⟩
    · rw [a1] at b1; cases b1
    · rw [a1] at b1; cases b1
    · exact ⟨by rw [a3, b3], by rw [a2, b2]⟩
  obtain ⟨rfl, rfl⟩ := hsame
  have hE28 : Ext w2 w8 := hE3.trans (hE5.trans (hE6.trans hE8))
  have hBx := hB1.ext (hE2.trans hE28)
  have hOx := hO5.ext (hE6.trans hE8)
  have HS2 := hide (show ∀ w', Ext w8 w' → (w'.rangeAt w.heap.size 0 (opL o A n c) ∧ w'.rangeAt w3.heap.size 0 (opL o1 A1 n1 c1) ∧ w'.rangeAt w6.heap.size 0 (opL o1 A2 n2 c2) ∧ Ext w8 w') from fun w' h => ⟨(hBx.ext h).range, (hOx.ext h).range, (hO8.ext h).range, h⟩)
  have HSay := hide (fun w' (h : Ext w8 w') => f_Say o A n c w' (hL2.ext (hE28.trans h)) ho hk hsm (hD.ext ((hE1.trans hE2).trans (hE28.trans h))))
  have HQSay := hide (fun w' (h : Ext w8 w') => q_Say o A n c w' ho hk hsm (hD.ext ((hE1.trans hE2).trans (hE28.trans h))))
  have HSame := hide (fun w' (h : Ext w8 w') => f_SameOp o1 o1 A1 A2 n1 c1 n2 c2 w' ((hD1.ext (hE5.trans (hE6.trans hE8))).sl.ext h) ((hD2.ext hE8).ext h))
  have HDa := hide (And.intro (hD1.ext (hE5.trans (hE6.trans hE8))) (And.intro hE1 (And.intro hE2 (And.intro (hE3.trans (hE5.trans (hE6.trans hE8))) hOx))))
  have hn1 : n1 ≤ 1000000 := by
    rcases hcase1 with ⟨a1, _⟩ | ⟨_, _, _, rfl⟩
    · have h1 := (readS_sm a1 (by have := HM.out; omega)).2.2
      have h2 := op_fit (w' := w) hD1.sl
      omega
    · have := hD1.none; omega
  obtain ⟨sy, hsy⟩ : ∃ sy, sy = toB (sayL o) := ⟨_, rfl⟩
  rw [← hsy] at HSay HQSay
  rw [show sameB o1 o1 = true from sameB_iff.2 rfl] at HSame
  have b1 : (sy.toList == sy.toList) = true := by simp
  have b2 : (er1 == er1) = true := by simp
  have HL2 := hide hL2
  clear hsy hcase1 hcase2 hB1 hO5 hO8 hD1 hD2 hE3 hE5 hE6 hE8 hE4 hE7 hG5 hG8 hO4 hO7 hz1 hz4 hz7 hBx hOx hR1 hR2 hL hL2 hD ho hk hsm
  go_wp2_with fail
  refine wp_region_held_drew (S := (fun w' => w'.rangeAt w.heap.size 0 (opL o A n c) ∧ w'.rangeAt w3.heap.size 0 (opL o1 A1 n1 c1) ∧ w'.rangeAt w6.heap.size 0 (opL o1 A2 n2 c2) ∧ Ext w8 w')) (by kernel_rfl) (HS2.out _ (Ext.refl w8).drew) (fun hHeld => ?_)
  refine held_load 0 rfl (by kernel_rfl) (by kernel_rfl) (by kernel_rfl) (fun _ _ _ _ h => h) (by rfl) 24 (.tmp 2) rfl w.heap.size (opL o A n c) _ rfl (fun wx hSx => hSx.1) hu rfl info_op (by assumption) ?_
  (try simp only [Act.put, List.setIfInBounds_toArray, List.set_cons_zero, List.set_cons_succ])
  refine held_load 2 rfl (by kernel_rfl) (by kernel_rfl) (by kernel_rfl) (fun _ _ _ _ h => h) (by rfl) 24 (.tmp 2) rfl w.heap.size (opL o A n c) _ rfl (fun wx hSx => hSx.1) hu rfl info_op (by assumption) ?_
  (try simp only [Act.put, List.setIfInBounds_toArray, List.set_cons_zero, List.set_cons_succ])
  refine held_call 1 rfl (by kernel_rfl) (fun K hK => ?_)
  go_simp
  go_at_call 10
  refine (HSay.out _ (Ext.refl w8).drew).mono ?_
  rintro e wa ⟨rfl, hEa⟩
  have hEa1 : Ext w8 wa := ((Ext.refl w8).drew).trans hEa
  go_wp2_with fail
  refine hK.out _ _ (HS2.out _ hEa1) (fun hHeld => ?_)
  clear hK K
  (try simp only [Act.put, List.setIfInBounds_toArray, List.set_cons_zero, List.set_cons_succ])
  refine held_call 3 rfl (by kernel_rfl) (fun K hK => ?_)
  go_simp
  go_at_call 11
  refine (HQSay.out _ hEa1).mono ?_
  rintro e wb ⟨rfl, hEb⟩
  have hEb1 : Ext w8 wb := hEa1.trans hEb
  go_wp2_with fail
  refine hK.out _ _ (HS2.out _ hEb1) (fun hHeld => ?_)
  clear hK K
  (try simp only [Act.put, List.setIfInBounds_toArray, List.set_cons_zero, List.set_cons_succ])
  refine held_take 4 rfl (by kernel_rfl) (by kernel_rfl) (by kernel_rfl) (fun _ _ _ _ h => h) (by rfl) ?_ ?_ (by assumption) ?_
  rotate_left
  · (intro wx hSx; (try dsimp only at hSx); go_simp)
    all_goals with_reducible rfl
  (try simp only [Act.put, List.setIfInBounds_toArray, List.set_cons_zero, List.set_cons_succ])
  refine held_take 5 rfl (by kernel_rfl) (by kernel_rfl) (by kernel_rfl) (fun _ _ _ _ h => h) (by rfl) ?_ ?_ (by assumption) ?_
  rotate_left
  · (intro wx hSx; (try dsimp only at hSx); go_simp)
    all_goals with_reducible rfl
  (try simp only [Act.put, List.setIfInBounds_toArray, List.set_cons_zero, List.set_cons_succ])
  refine held_load 6 rfl (by kernel_rfl) (by kernel_rfl) (by kernel_rfl) (fun _ _ _ _ h => h) (by rfl) 24 (.tmp 5) rfl w3.heap.size (opL o1 A1 n1 c1) _ rfl (fun wx hSx => hSx.2.1) hu rfl info_op (by assumption) ?_
  (try simp only [Act.put, List.setIfInBounds_toArray, List.set_cons_zero, List.set_cons_succ])
  refine held_load 7 rfl (by kernel_rfl) (by kernel_rfl) (by kernel_rfl) (fun _ _ _ _ h => h) (by rfl) 24 (.tmp 7) rfl w6.heap.size (opL o1 A2 n2 c2) _ rfl (fun wx hSx => hSx.2.2.1) hu rfl info_op (by assumption) ?_
  (try simp only [Act.put, List.setIfInBounds_toArray, List.set_cons_zero, List.set_cons_succ])
  refine held_call 8 rfl (by kernel_rfl) (fun K hK => ?_)
  go_simp
  go_at_call 12
  refine (HSame.out _ hEb1).mono ?_
  rintro e wc ⟨rfl, hEc⟩
  have hEc1 : Ext w8 wc := hEb1.trans hEc
  go_wp2_with fail
  refine hK.out _ _ (HS2.out _ hEc1) (fun hHeld => ?_)
  clear hK K
  (try simp only [Act.put, List.setIfInBounds_toArray, List.set_cons_zero, List.set_cons_succ])
  refine held_take 9 rfl (by kernel_rfl) (by kernel_rfl) (by kernel_rfl) (fun _ _ _ _ h => h) (by rfl) ?_ ?_ (by assumption) ?_
  rotate_left
  · (intro wx hSx; (try dsimp only at hSx); go_simp)
    all_goals with_reducible rfl
  (try simp only [Act.put, List.setIfInBounds_toArray, List.set_cons_zero, List.set_cons_succ])
  refine held_take 10 rfl (by kernel_rfl) (by kernel_rfl) (by kernel_rfl) (fun _ _ _ _ h => h) (by rfl) ?_ ?_ (by assumption) ?_
  rotate_left
  · (intro wx hSx; (try dsimp only at hSx); go_simp)
    all_goals with_reducible rfl
  (try simp only [Act.put, List.setIfInBounds_toArray, List.set_cons_zero, List.set_cons_succ])
  refine held_take 11 rfl (by kernel_rfl) (by kernel_rfl) (by kernel_rfl) (fun _ _ _ _ h => h) (by rfl) ?_ ?_ (by assumption) ?_
  rotate_left
  · (intro wx hSx; (try dsimp only at hSx); go_simp)
    all_goals with_reducible rfl
  (try simp only [Act.put, List.setIfInBounds_toArray, List.set_cons_zero, List.set_cons_succ])
  refine held_take 12 rfl (by kernel_rfl) (by kernel_rfl) (by kernel_rfl) (fun _ _ _ _ h => h) (by rfl) ?_ ?_ (by assumption) ?_
  rotate_left
  · (intro wx hSx; (try dsimp only at hSx); go_simp)
    all_goals with_reducible rfl
  (try simp only [Act.put, List.setIfInBounds_toArray, List.set_cons_zero, List.set_cons_succ])
  refine held_take 13 rfl (by kernel_rfl) (by kernel_rfl) (by kernel_rfl) (fun _ _ _ _ h => h) (by rfl) ?_ ?_ (by assumption) ?_
  rotate_left
  · (intro wx hSx; (try dsimp only at hSx); go_simp)
    all_goals with_reducible rfl
  (try simp only [Act.put, List.setIfInBounds_toArray, List.set_cons_zero, List.set_cons_succ])
  refine held_take 14 rfl (by kernel_rfl) (by kernel_rfl) (by kernel_rfl) (fun _ _ _ _ h => h) (by rfl) ?_ ?_ (by assumption) ?_
  rotate_left
  · (intro wx hSx; (try dsimp only at hSx); go_simp)
    all_goals with_reducible rfl
  (try simp only [Act.put, List.setIfInBounds_toArray, List.set_cons_zero, List.set_cons_succ])
  refine held_take 15 rfl (by kernel_rfl) (by kernel_rfl) (by kernel_rfl) (fun _ _ _ _ h => h) (by rfl) ?_ ?_ (by assumption) ?_
  rotate_left
  · (intro wx hSx; (try dsimp only at hSx); go_simp)
    all_goals with_reducible rfl
  (try simp only [Act.put, List.setIfInBounds_toArray, List.set_cons_zero, List.set_cons_succ])
  refine wpAnyH_done (by kernel_rfl) ?_ _
  obtain ⟨hDd, hE1, hE2, hE28, hOx⟩ := HDa.out
  have hck := (hOx.ext hEc1).cellAt 7 (by omega)
  simp only [opL, List.getElem?_cons_zero, List.getElem?_cons_succ] at hck
  have HOv := hide (f_OverData wc w2 w2.heap.size A1 n1 c1 o1.da (hDd.ext hEc1) hn1 (hE28.trans hEc1) (Nat.le_refl _))
  have HE12 := hide (hE1.trans hE2)
  clear hDd hE28 hOx hE1 hE2
  go_wp2_with fail
  refine HOv.out.mono ?_
  rintro e wd ⟨rfl, hEd⟩
  have HA := hide (law25_awake wd (HL2.out.ext hEd))
  clear HOv HSay HQSay HSame HS2 HDa hck
  go_wp2_with fail
  refine HA.out.mono ?_
  rintro e we ⟨rfl, hEe⟩
  go_wp2_with fail
  go_ret
  exact ⟨rfl, HE12.out.trans (hEd.trans hEe)⟩
end Go.Proofs.YtmfenegkeiipnaaDoor
