/- The statements on inodes: each has bytes of its own. -/
import Derived.Test.YthbdnaogjmnagaaLaw7c
import Derived.BigQuiet
namespace Go.Proofs.Ythbdnaogjmnagaa
set_option linter.unusedVariables false
open Go.RowKit

theorem rangeAt_nth {w : World} {g : Nat} {is : List Int} (k : Nat) (h : w.rangeAt g 0 (i64s is)) : w.rangeAt g (k * 11) (i64s (nth is k)) := by
  intro j v hj
  rw [← nth_i64s, List.getElem?_take] at hj
  split at hj
  · rw [List.getElem?_drop] at hj
    have := h (k * 11 + j) v hj
    rwa [Nat.zero_add] at this
  · cases hj

section
variable {P : Program} {ops : Array Oper} {Q : Exit → Act → World → Prop} {md : Region.Mode} {S : World → Prop} {fuel : Nat} {listed : Array Bool} {a : Act} {w : World} {oi : Oper} {rest : List Oper}
theorem held_loadAt (i : Nat) (hi : ops.toList.drop i = oi :: rest) (hs : Region.noSelect ops = true) (hf : Region.free md ops listed i = true) (hr : (Region.ready md ops listed).contains i = true)
    (hQ : ∀ (v : Value) c a w, Q (.panic c) (a.put oi.dst v) w → Q (.panic c) a w) (hw : Region.wanted oi (yielded ops a.tmps) = true)
    (ty : TypeId) (x : Operand) (ho : oi.op = .load ty x) (b off : Nat) (cs : List Value) (d : TypeDesc) (hx : a.eval x = .pointer (some ⟨b, off, none⟩)) (hS' : ∀ w, S w → w.rangeAt b off cs)
    (hu : P.underlying ty = some d) (hd : d.isRow = true) (hin : (P.info? ty).map (·.size) = some cs.length) (hS : S w)
    (h : wpAnyH P md ops Q S fuel (listed.setIfInBounds i true) (a.put oi.dst (.agg cs.toArray)) w) : wpAnyH P md ops Q S (fuel + 1) listed a w :=
  wpAnyH_take (drop_get hi) hs hf hr (hQ _) (yieldsIf_load_mid hw ty x ho b off hx cs d hS' hu hd hin) hS h
end
set_option maxRecDepth 100000 in
set_option maxHeartbeats 2000000 in
theorem law_InodeSlots (w : World) (is : List Int) (hl : is.length = 44) (_hp : ∀ p ∈ is, -9223372036854775808 ≤ p ∧ p ≤ 9223372036854775807) (i : List Int) (hi : i.length = 11) (_hq : ∀ p ∈ i, -9223372036854775808 ≤ p ∧ p ≤ 9223372036854775807)
    (z : Int) (_z : -9223372036854775808 ≤ z) (_z' : z ≤ 9223372036854775807) :
    Calls Try.prog 13 #[.agg (i64s is).toArray, .agg (i64s i).toArray, .int .i64 z] w fun e w' => e = .returned (.bool true) ∧ Ext w w' := by
  clear _hp _hq _z _z'
  have HLL := hide (And.intro (i64s_len' hl) (i64s_len' hi))
  have hlay : ∀ js : List Int, js.length = 44 → ∃ n1 e1 : Nat, (n1 ≤ 128) ∧ (∀ w, Calls Try.prog 45 #[.agg (i64s js).toArray] w fun e w' => ∃ A' c', e = .returned (.tuple #[.slice A' n1 c', .int .i64 (e1 : Nat)]) ∧ Own w' w.heap.size 5 A' n1 c' (by8 (layIL js)) ∧ Ext w w') ∧ ((allI js 4 ∧ e1 = 0 ∧ n1 = 128) ∨ (¬ allI js 4 ∧ e1 = 2 ∧ n1 = 0)) := by
    intro js hjs
    by_cases ha : allI js 4
    · exact ⟨128, 0, by omega, fun w => Lay_good js hjs ha w, .inl ⟨ha, rfl, rfl⟩⟩
    · exact ⟨0, 2, by omega, fun w => Lay_bad js hjs ha w, .inr ⟨ha, rfl, rfl⟩⟩
  have HLAY := hide hlay
  have HI := hide (And.intro hl hi)
  clear hlay hl hi
  have hF := Ext.refl w
  go_enter Try.func13, Try.ntmps13
  go_wp2_with (first
    | (with_reducible refine ag_box (o := ⟨some 3, _, _, _, _, _⟩) rfl 49 (.tmp 0) rfl _ 44 rfl HLL.out.1 (by omega) (i64s_one is) w.heap.size (Nat.le_refl _) ?_; intro w1 hB hE1 hz1; replace hF := hF.trans hE1)
    | (with_reducible refine ag_box (o := ⟨some 4, _, _, _, _, _⟩) rfl 48 (.tmp 1) rfl _ 11 rfl HLL.out.2 (by omega) (i64s_one i) w1.heap.size (Nat.le_refl _) ?_; intro w2 hD hE2 hz2; replace hB := hB.ext hE2; replace hF := hF.trans hE2))
  refine (Low z _ 4 _ rfl (by omega) (by omega)).mono ?_
  rintro e w' ⟨rfl, rfl⟩
  have hs := low_lt z (n := 4) (by omega)
  generalize low z 4 = s at *
  have hnow := putI_len HI.out.1 HI.out.2 hs
  obtain ⟨n1, e1, hn1, hlay1, hc1⟩ := HLAY.out is HI.out.1
  obtain ⟨n2, e2, hn2, hlay2, hc2⟩ := HLAY.out (putI is i s) hnow
  have Y1 := hide hlay1
  have Y2 := hide hlay2
  have HC1 := hide hc1
  have HC2 := hide hc2
  have HNL := hide hnow
  have hput : (i64s is).take (s * 11) ++ i64s i ++ (i64s is).drop (s * 11 + (i64s i).length) = i64s (putI is i s) := by
    rw [HLL.out.2]
    unfold putI i64s
    simp only [List.map_append, List.map_take, List.map_drop]
  have HP := hide hput
  clear hlay1 hlay2 hc1 hc2 hnow hput
  go_wp2_with (first
    | (with_reducible refine ag_load rfl 49 (.tmp 3) rfl w.heap.size 44 w.heap.size 49 _ rfl hB agg_inodes info_inodes ?_)
    | (with_reducible refine ag_alloc (o := ⟨some 7, _, _, _, _, _⟩) rfl 49 rfl _ 44 zero_inodes rfl (by omega) (i64s_one _) w2.heap.size (Nat.le_refl _) ?_; intro w3 hR3 hE3 hz3)
    | (with_reducible refine ag_store (o := ⟨none, _, _, _, _, _⟩) rfl 49 (.tmp 7) (.tmp 16) rfl w2.heap.size 44 w2.heap.size 49 _ _ rfl rfl hR3 HLL.out.1 (i64s_one _) info_inodes ?_; intro w4 hR4 hG4
       have hE4 := hE3.grown hG4 (by simp)
       replace hB := hB.ext hE4
       replace hD := hD.ext hE4)
    | (with_reducible refine ag_load rfl 48 (.tmp 4) rfl w1.heap.size 11 w1.heap.size 48 _ rfl hD agg_inode info_inode ?_)
    | (with_reducible refine ag_storeAt (o := ⟨none, _, _, _, _, _⟩) rfl 48 (.tmp 19) (.tmp 18) rfl w2.heap.size (s * 11) 44 44 w2.heap.size 49 (i64s is) (i64s i) rfl rfl hR4 (by rw [HLL.out.2]; omega) (i64s_one _) (by rw [HLL.out.2]; exact info_inode) ?_; intro w5 hR5 hG5
       rw [HP.out] at hR5
       have hE5 : Ext w2 w5 := hE4.grown hG5 (by simp)
       have hlt1 : w1.heap.size < w2.heap.size := hz2
       have hlt0 : w.heap.size < w1.heap.size := hz1
       replace hB := hB.kept hG5 (fun a ha he => by simp at ha; subst ha; simp at he; omega)
       replace hD := hD.kept hG5 (fun a ha he => by simp at ha; subst ha; simp at he; omega)))
  refine (Y1.out _).mono ?_
  rintro e w6 ⟨A1, c1, rfl, hO1, hE6⟩
  go_wp2_with (with_reducible refine ag_load rfl 49 (.tmp 7) rfl w2.heap.size 44 w2.heap.size 49 _ rfl (hR5.ext hE6) agg_inodes info_inodes ?_)
  refine (Y2.out _).mono ?_
  rintro e w7 ⟨A2, c2, rfl, hO2, hE7⟩
  have hF7 : Ext w w7 := hF.trans (hE5.trans (hE6.trans hE7))
  have hB7 := hB.ext (hE6.trans hE7)
  have hD7 := hD.ext (hE6.trans hE7)
  have hS1 := hO1.sl.ext hE7
  have hS2 := hO2.sl
  clear hB hD hO1 hO2 hE6 hE7 hE5 hR5 hG5 hR4 hG4 hE4 hR3 hE3 hz3 hE1 hz1 hE2 hz2 hF Y1 Y2 HP
  have hbad : ∀ {P : Prop}, ((¬ allI is 4 ∧ e1 = 2 ∧ n1 = 0 ∧ allI (putI is i s) 4 ∧ e2 = 0 ∧ n2 = 128) ∨ (¬ allI is 4 ∧ e1 = 2 ∧ n1 = 0 ∧ ¬ allI (putI is i s) 4 ∧ e2 = 2 ∧ n2 = 0) ∨ (allI is 4 ∧ e1 = 0 ∧ n1 = 128 ∧ ¬ allI (putI is i s) 4 ∧ e2 = 2 ∧ n2 = 0) → P) → (allI is 4 ∧ e1 = 0 ∧ n1 = 128 ∧ allI (putI is i s) 4 ∧ e2 = 0 ∧ n2 = 128 → P) → P := by
    intro P k1 k2
    rcases HC1.out with ⟨a1, a2, a3⟩ | ⟨a1, a2, a3⟩ <;> rcases HC2.out with ⟨b1, b2, b3⟩ | ⟨b1, b2, b3⟩
    · exact k2 ⟨a1, a2, a3, b1, b2, b3⟩
    · exact k1 (.inr (.inr ⟨a1, a2, a3, b1, b2, b3⟩))
    · exact k1 (.inl ⟨a1, a2, a3, b1, b2, b3⟩)
    · exact k1 (.inr (.inl ⟨a1, a2, a3, b1, b2, b3⟩))
  clear hn1 hn2
  refine hbad (fun hb => ?_) (fun hg => ?_)
  · clear hbad HC1 HC2
    rcases hb with ⟨_, rfl, rfl, _, rfl, rfl⟩ | ⟨_, rfl, rfl, _, rfl, rfl⟩ | ⟨_, rfl, rfl, _, rfl, rfl⟩ <;>
      (go_wp2_with (go_at_call 43; refine (law7_awake _).mono ?_; rintro e w8 ⟨rfl, hE8⟩)
       go_ret
       exact ⟨rfl, hF7.trans hE8⟩)
  · clear hbad
    obtain ⟨ha, rfl, rfl, ha2, rfl, rfl⟩ := hg
    have hoth := fun q (hq : q < 124) ho => slot_other HI.out.1 HI.out.2 ha hs ha2 (q := q) hq ho
    have HOTH := hide hoth
    have hdd : decide (layIL is = layIL (putI is i s)) = decide (nth is s = i) := by
      rw [decide_eq_decide, layIL_inj HI.out.1 HNL.out ha ha2]
      exact putI_same HI.out.1 HI.out.2 hs
    have HDD := hide hdd
    have hb1 := Bytes.layIL is
    have hb2 := Bytes.layIL (putI is i s)
    clear hoth hdd ha ha2 HC1 HC2 HLAY
    obtain ⟨g1, o1, y1, hA1, k1, k2, k3⟩ := hS1.at8 hb1 (k := 0) (by omega)
    clear k1 k2 k3
    obtain ⟨g2, o2, y2, hA2, k1, k2, k3⟩ := hS2.at8 hb2 (k := 0) (by omega)
    clear k1 k2 k3
    subst hA1 hA2
    have HS1 := hide hS1
    have HS2 := hide hS2
    clear hS1 hS2
    go_wp2_with fail
    go_loopw [12] (fun j wr => ∃ q : Nat, q ≤ 124 ∧ j = .int .i64 q ∧ Ext w7 wr) (fun j _ => 124 - (intOf j).toNat)
    case atStart => exact ⟨0, by omega, rfl, Ext.refl _⟩
    case round =>
      obtain ⟨q, hq, rfl, hE⟩ := hrel
      by_cases hlt : q < 124
      · have j0 : (q : Int) < 124 := by omega
        have e1 := IntWalk.i64_in (23 * (s : Int)) (by omega)
        have e2 := IntWalk.i64_in (1 + 23 * (s : Int)) (by omega)
        have e3 := IntWalk.i64_in ((s : Int) + 1) (by omega)
        have e4 := IntWalk.i64_in (23 * ((s : Int) + 1)) (by omega)
        have e5 := IntWalk.i64_in (1 + 23 * ((s : Int) + 1)) (by omega)
        by_cases h1 : 1 + 23 * s ≤ q
        · have j1 : 1 + 23 * (s : Int) ≤ q := by omega
          by_cases h2 : q < 1 + 23 * (s + 1)
          · have j2 : (q : Int) < 1 + 23 * ((s : Int) + 1) := by omega
            go_wp2_with fail
            go_quiet (fail)
            go_wp2_with fail
            go_roundw
            case rel => exact ⟨q + 1, by omega, by go_num, hE.drewN _⟩
            case measure => simp [intOf]; omega
          · have j2 : ¬ (q : Int) < 1 + 23 * ((s : Int) + 1) := by omega
            have hx := HOTH.out q hlt (by omega)
            obtain ⟨_, _, x0, hA, hx0, hc1, hl0⟩ := (HS1.out.ext hE).at8 hb1 (k := q) (by omega)
            simp at hA
            obtain ⟨rfl, rfl⟩ := hA
            obtain ⟨_, _, y0, hA, hy0, hc2, hl1⟩ := (HS2.out.ext hE).at8 hb2 (k := q) (by omega)
            simp at hA
            obtain ⟨rfl, rfl⟩ := hA
            obtain rfl : x0 = y0 := by
              have k1 := hx0.out
              have k2 := hy0.out
              rw [hx, k1] at k2
              exact Option.some.inj k2
            clear hx hx0 hy0 hl1
            go_wp2_with fail
            have hc1' := (Ext.drew (Ext.refl _)).cell hc1
            have hc2' := (Ext.drew (Ext.refl _)).cell hc2
            go_quiet (fail)
            go_wp2_with fail
            go_roundw
            case rel => exact ⟨q + 1, by omega, by go_num, hE.drewN _⟩
            case measure => simp [intOf]; omega
        · have j1 : ¬ 1 + 23 * (s : Int) ≤ q := by omega
          have hx := HOTH.out q hlt (by omega)
          obtain ⟨_, _, x0, hA, hx0, hc1, hl0⟩ := (HS1.out.ext hE).at8 hb1 (k := q) (by omega)
          simp at hA
          obtain ⟨rfl, rfl⟩ := hA
          obtain ⟨_, _, y0, hA, hy0, hc2, hl1⟩ := (HS2.out.ext hE).at8 hb2 (k := q) (by omega)
          simp at hA
          obtain ⟨rfl, rfl⟩ := hA
          obtain rfl : x0 = y0 := by
            have k1 := hx0.out
            have k2 := hy0.out
            rw [hx, k1] at k2
            exact Option.some.inj k2
          clear hx hx0 hy0 hl1
          go_wp2_with fail
          have hc1' := (Ext.drew (Ext.refl _)).cell hc1
          have hc2' := (Ext.drew (Ext.refl _)).cell hc2
          go_quiet (fail)
          go_wp2_with fail
          go_roundw
          case rel => exact ⟨q + 1, by omega, by go_num, hE.drewN _⟩
          case measure => simp [intOf]; omega
      · obtain rfl : q = 124 := by omega
        go_wp2_with fail
        have hi1 : (Try.prog.info? 48).map (·.size) = some (i64s (nth is s)).length := by rw [i64s_len' (nth_len HI.out.1 hs)]; exact info_inode
        have hi2 : (Try.prog.info? 48).map (·.size) = some (i64s i).length := by rw [HLL.out.2]; exact info_inode
        have heq := fun w1 => eq_inode (nth is s) i (nth_len HI.out.1 hs) HI.out.2 w1
        have hu := Try.underlying48
        have keepS : ∀ w', Ext w7 w' → w'.rangeAt w.heap.size (s * 11) (i64s (nth is s)) ∧ w'.rangeAt w1.heap.size 0 (i64s i) := fun w' hE => ⟨rangeAt_nth s (hB7.ext hE).range, (hD7.ext hE).range⟩
        generalize decide (nth is s = i) = dd at *
        refine wp_region_held_drew (S := fun w' => w'.rangeAt w.heap.size (s * 11) (i64s (nth is s)) ∧ w'.rangeAt w1.heap.size 0 (i64s i)) (by kernel_rfl) (keepS _ (hE.trans (Ext.drew (Ext.refl _)))) (fun hHeld => ?_)
        refine held_take 0 rfl (by kernel_rfl) (by kernel_rfl) (by kernel_rfl) (fun _ _ _ _ h => h) (by rfl) ?_ ?_ (by assumption) ?_
        rotate_left
        · (intro wx hSx; (try dsimp only at hSx); go_simp)
          all_goals with_reducible rfl
        (try simp only [Act.put, List.setIfInBounds_toArray, List.set_cons_zero, List.set_cons_succ])
        refine held_take 1 rfl (by kernel_rfl) (by kernel_rfl) (by kernel_rfl) (fun _ _ _ _ h => h) (by rfl) ?_ ?_ (by assumption) ?_
        rotate_left
        · (intro wx hSx; (try dsimp only at hSx); go_simp)
          all_goals with_reducible rfl
        (try simp only [Act.put, List.setIfInBounds_toArray, List.set_cons_zero, List.set_cons_succ])
        refine held_take 3 rfl (by kernel_rfl) (by kernel_rfl) (by kernel_rfl) (fun _ _ _ _ h => h) (by rfl) ?_ ?_ (by assumption) ?_
        rotate_left
        · (intro wx hSx; (try dsimp only at hSx); go_simp)
          all_goals with_reducible rfl
        (try simp only [Act.put, List.setIfInBounds_toArray, List.set_cons_zero, List.set_cons_succ])
        refine held_take 4 rfl (by kernel_rfl) (by kernel_rfl) (by kernel_rfl) (fun _ _ _ _ h => h) (by rfl) ?_ ?_ (by assumption) ?_
        rotate_left
        · (intro wx hSx; (try dsimp only at hSx); go_simp)
          all_goals with_reducible rfl
        (try simp only [Act.put, List.setIfInBounds_toArray, List.set_cons_zero, List.set_cons_succ])
        refine held_loadAt 5 rfl (by kernel_rfl) (by kernel_rfl) (by kernel_rfl) (fun _ _ _ _ h => h) (by rfl) 48 (.tmp 99) rfl w.heap.size (s * 11) (i64s (nth is s)) _ rfl (fun wx hSx => hSx.1) hu rfl hi1 (by assumption) ?_
        (try simp only [Act.put, List.setIfInBounds_toArray, List.set_cons_zero, List.set_cons_succ])
        refine held_load 6 rfl (by kernel_rfl) (by kernel_rfl) (by kernel_rfl) (fun _ _ _ _ h => h) (by rfl) 48 (.tmp 4) rfl w1.heap.size (i64s i) _ rfl (fun wx hSx => hSx.2) hu rfl hi2 (by assumption) ?_
        (try simp only [Act.put, List.setIfInBounds_toArray, List.set_cons_zero, List.set_cons_succ])
        refine held_take 7 rfl (by kernel_rfl) (by kernel_rfl) (by kernel_rfl) (fun _ _ _ _ h => h) (by rfl) ?_ ?_ (by assumption) ?_
        rotate_left
        · (intro wx hSx; (try dsimp only at hSx); go_simp)
          all_goals with_reducible rfl
        (try simp only [Act.put, List.setIfInBounds_toArray, List.set_cons_zero, List.set_cons_succ])
        refine held_call 2 rfl (by kernel_rfl) (fun K hK => ?_)
        go_simp
        go_at_call 42
        refine (SameBytes _ _ _ _ _ _ _ _ _ (HS1.out.ext (hE.trans (Ext.drew (Ext.refl _)))) (HS2.out.ext (hE.trans (Ext.drew (Ext.refl _)))) hb1 hb2).mono ?_
        rintro e w8 ⟨rfl, j8, hw8⟩
        have hE8 : Ext w7 w8 := by rw [hw8]; exact (hE.trans (Ext.drew (Ext.refl _))).drewN _
        clear hw8
        rw [HDD.out]
        go_wp2_with fail
        refine hK.out _ _ (keepS _ hE8) (fun hHeld => ?_)
        clear hK K
        (try simp only [Act.put, List.setIfInBounds_toArray, List.set_cons_zero, List.set_cons_succ])
        refine held_take 8 rfl (by kernel_rfl) (by kernel_rfl) (by kernel_rfl) (fun _ _ _ _ h => h) (by rfl) ?_ ?_ (by assumption) ?_
        rotate_left
        · (intro wx hSx; (try dsimp only at hSx); go_simp)
          all_goals with_reducible rfl
        (try simp only [Act.put, List.setIfInBounds_toArray, List.set_cons_zero, List.set_cons_succ])
        refine held_take 9 rfl (by kernel_rfl) (by kernel_rfl) (by kernel_rfl) (fun _ _ _ _ h => h) (by rfl) ?_ ?_ (by assumption) ?_
        rotate_left
        · (intro wx hSx; (try dsimp only at hSx); go_simp)
          all_goals with_reducible rfl
        (try simp only [Act.put, List.setIfInBounds_toArray, List.set_cons_zero, List.set_cons_succ])
        refine held_call 10 rfl (by kernel_rfl) (fun K hK => ?_)
        go_simp
        go_at_call 43
        refine (law7_awake _).mono ?_
        rintro e w9 ⟨rfl, hE9⟩
        go_wp2_with fail
        refine hK.out _ _ (keepS _ (hE8.trans hE9)) (fun hHeld => ?_)
        clear hK K
        (try simp only [Act.put, List.setIfInBounds_toArray, List.set_cons_zero, List.set_cons_succ])
        refine held_take 11 rfl (by kernel_rfl) (by kernel_rfl) (by kernel_rfl) (fun _ _ _ _ h => h) (by rfl) ?_ ?_ (by assumption) ?_
        rotate_left
        · (intro wx hSx; (try dsimp only at hSx); go_simp)
          all_goals with_reducible rfl
        (try simp only [Act.put, List.setIfInBounds_toArray, List.set_cons_zero, List.set_cons_succ])
        refine held_take 12 rfl (by kernel_rfl) (by kernel_rfl) (by kernel_rfl) (fun _ _ _ _ h => h) (by rfl) ?_ ?_ (by assumption) ?_
        rotate_left
        · (intro wx hSx; (try dsimp only at hSx); go_simp)
          all_goals with_reducible rfl
        (try simp only [Act.put, List.setIfInBounds_toArray, List.set_cons_zero, List.set_cons_succ])
        refine wpAnyH_done (by kernel_rfl) ?_ _
        clear hHeld
        go_wp2_with fail
        go_ret
        exact ⟨rfl, hF7.trans (hE8.trans hE9)⟩
end Go.Proofs.Ythbdnaogjmnagaa
