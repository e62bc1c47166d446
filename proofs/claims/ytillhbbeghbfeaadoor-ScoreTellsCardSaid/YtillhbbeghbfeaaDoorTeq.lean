/- The document's order: the walk. -/
import Derived.Test.YtillhbbeghbfeaaDoorTep
import Derived.Deep.DeepCutAuto
import Derived.Deep.CutBlock
namespace Go.Proofs.YtillhbbeghbfeaaDoor
set_option linter.unusedVariables false
set_option linter.unusedSimpArgs false
open Go.RowKit

section
variable {P : Program} {md : Region.Mode} {ops : Array Oper} {Q : Exit → Act → World → Prop} {S : World → Prop} {fuel : Nat} {listed : Array Bool} {a : Act} {w : World} {oi oj : Oper} {rest rest2 : List Oper}
/-- Two operations are ready: each may come first. -/
theorem held_two (i j : Nat) (hi : ops.toList.drop i = oi :: rest) (hj : ops.toList.drop j = oj :: rest2) (hr : Region.ready md ops listed = [i, j])
    (h1 : ∀ K' : Act → World → Prop, Shut (∀ a w, S w → (S w → wpAnyH P md ops Q S fuel (listed.setIfInBounds i true) a w) → K' a w) → if Region.wanted oi (yielded ops a.tmps) = true then Oper.wp P oi a w K' Q else K' (a.put oi.dst undef) w)
    (h2 : ∀ K' : Act → World → Prop, Shut (∀ a w, S w → (S w → wpAnyH P md ops Q S fuel (listed.setIfInBounds j true) a w) → K' a w) → if Region.wanted oj (yielded ops a.tmps) = true then Oper.wp P oj a w K' Q else K' (a.put oj.dst undef) w) :
    wpAnyH P md ops Q S (fuel + 1) listed a w :=
  wpAnyH_ready hr (by simp) (AllReadyH.cons (drop_get hi) h1 (AllReadyH.cons (drop_get hj) h2 AllReadyH.nil))
end
/-- append of integers, as a step of a region that draws its order. -/
theorem stepI {w : World} {ops : Array Oper} {o : Oper} {a : Act} {K : Act → World → Prop} {Q : Exit → Act → World → Prop} {E : Prop} (hgd : o.guard = none) (s x : Operand)
    (ho : o.op = .call { callee := .builtin .append, args := #[s, x], argTypes := #[33, 33] })
    (B : Nat) (A : Option Addr) (n c : Nat) (xs : List Value) (hs : a.eval s = .slice A n c) (hown : Own w B 3 A n c xs)
    (A2 : Option Addr) (m c2 : Nat) (ys : List Value) (hx : a.eval x = .slice A2 m c2) (hsl : Sl w A2 m c2 ys) (hbytes : n + m ≤ 1000000000000) (hB : B ≤ w.heap.size)
    (h : ∀ A' c' w', Own w' B 3 A' (n + m) c' (xs ++ ys) → w.grownBy w' (Value.slice A n c).ownBlock → K (a.put o.dst (.slice A' (n + m) c')) w') :
    if Region.wanted o (yielded ops a.tmps) = true then Oper.wp Tryd.prog o a w K Q else E := by
  obtain ⟨i0, hi0, hz0, hz1, hz2⟩ := info_parts info_intT
  exact step_app hgd s x 33 ho B 3 i0 _ 8 Tryd.underlying33 hi0 hz0 hz1 hz2 rfl A n c xs hs hown A2 m c2 ys hx hsl (by omega) (by omega) hB h
theorem q_RLess (x y : Nat) (hx : x < 18446744073709551616) (hy : y < 18446744073709551616) (b : Bool) (hb : lessF x y = b) : ∀ w, Calls Tryd.prog 34 #[.float .f64 x, .float .f64 y] w fun e w' => e = .returned (.bool b) ∧ w' = w :=
  fun w => (ref1_Less x y w hx hy).mono fun e w' ⟨a, c⟩ => ⟨by rw [a, hb], c.symm⟩
set_option maxRecDepth 100000 in
set_option maxHeartbeats 4000000 in
theorem ref1_Order (w : World) (A : Option Addr) (n c : Nat) (xs : List Nat) (hS : Sl w A n c (fl xs)) (hb : Words xs) (hn : n ≤ 1000) :
    Calls Tryd.prog 29 #[.slice A n c] w fun e w' => ∃ (A' : Option Addr) (c' : Nat) (Z : List Int), e = .returned (.slice A' n c') ∧ Own w' w.heap.size 3 A' n c' (i64s Z) ∧ Ext w w' ∧ Z.Pairwise (LT (KX xs)) ∧ Z.Perm (idx n) := by
  have hcm := hS.cm
  have hnc := hS.nc
  go_enter Tryd.func29, Tryd.ntmps29
  go_wp2_with fail
  go_loopw [3, 4] (fun s v wr => ∃ (i c1 : Nat) (A1 : Option Addr) (Z : List Int), i ≤ n ∧ v = .int .i64 i ∧ s = .slice A1 i c1 ∧ Own wr w.heap.size 3 A1 i c1 (i64s Z) ∧ Ext w wr ∧ Hid (Z.Pairwise (LT (KX xs)) ∧ Z.Perm (idx i))) (fun _ v _ => n - (intOf v).toNat)
  case atStart => exact ⟨0, 0, none, [], by omega, rfl, rfl, Own.nilS _ _ _, Ext.refl w, List.Pairwise.nil, List.Perm.refl _⟩
  case round =>
    obtain ⟨i, c1, A1, Z, hi, rfl, rfl, hO, hE, hZ⟩ := hrel
    by_cases hlt : i < n
    · have i2 : (i : Int) < (n : Int) := by omega
      obtain ⟨b0, o0, x, hA, hx, hcx, hx2⟩ := (hS.ext hE).atF hb hlt
      subst hA
      have hlz : Z.length = i := by have := hO.len; rwa [i64s_len] at this
      have hkx : KX xs (i : Int) = KF x := by rw [KX_nat, getD_of hx.out]
      have HX := hide (And.intro hlz hkx)
      clear hlz hkx
      obtain ⟨wo, hwo⟩ : ∃ wo : World, wo = wr := ⟨_, rfl⟩
      rw [← hwo] at hO hE hcx ⊢
      clear hwo
      go_upto_block 2 with fail
      go_cut [5] from 14 to 32 (fun s wx => ∃ k : Nat, s = .int .i64 k ∧ k ≤ i ∧ Ext wo wx ∧ Hid ((Z.take k ++ ((i : Int) :: Z.drop k)).Pairwise (LT (KX xs)) ∧ (Z.take k ++ ((i : Int) :: Z.drop k)).Perm (idx (i + 1))))
      case first =>
        go_wp2_with fail
        go_loopw [5] (fun v wr => ∃ k : Nat, v = .int .i64 k ∧ Hid (RefAt (KX xs) Z i k) ∧ k ≤ i ∧ Ext wo wr) (fun v _ => (intOf v).toNat)
        case atStart => exact ⟨i, rfl, RefAt.start HX.out.1, Nat.le_refl _, Ext.refl wo⟩
        case round =>
          obtain ⟨k, rfl, hk, hki, hE2⟩ := hrel
          by_cases hk0 : k = 0
          · subst hk0
            have HD := hide (hk.out.done hZ.out.1 hZ.out.2 (Or.inl rfl))
            go_wp2_with fail
            refine wp_region_held_drew (S := (fun w' => True)) (by kernel_rfl) trivial (fun hHeld => ?_)
            refine held_take 0 rfl (by kernel_rfl) (by kernel_rfl) (by kernel_rfl) (fun _ _ _ _ h => h) (by rfl) ?_ ?_ (by assumption) ?_
            rotate_left
            · (intro wx hSx; (try dsimp only at hSx); go_simp)
              all_goals with_reducible rfl
            (try simp only [Act.put, List.setIfInBounds_toArray, List.set_cons_zero, List.set_cons_succ])
            refine held_take 1 rfl (by kernel_rfl) (by kernel_rfl) (by kernel_rfl) (fun _ _ _ _ h => h) (by rfl) ?_ ?_ (by assumption) ?_
            rotate_left
            · (intro wx hSx; (try dsimp only at hSx); go_simp)
              all_goals with_reducible rfl
            (try simp only [Act.put, List.setIfInBounds_toArray, List.set_cons_zero, List.set_cons_succ])
            refine held_take 2 rfl (by kernel_rfl) (by kernel_rfl) (by kernel_rfl) (fun _ _ _ _ h => h) (by rfl) ?_ ?_ (by assumption) ?_
            rotate_left
            · (intro wx hSx; (try dsimp only at hSx); go_simp)
              all_goals with_reducible rfl
            (try simp only [Act.put, List.setIfInBounds_toArray, List.set_cons_zero, List.set_cons_succ])
            refine held_skip 3 rfl (by kernel_rfl) (by kernel_rfl) (by kernel_rfl) (fun _ _ _ _ h => h) (by rfl) (by assumption) ?_
            (try simp only [Act.put, List.setIfInBounds_toArray, List.set_cons_zero, List.set_cons_succ])
            refine held_skip 4 rfl (by kernel_rfl) (by kernel_rfl) (by kernel_rfl) (fun _ _ _ _ h => h) (by rfl) (by assumption) ?_
            (try simp only [Act.put, List.setIfInBounds_toArray, List.set_cons_zero, List.set_cons_succ])
            refine held_skip 5 rfl (by kernel_rfl) (by kernel_rfl) (by kernel_rfl) (fun _ _ _ _ h => h) (by rfl) (by assumption) ?_
            (try simp only [Act.put, List.setIfInBounds_toArray, List.set_cons_zero, List.set_cons_succ])
            refine held_skip 6 rfl (by kernel_rfl) (by kernel_rfl) (by kernel_rfl) (fun _ _ _ _ h => h) (by rfl) (by assumption) ?_
            (try simp only [Act.put, List.setIfInBounds_toArray, List.set_cons_zero, List.set_cons_succ])
            refine held_skip 7 rfl (by kernel_rfl) (by kernel_rfl) (by kernel_rfl) (fun _ _ _ _ h => h) (by rfl) (by assumption) ?_
            (try simp only [Act.put, List.setIfInBounds_toArray, List.set_cons_zero, List.set_cons_succ])
            refine held_skip 8 rfl (by kernel_rfl) (by kernel_rfl) (by kernel_rfl) (fun _ _ _ _ h => h) (by rfl) (by assumption) ?_
            (try simp only [Act.put, List.setIfInBounds_toArray, List.set_cons_zero, List.set_cons_succ])
            refine held_skip 9 rfl (by kernel_rfl) (by kernel_rfl) (by kernel_rfl) (fun _ _ _ _ h => h) (by rfl) (by assumption) ?_
            (try simp only [Act.put, List.setIfInBounds_toArray, List.set_cons_zero, List.set_cons_succ])
            refine held_skip 10 rfl (by kernel_rfl) (by kernel_rfl) (by kernel_rfl) (fun _ _ _ _ h => h) (by rfl) (by assumption) ?_
            (try simp only [Act.put, List.setIfInBounds_toArray, List.set_cons_zero, List.set_cons_succ])
            refine held_skip 11 rfl (by kernel_rfl) (by kernel_rfl) (by kernel_rfl) (fun _ _ _ _ h => h) (by rfl) (by assumption) ?_
            (try simp only [Act.put, List.setIfInBounds_toArray, List.set_cons_zero, List.set_cons_succ])
            refine held_skip 12 rfl (by kernel_rfl) (by kernel_rfl) (by kernel_rfl) (fun _ _ _ _ h => h) (by rfl) (by assumption) ?_
            (try simp only [Act.put, List.setIfInBounds_toArray, List.set_cons_zero, List.set_cons_succ])
            refine held_skip 13 rfl (by kernel_rfl) (by kernel_rfl) (by kernel_rfl) (fun _ _ _ _ h => h) (by rfl) (by assumption) ?_
            (try simp only [Act.put, List.setIfInBounds_toArray, List.set_cons_zero, List.set_cons_succ])
            refine held_skip 14 rfl (by kernel_rfl) (by kernel_rfl) (by kernel_rfl) (fun _ _ _ _ h => h) (by rfl) (by assumption) ?_
            (try simp only [Act.put, List.setIfInBounds_toArray, List.set_cons_zero, List.set_cons_succ])
            refine held_skip 15 rfl (by kernel_rfl) (by kernel_rfl) (by kernel_rfl) (fun _ _ _ _ h => h) (by rfl) (by assumption) ?_
            (try simp only [Act.put, List.setIfInBounds_toArray, List.set_cons_zero, List.set_cons_succ])
            refine held_take 16 rfl (by kernel_rfl) (by kernel_rfl) (by kernel_rfl) (fun _ _ _ _ h => h) (by rfl) ?_ ?_ (by assumption) ?_
            rotate_left
            · (intro wx hSx; (try dsimp only at hSx); go_simp)
              all_goals with_reducible rfl
            (try simp only [Act.put, List.setIfInBounds_toArray, List.set_cons_zero, List.set_cons_succ])
            refine wpAnyH_done (by kernel_rfl) ?_ _
            go_wp2_with fail
            go_meet
            case rel => exact ⟨0, rfl, by omega, hE2.drew, HD.out⟩
          · have W1 : IntKind.i64.wrap ((k : Int) - 1) = ((k - 1 : Nat) : Int) := wrap_sub (a := k) (b := 1) (by omega) (by omega)
            obtain ⟨q, hq⟩ : ∃ q, q = k - 1 := ⟨_, rfl⟩
            rw [← hq] at W1
            have hkq : k = q + 1 := by omega
            obtain ⟨zq, hzq, hzqn⟩ := idx_at hZ.out.2 (i := q) (by omega)
            obtain ⟨b1, o1, z', hA1, hz', hcz⟩ := (hO.ext hE2).sl.atI (k := q) (by omega)
            subst hA1
            have hzz : z' = (zq : Int) := by
              have := hz'.out
              rw [hzq] at this
              exact (Option.some.inj this).symm
            subst hzz
            obtain ⟨b2, o2, y, hA, hy, hcy, hy2⟩ := ((hS.ext hE).ext hE2).atF hb (k := zq) (by omega)
            simp at hA
            obtain ⟨rfl, rfl⟩ := hA
            have hky : KX xs (zq : Int) = KF y := by rw [KX_nat, getD_of hy.out]
            have hcx2 := hE2.cell hcx
            have hOn := hO.sl.nc
            have hOm := hO.sl.cm
            have i3 : (q : Int) < (i : Int) := by omega
            have i4 : (zq : Int) < (n : Int) := by omega
            have I5 := hide (show decide (0 < k) = true by simp; omega)
            have hS3 := And.intro ((Ext.refl wr).drew.cell hcx2) (And.intro ((Ext.refl wr).drew.cell hcz) ((Ext.refl wr).drew.cell hcy))
            by_cases hll : KF x < KF y
            · have Q1 := q_RLess x y hx2 hy2 true (by rw [lessF_KF]; simpa using hll)
              have HD := hide (RefAt.down (k := q) (by rw [← hkq]; exact hk.out) hzq (by rw [HX.out.2, hky]; exact hll))
              have HQ := hide hkq
              clear hq hkq hk0 hk hzq hz' hy hky hll hcz hcy hcx2
              go_wp2_with fail
              refine wp_region_held_drew (S := (fun w' => w'.cell? ⟨b0, o0 + i, none⟩ = some (.float .f64 x) ∧ w'.cell? ⟨b1, o1 + q, none⟩ = some (.int .i64 (zq : Nat)) ∧ w'.cell? ⟨b0, o0 + zq, none⟩ = some (.float .f64 y))) (by kernel_rfl) hS3 (fun hHeld => ?_)
              refine held_take 0 rfl (by kernel_rfl) (by kernel_rfl) (by kernel_rfl) (fun _ _ _ _ h => h) (by rfl) ?_ ?_ (by assumption) ?_
              rotate_left
              · (intro wx hSx; (try dsimp only at hSx); go_simp)
                all_goals with_reducible rfl
              (try simp only [Act.put, List.setIfInBounds_toArray, List.set_cons_zero, List.set_cons_succ])
              refine held_take 1 rfl (by kernel_rfl) (by kernel_rfl) (by kernel_rfl) (fun _ _ _ _ h => h) (by rfl) ?_ ?_ (by assumption) ?_
              rotate_left
              · (intro wx hSx; (try dsimp only at hSx); go_simp)
                all_goals with_reducible rfl
              (try simp only [Act.put, List.setIfInBounds_toArray, List.set_cons_zero, List.set_cons_succ])
              (try rw [I5.out])
              refine held_take 2 rfl (by kernel_rfl) (by kernel_rfl) (by kernel_rfl) (fun _ _ _ _ h => h) (by rfl) ?_ ?_ (by assumption) ?_
              rotate_left
              · (intro wx hSx; (try dsimp only at hSx); go_simp)
                all_goals with_reducible rfl
              (try simp only [Act.put, List.setIfInBounds_toArray, List.set_cons_zero, List.set_cons_succ])
              refine held_take 3 rfl (by kernel_rfl) (by kernel_rfl) (by kernel_rfl) (fun _ _ _ _ h => h) (by rfl) ?_ ?_ (by assumption) ?_
              rotate_left
              · (intro wx hSx; (try dsimp only at hSx); go_simp)
                all_goals with_reducible rfl
              (try simp only [Act.put, List.setIfInBounds_toArray, List.set_cons_zero, List.set_cons_succ])
              refine held_take 4 rfl (by kernel_rfl) (by kernel_rfl) (by kernel_rfl) (fun _ _ _ _ h => h) (by rfl) ?_ ?_ (by assumption) ?_
              rotate_left
              · (intro wx hSx; (try dsimp only at hSx); go_simp)
                all_goals with_reducible rfl
              (try simp only [Act.put, List.setIfInBounds_toArray, List.set_cons_zero, List.set_cons_succ])
              refine held_take 5 rfl (by kernel_rfl) (by kernel_rfl) (by kernel_rfl) (fun _ _ _ _ h => h) (by rfl) ?_ ?_ (by assumption) ?_
              rotate_left
              · (intro wx hSx; (try dsimp only at hSx); go_simp)
                all_goals with_reducible rfl
              (try simp only [Act.put, List.setIfInBounds_toArray, List.set_cons_zero, List.set_cons_succ])
              refine held_take 6 rfl (by kernel_rfl) (by kernel_rfl) (by kernel_rfl) (fun _ _ _ _ h => h) (by rfl) ?_ ?_ (by assumption) ?_
              rotate_left
              · (intro wx hSx; (try dsimp only at hSx); go_simp)
                all_goals with_reducible rfl
              (try simp only [Act.put, List.setIfInBounds_toArray, List.set_cons_zero, List.set_cons_succ])
              refine held_take 7 rfl (by kernel_rfl) (by kernel_rfl) (by kernel_rfl) (fun _ _ _ _ h => h) (by rfl) ?_ ?_ (by assumption) ?_
              rotate_left
              · (intro wx hSx; (try dsimp only at hSx); go_simp)
                all_goals with_reducible rfl
              (try simp only [Act.put, List.setIfInBounds_toArray, List.set_cons_zero, List.set_cons_succ])
              refine held_take 8 rfl (by kernel_rfl) (by kernel_rfl) (by kernel_rfl) (fun _ _ _ _ h => h) (by rfl) ?_ ?_ (by assumption) ?_
              rotate_left
              · (intro wx hSx; (try dsimp only at hSx); go_simp)
                all_goals with_reducible rfl
              (try simp only [Act.put, List.setIfInBounds_toArray, List.set_cons_zero, List.set_cons_succ])
              refine held_take 9 rfl (by kernel_rfl) (by kernel_rfl) (by kernel_rfl) (fun _ _ _ _ h => h) (by rfl) ?_ ?_ (by assumption) ?_
              rotate_left
              · (intro wx hSx; (try dsimp only at hSx); go_simp)
                all_goals with_reducible rfl
              (try simp only [Act.put, List.setIfInBounds_toArray, List.set_cons_zero, List.set_cons_succ])
              refine held_take 10 rfl (by kernel_rfl) (by kernel_rfl) (by kernel_rfl) (fun _ _ _ _ h => h) (by rfl) ?_ ?_ (by assumption) ?_
              rotate_left
              · (intro wx hSx; (try dsimp only at hSx); go_simp)
                all_goals with_reducible rfl
              (try simp only [Act.put, List.setIfInBounds_toArray, List.set_cons_zero, List.set_cons_succ])
              refine held_take 11 rfl (by kernel_rfl) (by kernel_rfl) (by kernel_rfl) (fun _ _ _ _ h => h) (by rfl) ?_ ?_ (by assumption) ?_
              rotate_left
              · (intro wx hSx; (try dsimp only at hSx); go_simp)
                all_goals with_reducible rfl
              (try simp only [Act.put, List.setIfInBounds_toArray, List.set_cons_zero, List.set_cons_succ])
              refine held_take 12 rfl (by kernel_rfl) (by kernel_rfl) (by kernel_rfl) (fun _ _ _ _ h => h) (by rfl) ?_ ?_ (by assumption) ?_
              rotate_left
              · (intro wx hSx; (try dsimp only at hSx); go_simp)
                all_goals with_reducible rfl
              (try simp only [Act.put, List.setIfInBounds_toArray, List.set_cons_zero, List.set_cons_succ])
              refine held_take 13 rfl (by kernel_rfl) (by kernel_rfl) (by kernel_rfl) (fun _ _ _ _ h => h) (by rfl) ?_ ?_ (by assumption) ?_
              rotate_left
              · (intro wx hSx; (try dsimp only at hSx); go_simp)
                all_goals with_reducible rfl
              (try simp only [Act.put, List.setIfInBounds_toArray, List.set_cons_zero, List.set_cons_succ])
              refine held_take 14 rfl (by kernel_rfl) (by kernel_rfl) (by kernel_rfl) (fun _ _ _ _ h => h) (by rfl) ?_ ?_ (by assumption) ?_
              rotate_left
              · (intro wx hSx; (try dsimp only at hSx); go_simp)
                all_goals with_reducible rfl
              (try simp only [Act.put, List.setIfInBounds_toArray, List.set_cons_zero, List.set_cons_succ])
              refine held_call 15 rfl (by kernel_rfl) (fun K hK => ?_)
              go_simp
              go_at_call 34
              refine (Q1 _).mono ?_
              rintro e w5 ⟨rfl, rfl⟩
              go_wp2_with fail
              refine hK.out _ _ hHeld (fun hHeld => ?_)
              clear hK K
              (try simp only [Act.put, List.setIfInBounds_toArray, List.set_cons_zero, List.set_cons_succ])
              refine held_take 16 rfl (by kernel_rfl) (by kernel_rfl) (by kernel_rfl) (fun _ _ _ _ h => h) (by rfl) ?_ ?_ (by assumption) ?_
              rotate_left
              · (intro wx hSx; (try dsimp only at hSx); go_simp)
                all_goals with_reducible rfl
              (try simp only [Act.put, List.setIfInBounds_toArray, List.set_cons_zero, List.set_cons_succ])
              refine wpAnyH_done (by kernel_rfl) ?_ _
              go_wp2_with fail
              go_roundw
              case rel => exact ⟨q, rfl, HD.out, by omega, hE2.drew⟩
              case measure =>
                have := HQ.out
                simp [intOf]
                omega
            · have Q1 := q_RLess x y hx2 hy2 false (by rw [lessF_KF]; simpa using hll)
              have HD := hide (RefAt.done hZ.out.1 hZ.out.2 hk.out (Or.inr ⟨q, (zq : Int), hkq, hzq, by rw [HX.out.2, hky]; exact hll⟩))
              have HQ := hide hkq
              clear hq hkq hk0 hk hzq hz' hy hky hll hcz hcy hcx2
              go_wp2_with fail
              refine wp_region_held_drew (S := (fun w' => w'.cell? ⟨b0, o0 + i, none⟩ = some (.float .f64 x) ∧ w'.cell? ⟨b1, o1 + q, none⟩ = some (.int .i64 (zq : Nat)) ∧ w'.cell? ⟨b0, o0 + zq, none⟩ = some (.float .f64 y))) (by kernel_rfl) hS3 (fun hHeld => ?_)
              refine held_take 0 rfl (by kernel_rfl) (by kernel_rfl) (by kernel_rfl) (fun _ _ _ _ h => h) (by rfl) ?_ ?_ (by assumption) ?_
              rotate_left
              · (intro wx hSx; (try dsimp only at hSx); go_simp)
                all_goals with_reducible rfl
              (try simp only [Act.put, List.setIfInBounds_toArray, List.set_cons_zero, List.set_cons_succ])
              refine held_take 1 rfl (by kernel_rfl) (by kernel_rfl) (by kernel_rfl) (fun _ _ _ _ h => h) (by rfl) ?_ ?_ (by assumption) ?_
              rotate_left
              · (intro wx hSx; (try dsimp only at hSx); go_simp)
                all_goals with_reducible rfl
              (try simp only [Act.put, List.setIfInBounds_toArray, List.set_cons_zero, List.set_cons_succ])
              (try rw [I5.out])
              refine held_take 2 rfl (by kernel_rfl) (by kernel_rfl) (by kernel_rfl) (fun _ _ _ _ h => h) (by rfl) ?_ ?_ (by assumption) ?_
              rotate_left
              · (intro wx hSx; (try dsimp only at hSx); go_simp)
                all_goals with_reducible rfl
              (try simp only [Act.put, List.setIfInBounds_toArray, List.set_cons_zero, List.set_cons_succ])
              refine held_take 3 rfl (by kernel_rfl) (by kernel_rfl) (by kernel_rfl) (fun _ _ _ _ h => h) (by rfl) ?_ ?_ (by assumption) ?_
              rotate_left
              · (intro wx hSx; (try dsimp only at hSx); go_simp)
                all_goals with_reducible rfl
              (try simp only [Act.put, List.setIfInBounds_toArray, List.set_cons_zero, List.set_cons_succ])
              refine held_take 4 rfl (by kernel_rfl) (by kernel_rfl) (by kernel_rfl) (fun _ _ _ _ h => h) (by rfl) ?_ ?_ (by assumption) ?_
              rotate_left
              · (intro wx hSx; (try dsimp only at hSx); go_simp)
                all_goals with_reducible rfl
              (try simp only [Act.put, List.setIfInBounds_toArray, List.set_cons_zero, List.set_cons_succ])
              refine held_take 5 rfl (by kernel_rfl) (by kernel_rfl) (by kernel_rfl) (fun _ _ _ _ h => h) (by rfl) ?_ ?_ (by assumption) ?_
              rotate_left
              · (intro wx hSx; (try dsimp only at hSx); go_simp)
                all_goals with_reducible rfl
              (try simp only [Act.put, List.setIfInBounds_toArray, List.set_cons_zero, List.set_cons_succ])
              refine held_take 6 rfl (by kernel_rfl) (by kernel_rfl) (by kernel_rfl) (fun _ _ _ _ h => h) (by rfl) ?_ ?_ (by assumption) ?_
              rotate_left
              · (intro wx hSx; (try dsimp only at hSx); go_simp)
                all_goals with_reducible rfl
              (try simp only [Act.put, List.setIfInBounds_toArray, List.set_cons_zero, List.set_cons_succ])
              refine held_take 7 rfl (by kernel_rfl) (by kernel_rfl) (by kernel_rfl) (fun _ _ _ _ h => h) (by rfl) ?_ ?_ (by assumption) ?_
              rotate_left
              · (intro wx hSx; (try dsimp only at hSx); go_simp)
                all_goals with_reducible rfl
              (try simp only [Act.put, List.setIfInBounds_toArray, List.set_cons_zero, List.set_cons_succ])
              refine held_take 8 rfl (by kernel_rfl) (by kernel_rfl) (by kernel_rfl) (fun _ _ _ _ h => h) (by rfl) ?_ ?_ (by assumption) ?_
              rotate_left
              · (intro wx hSx; (try dsimp only at hSx); go_simp)
                all_goals with_reducible rfl
              (try simp only [Act.put, List.setIfInBounds_toArray, List.set_cons_zero, List.set_cons_succ])
              refine held_take 9 rfl (by kernel_rfl) (by kernel_rfl) (by kernel_rfl) (fun _ _ _ _ h => h) (by rfl) ?_ ?_ (by assumption) ?_
              rotate_left
              · (intro wx hSx; (try dsimp only at hSx); go_simp)
                all_goals with_reducible rfl
              (try simp only [Act.put, List.setIfInBounds_toArray, List.set_cons_zero, List.set_cons_succ])
              refine held_take 10 rfl (by kernel_rfl) (by kernel_rfl) (by kernel_rfl) (fun _ _ _ _ h => h) (by rfl) ?_ ?_ (by assumption) ?_
              rotate_left
              · (intro wx hSx; (try dsimp only at hSx); go_simp)
                all_goals with_reducible rfl
              (try simp only [Act.put, List.setIfInBounds_toArray, List.set_cons_zero, List.set_cons_succ])
              refine held_take 11 rfl (by kernel_rfl) (by kernel_rfl) (by kernel_rfl) (fun _ _ _ _ h => h) (by rfl) ?_ ?_ (by assumption) ?_
              rotate_left
              · (intro wx hSx; (try dsimp only at hSx); go_simp)
                all_goals with_reducible rfl
              (try simp only [Act.put, List.setIfInBounds_toArray, List.set_cons_zero, List.set_cons_succ])
              refine held_take 12 rfl (by kernel_rfl) (by kernel_rfl) (by kernel_rfl) (fun _ _ _ _ h => h) (by rfl) ?_ ?_ (by assumption) ?_
              rotate_left
              · (intro wx hSx; (try dsimp only at hSx); go_simp)
                all_goals with_reducible rfl
              (try simp only [Act.put, List.setIfInBounds_toArray, List.set_cons_zero, List.set_cons_succ])
              refine held_take 13 rfl (by kernel_rfl) (by kernel_rfl) (by kernel_rfl) (fun _ _ _ _ h => h) (by rfl) ?_ ?_ (by assumption) ?_
              rotate_left
              · (intro wx hSx; (try dsimp only at hSx); go_simp)
                all_goals with_reducible rfl
              (try simp only [Act.put, List.setIfInBounds_toArray, List.set_cons_zero, List.set_cons_succ])
              refine held_take 14 rfl (by kernel_rfl) (by kernel_rfl) (by kernel_rfl) (fun _ _ _ _ h => h) (by rfl) ?_ ?_ (by assumption) ?_
              rotate_left
              · (intro wx hSx; (try dsimp only at hSx); go_simp)
                all_goals with_reducible rfl
              (try simp only [Act.put, List.setIfInBounds_toArray, List.set_cons_zero, List.set_cons_succ])
              refine held_call 15 rfl (by kernel_rfl) (fun K hK => ?_)
              go_simp
              go_at_call 34
              refine (Q1 _).mono ?_
              rintro e w5 ⟨rfl, rfl⟩
              go_wp2_with fail
              refine hK.out _ _ hHeld (fun hHeld => ?_)
              clear hK K
              (try simp only [Act.put, List.setIfInBounds_toArray, List.set_cons_zero, List.set_cons_succ])
              refine held_take 16 rfl (by kernel_rfl) (by kernel_rfl) (by kernel_rfl) (fun _ _ _ _ h => h) (by rfl) ?_ ?_ (by assumption) ?_
              rotate_left
              · (intro wx hSx; (try dsimp only at hSx); go_simp)
                all_goals with_reducible rfl
              (try simp only [Act.put, List.setIfInBounds_toArray, List.set_cons_zero, List.set_cons_succ])
              refine wpAnyH_done (by kernel_rfl) ?_ _
              go_wp2_with fail
              go_meet
              case rel => exact ⟨k, rfl, hki, hE2.drew, HD.out⟩
      case rest =>
      obtain ⟨k, rfl, hki, hE2, hD⟩ := hcut
      have hO3 := hO.ext hE2
      have hOn := hO.sl.nc
      have hOm := hO.sl.cm
      have i6 : (k : Int) ≤ (i : Int) := by omega
      have i7 : k ≤ c1 := by omega
      have i8 : (k : Int) ≤ (c1 : Int) := by omega
      have i9 : (i : Int) ≤ (c1 : Int) := by omega
      by_cases hck : c1 = k
      · obtain rfl : k = i := by omega
        subst hck
        have hcut : ∀ w', Ext wc w' → Sl w' A1 0 0 ((i64s Z).drop c1) := by
          intro w' h
          have := (hO3.ext h).sl.cut hki
          rw [if_pos rfl, Nat.sub_self] at this
          exact this
        go_wp2_with fail
        refine wp_region_held_drew (S := (fun w' => Ext wo w')) (by kernel_rfl) (hE2.drew) (fun hHeld => ?_)
        refine held_take 0 rfl (by kernel_rfl) (by kernel_rfl) (by kernel_rfl) (fun _ _ _ _ h => h) (by rfl) ?_ ?_ (by assumption) ?_
        rotate_left
        · (intro wx hSx; (try dsimp only at hSx); go_simp)
          all_goals with_reducible rfl
        (try simp only [Act.put, List.setIfInBounds_toArray, List.set_cons_zero, List.set_cons_succ])
        refine held_take 1 rfl (by kernel_rfl) (by kernel_rfl) (by kernel_rfl) (fun _ _ _ _ h => h) (by rfl) ?_ ?_ (by assumption) ?_
        rotate_left
        · (intro wx hSx; (try dsimp only at hSx); go_simp)
          all_goals with_reducible rfl
        (try simp only [Act.put, List.setIfInBounds_toArray, List.set_cons_zero, List.set_cons_succ])
        refine held_take 4 rfl (by kernel_rfl) (by kernel_rfl) (by kernel_rfl) (fun _ _ _ _ h => h) (by rfl) ?_ ?_ (by assumption) ?_
        rotate_left
        · (intro wx hSx; (try dsimp only at hSx); go_simp)
          all_goals with_reducible rfl
        (try simp only [Act.put, List.setIfInBounds_toArray, List.set_cons_zero, List.set_cons_succ])
        refine held_take 7 rfl (by kernel_rfl) (by kernel_rfl) (by kernel_rfl) (fun _ _ _ _ h => h) (by rfl) ?_ ?_ (by assumption) ?_
        rotate_left
        · (intro wx hSx; (try dsimp only at hSx); go_simp)
          all_goals with_reducible rfl
        (try simp only [Act.put, List.setIfInBounds_toArray, List.set_cons_zero, List.set_cons_succ])
        refine held_take 8 rfl (by kernel_rfl) (by kernel_rfl) (by kernel_rfl) (fun _ _ _ _ h => h) (by rfl) ?_ ?_ (by assumption) ?_
        rotate_left
        · (intro wx hSx; (try dsimp only at hSx); go_simp)
          all_goals with_reducible rfl
        (try simp only [Act.put, List.setIfInBounds_toArray, List.set_cons_zero, List.set_cons_succ])
        refine held_take 2 rfl (by kernel_rfl) (by kernel_rfl) (by kernel_rfl) (fun _ _ _ _ h => h) (by rfl) ?_ ?_ (by assumption) ?_
        rotate_left
        · (intro wx hSx; (try dsimp only at hSx); go_simp)
          all_goals with_reducible rfl
        (try simp only [Act.put, List.setIfInBounds_toArray, List.set_cons_zero, List.set_cons_succ])
        refine held_take 9 rfl (by kernel_rfl) (by kernel_rfl) (by kernel_rfl) (fun _ _ _ _ h => h) (by rfl) ?_ ?_ (by assumption) ?_
        rotate_left
        · (intro wx hSx; (try dsimp only at hSx); go_simp)
          all_goals with_reducible rfl
        (try simp only [Act.put, List.setIfInBounds_toArray, List.set_cons_zero, List.set_cons_succ])
        refine held_two 3 5 rfl rfl (by kernel_rfl) (fun K hK => ?_) (fun K hK => ?_)
        · refine stepI rfl (.const (.slice none 0 0)) (.tmp 35) rfl wc.heap.size none 0 0 [] rfl (Own.nilS _ _ _) A1 c1 c1 _ rfl ((hO3.ext (Ext.refl wc).drew).sl.pre hki) (by omega) (by simp) ?_
          intro A2 c2 w2 hO2 hG2
          have hE3 : Ext wc w2 := ((Ext.refl wc).drew).grown hG2 (fun q hq => by simp [Value.ownBlock] at hq)
          rw [Nat.zero_add, List.nil_append] at hO2
          refine hK.out _ _ (hE2.trans hE3) (fun hHeld => ?_)
          clear hK K
          (try simp only [Act.put, List.setIfInBounds_toArray, List.set_cons_zero, List.set_cons_succ])
          refine held_call 5 rfl (by kernel_rfl) (fun K hK => ?_)
          go_simp
          refine hK.out _ _ ((hE2.trans hE3).alloc _) (fun hHeld => ?_)
          clear hK K
          (try simp only [Act.put, List.setIfInBounds_toArray, List.set_cons_zero, List.set_cons_succ])
          refine held_call 6 rfl (by kernel_rfl) (fun K hK => ?_)
          refine stepI rfl (.tmp 36) (.tmp 38) rfl wc.heap.size A2 c1 c2 _ rfl (hO2.ext ((Ext.refl w2).alloc _)) _ 1 1 _ rfl (Sl.lit w2 _ 3 1 rfl (by omega) (by simp [Value.oneCell'])) (by omega) (by have := hE3.size; simp; omega) ?_
          intro A3 c3 w3 hO6 hG6
          have hE6 : Ext wc w3 := (hE3.alloc _).grown hG6 (fun q hq => (hO2.block q hq).1)
          refine hK.out _ _ (hE2.trans hE6) (fun hHeld => ?_)
          clear hK K
          (try simp only [Act.put, List.setIfInBounds_toArray, List.set_cons_zero, List.set_cons_succ])
          refine held_call 10 rfl (by kernel_rfl) (fun K hK => ?_)
          refine stepI rfl (.tmp 39) (.tmp 42) rfl wc.heap.size A3 (c1 + 1) c3 _ rfl hO6 _ 0 0 _ rfl (hcut w3 hE6) (by omega) (by have := hE6.size; omega) ?_
          intro A4 c4 w4 hO7 hG7
          have hE7 : Ext wc w4 := hE6.grown hG7 (fun q hq => (hO6.block q hq).1)
          refine hK.out _ _ (hE2.trans hE7) (fun hHeld => ?_)
          clear hK K
          (try simp only [Act.put, List.setIfInBounds_toArray, List.set_cons_zero, List.set_cons_succ])
          refine held_take 11 rfl (by kernel_rfl) (by kernel_rfl) (by kernel_rfl) (fun _ _ _ _ h => h) (by rfl) ?_ ?_ (by assumption) ?_
          rotate_left
          · (intro wx hSx; (try dsimp only at hSx); go_simp)
            all_goals with_reducible rfl
          (try simp only [Act.put, List.setIfInBounds_toArray, List.set_cons_zero, List.set_cons_succ])
          refine wpAnyH_done (by kernel_rfl) ?_ _
          have hO8 : Own w4 w.heap.size 3 A4 (c1 + 1) c4 (i64s (Z.take c1 ++ ((c1 : Int) :: Z.drop c1))) := by
            have h9 := hO7.low (B' := w.heap.size) (hE.trans hE2).size
            rw [show c1 + 1 + 0 = c1 + 1 by omega] at h9
            have e9 : i64s (Z.take c1 ++ ((c1 : Int) :: Z.drop c1)) = (i64s Z).take c1 ++ [Value.int .i64 (c1 : Int)] ++ (i64s Z).drop c1 := by simp [i64s]
            rw [e9]
            exact h9
          rw [show c1 + 1 + 0 = c1 + 1 by omega]
          clear hO7 hO6 hO2 hG7 hG6 hG2
          go_wp2_with fail
          go_roundw
          case rel => exact ⟨c1 + 1, c4, A4, _, by omega, by go_num, rfl, hO8, hE.trans (hE2.trans hE7), hD⟩
          case measure => simp [intOf]; omega
        · go_simp
          refine hK.out _ _ ((hE2.drew).alloc _) (fun hHeld => ?_)
          clear hK K
          (try simp only [Act.put, List.setIfInBounds_toArray, List.set_cons_zero, List.set_cons_succ])
          refine held_call 3 rfl (by kernel_rfl) (fun K hK => ?_)
          refine stepI rfl (.const (.slice none 0 0)) (.tmp 35) rfl wc.heap.size none 0 0 [] rfl (Own.nilS _ _ _) A1 c1 c1 _ rfl ((hO3.ext ((Ext.refl wc).drew.alloc _)).sl.pre hki) (by omega) (by simp) ?_
          intro A2 c2 w2 hO2 hG2
          have hE3 : Ext wc w2 := ((Ext.refl wc).drew.alloc _).grown hG2 (fun q hq => by simp [Value.ownBlock] at hq)
          have hL3 := (Sl.lit wc.drew #[.int .i64 (c1 : Int)] 3 1 rfl (by omega) (by simp [Value.oneCell'])).ext ((Ext.refl (wc.drew.alloc (.cells #[.int .i64 (c1 : Int)] 3))).grown hG2 (fun q hq => by simp [Value.ownBlock] at hq))
          rw [Nat.zero_add, List.nil_append] at hO2
          rw [Nat.zero_add]
          refine hK.out _ _ (hE2.trans hE3) (fun hHeld => ?_)
          clear hK K
          (try simp only [Act.put, List.setIfInBounds_toArray, List.set_cons_zero, List.set_cons_succ])
          refine held_call 6 rfl (by kernel_rfl) (fun K hK => ?_)
          refine stepI rfl (.tmp 36) (.tmp 38) rfl wc.heap.size A2 c1 c2 _ rfl hO2 _ 1 1 _ rfl hL3 (by omega) (by have := hE3.size; omega) ?_
          intro A3 c3 w3 hO6 hG6
          have hE6 : Ext wc w3 := hE3.grown hG6 (fun q hq => (hO2.block q hq).1)
          refine hK.out _ _ (hE2.trans hE6) (fun hHeld => ?_)
          clear hK K
          (try simp only [Act.put, List.setIfInBounds_toArray, List.set_cons_zero, List.set_cons_succ])
          refine held_call 10 rfl (by kernel_rfl) (fun K hK => ?_)
          refine stepI rfl (.tmp 39) (.tmp 42) rfl wc.heap.size A3 (c1 + 1) c3 _ rfl hO6 _ 0 0 _ rfl (hcut w3 hE6) (by omega) (by have := hE6.size; omega) ?_
          intro A4 c4 w4 hO7 hG7
          have hE7 : Ext wc w4 := hE6.grown hG7 (fun q hq => (hO6.block q hq).1)
          refine hK.out _ _ (hE2.trans hE7) (fun hHeld => ?_)
          clear hK K
          (try simp only [Act.put, List.setIfInBounds_toArray, List.set_cons_zero, List.set_cons_succ])
          refine held_take 11 rfl (by kernel_rfl) (by kernel_rfl) (by kernel_rfl) (fun _ _ _ _ h => h) (by rfl) ?_ ?_ (by assumption) ?_
          rotate_left
          · (intro wx hSx; (try dsimp only at hSx); go_simp)
            all_goals with_reducible rfl
          (try simp only [Act.put, List.setIfInBounds_toArray, List.set_cons_zero, List.set_cons_succ])
          refine wpAnyH_done (by kernel_rfl) ?_ _
          have hO8 : Own w4 w.heap.size 3 A4 (c1 + 1) c4 (i64s (Z.take c1 ++ ((c1 : Int) :: Z.drop c1))) := by
            have h9 := hO7.low (B' := w.heap.size) (hE.trans hE2).size
            rw [show c1 + 1 + 0 = c1 + 1 by omega] at h9
            have e9 : i64s (Z.take c1 ++ ((c1 : Int) :: Z.drop c1)) = (i64s Z).take c1 ++ [Value.int .i64 (c1 : Int)] ++ (i64s Z).drop c1 := by simp [i64s]
            rw [e9]
            exact h9
          rw [show c1 + 1 + 0 = c1 + 1 by omega]
          clear hO7 hO6 hO2 hG7 hG6 hG2
          go_wp2_with fail
          go_roundw
          case rel => exact ⟨c1 + 1, c4, A4, _, by omega, by go_num, rfl, hO8, hE.trans (hE2.trans hE7), hD⟩
          case measure => simp [intOf]; omega
      · have hcut : ∀ w', Ext wc w' → Sl w' (Option.map (fun x => x.add k) A1) (i - k) (c1 - k) ((i64s Z).drop k) := by
          intro w' h
          have := (hO3.ext h).sl.cut hki
          rwa [if_neg hck] at this
        go_wp2_with fail
        refine wp_region_held_drew (S := (fun w' => Ext wo w')) (by kernel_rfl) (hE2.drew) (fun hHeld => ?_)
        refine held_take 0 rfl (by kernel_rfl) (by kernel_rfl) (by kernel_rfl) (fun _ _ _ _ h => h) (by rfl) ?_ ?_ (by assumption) ?_
        rotate_left
        · (intro wx hSx; (try dsimp only at hSx); go_simp)
          all_goals with_reducible rfl
        (try simp only [Act.put, List.setIfInBounds_toArray, List.set_cons_zero, List.set_cons_succ])
        refine held_take 1 rfl (by kernel_rfl) (by kernel_rfl) (by kernel_rfl) (fun _ _ _ _ h => h) (by rfl) ?_ ?_ (by assumption) ?_
        rotate_left
        · (intro wx hSx; (try dsimp only at hSx); go_simp)
          all_goals with_reducible rfl
        (try simp only [Act.put, List.setIfInBounds_toArray, List.set_cons_zero, List.set_cons_succ])
        refine held_take 4 rfl (by kernel_rfl) (by kernel_rfl) (by kernel_rfl) (fun _ _ _ _ h => h) (by rfl) ?_ ?_ (by assumption) ?_
        rotate_left
        · (intro wx hSx; (try dsimp only at hSx); go_simp)
          all_goals with_reducible rfl
        (try simp only [Act.put, List.setIfInBounds_toArray, List.set_cons_zero, List.set_cons_succ])
        refine held_take 7 rfl (by kernel_rfl) (by kernel_rfl) (by kernel_rfl) (fun _ _ _ _ h => h) (by rfl) ?_ ?_ (by assumption) ?_
        rotate_left
        · (intro wx hSx; (try dsimp only at hSx); go_simp)
          all_goals with_reducible rfl
        (try simp only [Act.put, List.setIfInBounds_toArray, List.set_cons_zero, List.set_cons_succ])
        refine held_take 8 rfl (by kernel_rfl) (by kernel_rfl) (by kernel_rfl) (fun _ _ _ _ h => h) (by rfl) ?_ ?_ (by assumption) ?_
        rotate_left
        · (intro wx hSx; (try dsimp only at hSx); go_simp)
          all_goals with_reducible rfl
        (try simp only [Act.put, List.setIfInBounds_toArray, List.set_cons_zero, List.set_cons_succ])
        refine held_take 2 rfl (by kernel_rfl) (by kernel_rfl) (by kernel_rfl) (fun _ _ _ _ h => h) (by rfl) ?_ ?_ (by assumption) ?_
        rotate_left
        · (intro wx hSx; (try dsimp only at hSx); go_simp)
          all_goals with_reducible rfl
        (try simp only [Act.put, List.setIfInBounds_toArray, List.set_cons_zero, List.set_cons_succ])
        refine held_take 9 rfl (by kernel_rfl) (by kernel_rfl) (by kernel_rfl) (fun _ _ _ _ h => h) (by rfl) ?_ ?_ (by assumption) ?_
        rotate_left
        · (intro wx hSx; (try dsimp only at hSx); go_simp)
          all_goals with_reducible rfl
        (try simp only [Act.put, List.setIfInBounds_toArray, List.set_cons_zero, List.set_cons_succ])
        refine held_two 3 5 rfl rfl (by kernel_rfl) (fun K hK => ?_) (fun K hK => ?_)
        · refine stepI rfl (.const (.slice none 0 0)) (.tmp 35) rfl wc.heap.size none 0 0 [] rfl (Own.nilS _ _ _) A1 k c1 _ rfl ((hO3.ext (Ext.refl wc).drew).sl.pre hki) (by omega) (by simp) ?_
          intro A2 c2 w2 hO2 hG2
          have hE3 : Ext wc w2 := ((Ext.refl wc).drew).grown hG2 (fun q hq => by simp [Value.ownBlock] at hq)
          rw [Nat.zero_add, List.nil_append] at hO2
          refine hK.out _ _ (hE2.trans hE3) (fun hHeld => ?_)
          clear hK K
          (try simp only [Act.put, List.setIfInBounds_toArray, List.set_cons_zero, List.set_cons_succ])
          refine held_call 5 rfl (by kernel_rfl) (fun K hK => ?_)
          go_simp
          refine hK.out _ _ ((hE2.trans hE3).alloc _) (fun hHeld => ?_)
          clear hK K
          (try simp only [Act.put, List.setIfInBounds_toArray, List.set_cons_zero, List.set_cons_succ])
          refine held_call 6 rfl (by kernel_rfl) (fun K hK => ?_)
          refine stepI rfl (.tmp 36) (.tmp 38) rfl wc.heap.size A2 k c2 _ rfl (hO2.ext ((Ext.refl w2).alloc _)) _ 1 1 _ rfl (Sl.lit w2 _ 3 1 rfl (by omega) (by simp [Value.oneCell'])) (by omega) (by have := hE3.size; simp; omega) ?_
          intro A3 c3 w3 hO6 hG6
          have hE6 : Ext wc w3 := (hE3.alloc _).grown hG6 (fun q hq => (hO2.block q hq).1)
          refine hK.out _ _ (hE2.trans hE6) (fun hHeld => ?_)
          clear hK K
          (try simp only [Act.put, List.setIfInBounds_toArray, List.set_cons_zero, List.set_cons_succ])
          refine held_call 10 rfl (by kernel_rfl) (fun K hK => ?_)
          refine stepI rfl (.tmp 39) (.tmp 42) rfl wc.heap.size A3 (k + 1) c3 _ rfl hO6 _ (i - k) (c1 - k) _ rfl (hcut w3 hE6) (by omega) (by have := hE6.size; omega) ?_
          intro A4 c4 w4 hO7 hG7
          have hE7 : Ext wc w4 := hE6.grown hG7 (fun q hq => (hO6.block q hq).1)
          refine hK.out _ _ (hE2.trans hE7) (fun hHeld => ?_)
          clear hK K
          (try simp only [Act.put, List.setIfInBounds_toArray, List.set_cons_zero, List.set_cons_succ])
          refine held_take 11 rfl (by kernel_rfl) (by kernel_rfl) (by kernel_rfl) (fun _ _ _ _ h => h) (by rfl) ?_ ?_ (by assumption) ?_
          rotate_left
          · (intro wx hSx; (try dsimp only at hSx); go_simp)
            all_goals with_reducible rfl
          (try simp only [Act.put, List.setIfInBounds_toArray, List.set_cons_zero, List.set_cons_succ])
          refine wpAnyH_done (by kernel_rfl) ?_ _
          have hO8 : Own w4 w.heap.size 3 A4 (i + 1) c4 (i64s (Z.take k ++ ((i : Int) :: Z.drop k))) := by
            have h9 := hO7.low (B' := w.heap.size) (hE.trans hE2).size
            rw [show k + 1 + (i - k) = i + 1 by omega] at h9
            have e9 : i64s (Z.take k ++ ((i : Int) :: Z.drop k)) = (i64s Z).take k ++ [Value.int .i64 (i : Int)] ++ (i64s Z).drop k := by simp [i64s]
            rw [e9]
            exact h9
          rw [show k + 1 + (i - k) = i + 1 by omega]
          clear hO7 hO6 hO2 hG7 hG6 hG2
          go_wp2_with fail
          go_roundw
          case rel => exact ⟨i + 1, c4, A4, _, by omega, by go_num, rfl, hO8, hE.trans (hE2.trans hE7), hD⟩
          case measure => simp [intOf]; omega
        · go_simp
          refine hK.out _ _ ((hE2.drew).alloc _) (fun hHeld => ?_)
          clear hK K
          (try simp only [Act.put, List.setIfInBounds_toArray, List.set_cons_zero, List.set_cons_succ])
          refine held_call 3 rfl (by kernel_rfl) (fun K hK => ?_)
          refine stepI rfl (.const (.slice none 0 0)) (.tmp 35) rfl wc.heap.size none 0 0 [] rfl (Own.nilS _ _ _) A1 k c1 _ rfl ((hO3.ext ((Ext.refl wc).drew.alloc _)).sl.pre hki) (by omega) (by simp) ?_
          intro A2 c2 w2 hO2 hG2
          have hE3 : Ext wc w2 := ((Ext.refl wc).drew.alloc _).grown hG2 (fun q hq => by simp [Value.ownBlock] at hq)
          have hL3 := (Sl.lit wc.drew #[.int .i64 (i : Int)] 3 1 rfl (by omega) (by simp [Value.oneCell'])).ext ((Ext.refl (wc.drew.alloc (.cells #[.int .i64 (i : Int)] 3))).grown hG2 (fun q hq => by simp [Value.ownBlock] at hq))
          rw [Nat.zero_add, List.nil_append] at hO2
          rw [Nat.zero_add]
          refine hK.out _ _ (hE2.trans hE3) (fun hHeld => ?_)
          clear hK K
          (try simp only [Act.put, List.setIfInBounds_toArray, List.set_cons_zero, List.set_cons_succ])
          refine held_call 6 rfl (by kernel_rfl) (fun K hK => ?_)
          refine stepI rfl (.tmp 36) (.tmp 38) rfl wc.heap.size A2 k c2 _ rfl hO2 _ 1 1 _ rfl hL3 (by omega) (by have := hE3.size; omega) ?_
          intro A3 c3 w3 hO6 hG6
          have hE6 : Ext wc w3 := hE3.grown hG6 (fun q hq => (hO2.block q hq).1)
          refine hK.out _ _ (hE2.trans hE6) (fun hHeld => ?_)
          clear hK K
          (try simp only [Act.put, List.setIfInBounds_toArray, List.set_cons_zero, List.set_cons_succ])
          refine held_call 10 rfl (by kernel_rfl) (fun K hK => ?_)
          refine stepI rfl (.tmp 39) (.tmp 42) rfl wc.heap.size A3 (k + 1) c3 _ rfl hO6 _ (i - k) (c1 - k) _ rfl (hcut w3 hE6) (by omega) (by have := hE6.size; omega) ?_
          intro A4 c4 w4 hO7 hG7
          have hE7 : Ext wc w4 := hE6.grown hG7 (fun q hq => (hO6.block q hq).1)
          refine hK.out _ _ (hE2.trans hE7) (fun hHeld => ?_)
          clear hK K
          (try simp only [Act.put, List.setIfInBounds_toArray, List.set_cons_zero, List.set_cons_succ])
          refine held_take 11 rfl (by kernel_rfl) (by kernel_rfl) (by kernel_rfl) (fun _ _ _ _ h => h) (by rfl) ?_ ?_ (by assumption) ?_
          rotate_left
          · (intro wx hSx; (try dsimp only at hSx); go_simp)
            all_goals with_reducible rfl
          (try simp only [Act.put, List.setIfInBounds_toArray, List.set_cons_zero, List.set_cons_succ])
          refine wpAnyH_done (by kernel_rfl) ?_ _
          have hO8 : Own w4 w.heap.size 3 A4 (i + 1) c4 (i64s (Z.take k ++ ((i : Int) :: Z.drop k))) := by
            have h9 := hO7.low (B' := w.heap.size) (hE.trans hE2).size
            rw [show k + 1 + (i - k) = i + 1 by omega] at h9
            have e9 : i64s (Z.take k ++ ((i : Int) :: Z.drop k)) = (i64s Z).take k ++ [Value.int .i64 (i : Int)] ++ (i64s Z).drop k := by simp [i64s]
            rw [e9]
            exact h9
          rw [show k + 1 + (i - k) = i + 1 by omega]
          clear hO7 hO6 hO2 hG7 hG6 hG2
          go_wp2_with fail
          go_roundw
          case rel => exact ⟨i + 1, c4, A4, _, by omega, by go_num, rfl, hO8, hE.trans (hE2.trans hE7), hD⟩
          case measure => simp [intOf]; omega
    · obtain rfl : i = n := by omega
      have hO2 := hide hO
      clear hO
      go_wp2_with fail
      go_ret
      exact ⟨A1, c1, Z, rfl, hO2.out, hE, hZ.out.1, hZ.out.2⟩
end Go.Proofs.YtillhbbeghbfeaaDoor
