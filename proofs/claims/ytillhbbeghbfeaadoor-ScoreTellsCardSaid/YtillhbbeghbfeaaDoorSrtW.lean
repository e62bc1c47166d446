/- Rows under swaps: the walk of slices' swapRange and rotate. -/
import Derived.Test.YtillhbbeghbfeaaDoorFlo
import Derived.Test.YtillhbbeghbfeaaDoorPiv
import Derived.Test.YtillhbbeghbfeaaDoorSrt
import Derived.Deep.DeepCutAuto
namespace Go.Proofs.YtillhbbeghbfeaaDoor
set_option linter.unusedVariables false
set_option linter.unusedSimpArgs false
open Go.RowKit

theorem wrap_nat2 {a b : Nat} (h : a + b ≤ 4611686018427387904) : IntKind.i64.wrap ((a : Int) + (b : Int)) = ((a + b : Nat) : Int) := by
  rw [IntWalk.i64_in _ (by omega)]
  omega
def i64s (xs : List Int) : List Value := xs.map (Value.int .i64)
theorem i64s_one (xs : List Int) : ∀ u ∈ i64s xs, u.oneCell' = true := by
  intro u hu
  obtain ⟨_, _, rfl⟩ := List.mem_map.1 hu
  rfl
/-- A row of integers that the call made, and all else as it was. -/
def Row (w0 w : World) (g n c : Nat) (zs : List Int) : Prop := Own w w0.heap.size 3 (some ⟨g, 0, none⟩) n c (i64s zs) ∧ Ext w0 w
theorem i64s_get (zs : List Int) (i : Nat) : (i64s zs)[i]? = (zs[i]?).map (Value.int .i64) := by simp [i64s]
theorem i64s_set (zs : List Int) (i : Nat) (v : Int) : (i64s zs).set i (.int .i64 v) = i64s (zs.set i v) := by simp [i64s, List.map_set]
theorem Own.lo {w : World} {B e g n c : Nat} {vs : List Value} (h : Own w B e (some ⟨g, 0, none⟩) n c vs) : B ≤ g := by
  rcases h.1.2 with ⟨hv, _⟩ | ⟨g', cap, cur, hv, hB, _⟩
  · simp at hv
  · simp at hv
    omega
section
variable {w0 w w' : World} {g n c : Nat} {zs : List Int}
theorem Row.len (h : Row w0 w g n c zs) : zs.length = n := by have := h.1.len; simpa [i64s] using this
theorem Row.ext (h : Row w0 w g n c zs) (hE : Ext w w') : Row w0 w' g n c zs := ⟨h.1.ext hE, h.2.trans hE⟩
theorem Row.cell (h : Row w0 w g n c zs) {i : Nat} (hi : i < n) : w.cell? ⟨g, i, none⟩ = some (.int .i64 (zs.getD i 0)) := by
  have hl := h.len
  rw [h.1.cellAt i hi, i64s_get, List.getD_eq_getElem?_getD, List.getElem?_eq_getElem (by omega)]
  rfl
theorem Row.set (h : Row w0 w g n c zs) (i : Nat) (v : Int) : Row w0 (w.setCell ⟨g, i, none⟩ (.int .i64 v)) g n c (zs.set i v) :=
  ⟨by rw [← i64s_set]; exact h.1.store i _ rfl, h.2.setCell (p := ⟨g, i, none⟩) (Own.lo h.1) _⟩
end
set_option maxRecDepth 100000 in
set_option maxHeartbeats 4000000 in
theorem swapRange_row {w0 w : World} {g n c : Nat} {zs : List Int} (h : Row w0 w g n c zs) (a b k : Nat) (h1 : a + k ≤ b) (h2 : b + k ≤ n) (hn : n ≤ 1000000) (cv : Value) :
    Calls Tryd.prog 66 #[.slice (some ⟨g, 0, none⟩) n c, .int .i64 a, .int .i64 b, .int .i64 k, cv] w fun e w' => e = .returned (.tuple #[]) ∧ Row w0 w' g n c (sw zs a b k) := by
  have hc := h.1.sl.nc
  have hcm := h.1.sl.cm
  go_enter Tryd.func66, Tryd.ntmps66
  go_wp2
  go_loopw [10] (fun i wr => ∃ j : Nat, j ≤ k ∧ i = .int .i64 j ∧ Row w0 wr g n c (sw zs a b j)) (fun i _ => k - (intOf i).toNat)
  case atStart => exact ⟨0, by omega, rfl, h⟩
  case round =>
    obtain ⟨j, hj, rfl, hR⟩ := hrel
    by_cases hlt : j < k
    · obtain ⟨aj, eaj⟩ : ∃ aj, aj = a + j := ⟨_, rfl⟩
      obtain ⟨bj, ebj⟩ : ∃ bj, bj = b + j := ⟨_, rfl⟩
      have W1 : IntKind.i64.wrap ((a : Int) + (j : Int)) = (aj : Int) := by rw [wrap_nat2 (by omega), eaj]
      have W2 : IntKind.i64.wrap ((b : Int) + (j : Int)) = (bj : Int) := by rw [wrap_nat2 (by omega), ebj]
      have i2 : (j : Int) < (k : Int) := by omega
      have i3 : aj < n := by omega
      have i4 : bj < n := by omega
      have i5 : (aj : Int) < (n : Int) := by omega
      have i6 : (bj : Int) < (n : Int) := by omega
      have hne : aj ≠ bj := by omega
      have EA := hide (And.intro eaj ebj)
      clear eaj ebj
      have ca := hR.cell i3
      have cb := hR.cell i4
      obtain ⟨x, hx⟩ : ∃ x, (sw zs a b j).getD aj 0 = x := ⟨_, rfl⟩
      obtain ⟨y, hy⟩ : ∃ y, (sw zs a b j).getD bj 0 = y := ⟨_, rfl⟩
      rw [hx] at ca
      rw [hy] at cb
      have HXY := hide (And.intro hx hy)
      clear hx hy
      have da := (Ext.refl wr).drew.cell ca
      have db := (Ext.refl wr).drew.cell cb
      have fa := hR.1.frozenAt aj
      have fb := hR.1.frozenAt bj
      have HR2 := hide (((hR.set aj y).set bj x).ext ((Ext.refl ((wr.setCell ⟨g, aj, none⟩ (.int .i64 y)).setCell ⟨g, bj, none⟩ (.int .i64 x))).drew))
      clear hR
      go_wp2_with fail
      refine piv_begin 21 (fun w' => w'.cell? ⟨g, aj, none⟩ = some (.int .i64 x) ∧ w'.cell? ⟨g, bj, none⟩ = some (.int .i64 y)) (by kernel_rfl) ⟨da, db⟩ (fun hHeld => ?_)
      refine piv_take 0 rfl (by kernel_rfl) (by kernel_rfl) (by kernel_rfl) (by kernel_rfl) (by kernel_rfl) (fun _ _ _ _ h => h) (by rfl) ?_ ?_ (by assumption) ?_
      rotate_left
      · (intro wx hSx; (try dsimp only at hSx); go_simp)
        all_goals with_reducible rfl
      (try simp only [Act.put, List.setIfInBounds_toArray, List.set_cons_zero, List.set_cons_succ])
      refine piv_take 1 rfl (by kernel_rfl) (by kernel_rfl) (by kernel_rfl) (by kernel_rfl) (by kernel_rfl) (fun _ _ _ _ h => h) (by rfl) ?_ ?_ (by assumption) ?_
      rotate_left
      · (intro wx hSx; (try dsimp only at hSx); go_simp)
        all_goals with_reducible rfl
      (try simp only [Act.put, List.setIfInBounds_toArray, List.set_cons_zero, List.set_cons_succ])
      refine piv_take 2 rfl (by kernel_rfl) (by kernel_rfl) (by kernel_rfl) (by kernel_rfl) (by kernel_rfl) (fun _ _ _ _ h => h) (by rfl) ?_ ?_ (by assumption) ?_
      rotate_left
      · (intro wx hSx; (try dsimp only at hSx); go_simp)
        all_goals with_reducible rfl
      (try simp only [Act.put, List.setIfInBounds_toArray, List.set_cons_zero, List.set_cons_succ])
      refine piv_take 3 rfl (by kernel_rfl) (by kernel_rfl) (by kernel_rfl) (by kernel_rfl) (by kernel_rfl) (fun _ _ _ _ h => h) (by rfl) ?_ ?_ (by assumption) ?_
      rotate_left
      · (intro wx hSx; (try dsimp only at hSx); go_simp)
        all_goals with_reducible rfl
      (try simp only [Act.put, List.setIfInBounds_toArray, List.set_cons_zero, List.set_cons_succ])
      refine piv_take 8 rfl (by kernel_rfl) (by kernel_rfl) (by kernel_rfl) (by kernel_rfl) (by kernel_rfl) (fun _ _ _ _ h => h) (by rfl) ?_ ?_ (by assumption) ?_
      rotate_left
      · (intro wx hSx; (try dsimp only at hSx); go_simp)
        all_goals with_reducible rfl
      (try simp only [Act.put, List.setIfInBounds_toArray, List.set_cons_zero, List.set_cons_succ])
      refine piv_take 9 rfl (by kernel_rfl) (by kernel_rfl) (by kernel_rfl) (by kernel_rfl) (by kernel_rfl) (fun _ _ _ _ h => h) (by rfl) ?_ ?_ (by assumption) ?_
      rotate_left
      · (intro wx hSx; (try dsimp only at hSx); go_simp)
        all_goals with_reducible rfl
      (try simp only [Act.put, List.setIfInBounds_toArray, List.set_cons_zero, List.set_cons_succ])
      refine piv_take 10 rfl (by kernel_rfl) (by kernel_rfl) (by kernel_rfl) (by kernel_rfl) (by kernel_rfl) (fun _ _ _ _ h => h) (by rfl) ?_ ?_ (by assumption) ?_
      rotate_left
      · (intro wx hSx; (try dsimp only at hSx); go_simp)
        all_goals with_reducible rfl
      (try simp only [Act.put, List.setIfInBounds_toArray, List.set_cons_zero, List.set_cons_succ])
      refine piv_take 11 rfl (by kernel_rfl) (by kernel_rfl) (by kernel_rfl) (by kernel_rfl) (by kernel_rfl) (fun _ _ _ _ h => h) (by rfl) ?_ ?_ (by assumption) ?_
      rotate_left
      · (intro wx hSx; (try dsimp only at hSx); go_simp)
        all_goals with_reducible rfl
      (try simp only [Act.put, List.setIfInBounds_toArray, List.set_cons_zero, List.set_cons_succ])
      refine piv_take 12 rfl (by kernel_rfl) (by kernel_rfl) (by kernel_rfl) (by kernel_rfl) (by kernel_rfl) (fun _ _ _ _ h => h) (by rfl) ?_ ?_ (by assumption) ?_
      rotate_left
      · (intro wx hSx; (try dsimp only at hSx); go_simp)
        all_goals with_reducible rfl
      (try simp only [Act.put, List.setIfInBounds_toArray, List.set_cons_zero, List.set_cons_succ])
      refine piv_take 13 rfl (by kernel_rfl) (by kernel_rfl) (by kernel_rfl) (by kernel_rfl) (by kernel_rfl) (fun _ _ _ _ h => h) (by rfl) ?_ ?_ (by assumption) ?_
      rotate_left
      · (intro wx hSx; (try dsimp only at hSx); go_simp)
        all_goals with_reducible rfl
      (try simp only [Act.put, List.setIfInBounds_toArray, List.set_cons_zero, List.set_cons_succ])
      refine piv_pure 4 rfl (by kernel_rfl) (by kernel_rfl) (by kernel_rfl) (by kernel_rfl) (fun _ _ _ _ h => h) (by rfl) ?_ ?_ (by assumption) ?_
      rotate_left
      · (intro wx _; go_simp)
        all_goals with_reducible rfl
      (try simp only [Act.put, List.setIfInBounds_toArray, List.set_cons_zero, List.set_cons_succ])
      refine piv_pure 5 rfl (by kernel_rfl) (by kernel_rfl) (by kernel_rfl) (by kernel_rfl) (fun _ _ _ _ h => h) (by rfl) ?_ ?_ (by assumption) ?_
      rotate_left
      · (intro wx _; go_simp)
        all_goals with_reducible rfl
      (try simp only [Act.put, List.setIfInBounds_toArray, List.set_cons_zero, List.set_cons_succ])
      refine piv_pure 6 rfl (by kernel_rfl) (by kernel_rfl) (by kernel_rfl) (by kernel_rfl) (fun _ _ _ _ h => h) (by rfl) ?_ ?_ (by assumption) ?_
      rotate_left
      · (intro wx _; go_simp)
        all_goals with_reducible rfl
      (try simp only [Act.put, List.setIfInBounds_toArray, List.set_cons_zero, List.set_cons_succ])
      refine piv_pure 7 rfl (by kernel_rfl) (by kernel_rfl) (by kernel_rfl) (by kernel_rfl) (fun _ _ _ _ h => h) (by rfl) ?_ ?_ (by assumption) ?_
      rotate_left
      · (intro wx _; go_simp)
        all_goals with_reducible rfl
      (try simp only [Act.put, List.setIfInBounds_toArray, List.set_cons_zero, List.set_cons_succ])
      refine piv_pure 14 rfl (by kernel_rfl) (by kernel_rfl) (by kernel_rfl) (by kernel_rfl) (fun _ _ _ _ h => h) (by rfl) ?_ ?_ (by assumption) ?_
      rotate_left
      · (intro wx _; go_simp)
        all_goals with_reducible rfl
      (try simp only [Act.put, List.setIfInBounds_toArray, List.set_cons_zero, List.set_cons_succ])
      refine piv_pure 15 rfl (by kernel_rfl) (by kernel_rfl) (by kernel_rfl) (by kernel_rfl) (fun _ _ _ _ h => h) (by rfl) ?_ ?_ (by assumption) ?_
      rotate_left
      · (intro wx _; go_simp)
        all_goals with_reducible rfl
      (try simp only [Act.put, List.setIfInBounds_toArray, List.set_cons_zero, List.set_cons_succ])
      refine piv_pure 16 rfl (by kernel_rfl) (by kernel_rfl) (by kernel_rfl) (by kernel_rfl) (fun _ _ _ _ h => h) (by rfl) ?_ ?_ (by assumption) ?_
      rotate_left
      · (intro wx _; go_simp)
        all_goals with_reducible rfl
      (try simp only [Act.put, List.setIfInBounds_toArray, List.set_cons_zero, List.set_cons_succ])
      refine piv_pure 17 rfl (by kernel_rfl) (by kernel_rfl) (by kernel_rfl) (by kernel_rfl) (fun _ _ _ _ h => h) (by rfl) ?_ ?_ (by assumption) ?_
      rotate_left
      · (intro wx _; go_simp)
        all_goals with_reducible rfl
      (try simp only [Act.put, List.setIfInBounds_toArray, List.set_cons_zero, List.set_cons_succ])
      refine piv_pure 18 rfl (by kernel_rfl) (by kernel_rfl) (by kernel_rfl) (by kernel_rfl) (fun _ _ _ _ h => h) (by rfl) ?_ ?_ (by assumption) ?_
      rotate_left
      · (intro wx _; go_simp)
        all_goals with_reducible rfl
      (try simp only [Act.put, List.setIfInBounds_toArray, List.set_cons_zero, List.set_cons_succ])
      refine piv_take 19 rfl (by kernel_rfl) (by kernel_rfl) (by kernel_rfl) (by kernel_rfl) (by kernel_rfl) (fun _ _ _ _ h => h) (by rfl) ?_ ?_ (by assumption) ?_
      rotate_left
      · (intro wx hSx; (try dsimp only at hSx); go_simp)
        all_goals with_reducible rfl
      (try simp only [Act.put, List.setIfInBounds_toArray, List.set_cons_zero, List.set_cons_succ])
      refine piv_pure 20 rfl (by kernel_rfl) (by kernel_rfl) (by kernel_rfl) (by kernel_rfl) (fun _ _ _ _ h => h) (by rfl) ?_ ?_ (by assumption) ?_
      rotate_left
      · (intro wx _; go_simp)
        all_goals with_reducible rfl
      (try simp only [Act.put, List.setIfInBounds_toArray, List.set_cons_zero, List.set_cons_succ])
      refine piv_late 21 rfl (by kernel_rfl) (by kernel_rfl) (fun K hK => ?_)
      go_simp
      refine hK.out _ _ ?_
      clear hK K
      (try simp only [Act.put, List.setIfInBounds_toArray, List.set_cons_zero, List.set_cons_succ])
      refine piv_late 22 rfl (by kernel_rfl) (by kernel_rfl) (fun K hK => ?_)
      go_simp
      refine hK.out _ _ ?_
      clear hK K
      (try simp only [Act.put, List.setIfInBounds_toArray, List.set_cons_zero, List.set_cons_succ])
      refine piv_late 23 rfl (by kernel_rfl) (by kernel_rfl) (fun K hK => ?_)
      go_simp
      refine hK.out _ _ ?_
      clear hK K
      (try simp only [Act.put, List.setIfInBounds_toArray, List.set_cons_zero, List.set_cons_succ])
      refine piv_done (by kernel_rfl) ?_ _
      go_wp2_with fail
      go_roundw
      case rel =>
        refine ⟨j + 1, by omega, by go_num, ?_⟩
        have e : ((sw zs a b j).set aj y).set bj x = sw zs a b (j + 1) := by
          rw [← HXY.out.1, ← HXY.out.2, EA.out.1, EA.out.2]
          rfl
        rw [← e]
        exact HR2.out
      case measure => simp [intOf]; omega
    · obtain rfl : j = k := by omega
      go_wp2
      go_end0
      exact ⟨rfl, hR⟩
theorem wrap_sub {a b : Nat} (h : b ≤ a) (ha : a ≤ 4611686018427387904) : IntKind.i64.wrap ((a : Int) - (b : Int)) = ((a - b : Nat) : Int) := by
  rw [IntWalk.i64_in _ (by omega)]
  omega
set_option maxRecDepth 100000 in
set_option maxHeartbeats 4000000 in
theorem rotate_row {w0 w : World} {g n c : Nat} {zs : List Int} (h : Row w0 w g n c zs) (a m b : Nat) (h1 : a < m) (h2 : m < b) (h3 : b ≤ n) (hn : n ≤ 1000000) (cv : Value) :
    Calls Tryd.prog 63 #[.slice (some ⟨g, 0, none⟩) n c, .int .i64 a, .int .i64 m, .int .i64 b, cv] w fun e w' => e = .returned (.tuple #[]) ∧ Row w0 w' g n c (rot zs a m b) := by
  have hl := h.len
  have W1 := wrap_sub (a := m) (b := a) (by omega) (by omega)
  have W2 := wrap_sub (a := b) (b := m) (by omega) (by omega)
  obtain ⟨i0, e0⟩ : ∃ i0, i0 = m - a := ⟨_, rfl⟩
  obtain ⟨j0, f0⟩ : ∃ j0, j0 = b - m := ⟨_, rfl⟩
  rw [← e0] at W1
  rw [← f0] at W2
  have E0 := hide (And.intro e0 f0)
  clear e0 f0
  go_enter Tryd.func63, Tryd.ntmps63
  go_wp2
  go_loopw [10, 11] (fun vi vj wr => ∃ (i j : Nat) (cs : List Int), vi = .int .i64 i ∧ vj = .int .i64 j ∧ 1 ≤ i ∧ 1 ≤ j ∧ i ≤ m ∧ m + j ≤ n ∧ Row w0 wr g n c cs ∧ rot cs (m - i) m (m + j) = rot zs a m b) (fun vi vj _ => (intOf vi).toNat + (intOf vj).toNat)
  case atStart =>
    obtain ⟨e0, f0⟩ := E0.out
    exact ⟨i0, j0, zs, rfl, rfl, by omega, by omega, by omega, by omega, h, by rw [e0, f0, show m - (m - a) = a by omega, show m + (b - m) = b by omega]⟩
  case round =>
    obtain ⟨i, j, cs, rfl, rfl, hi1, hj1, him, hjn, hR, hrot⟩ := hrel
    have HR := hide hrot
    have hcl := hR.len
    clear hrot W1 W2
    have W3 := wrap_sub (a := m) (b := i) (by omega) (by omega)
    obtain ⟨mi, emi⟩ : ∃ mi, mi = m - i := ⟨_, rfl⟩
    rw [← emi] at W3
    by_cases hij : i = j
    · subst hij
      have HS := hide (swapRange_row hR mi m i (by omega) (by omega) hn cv)
      have he : sw cs mi m i = rot zs a m b := by rw [emi, rot_same him (by omega), HR.out]
      have HE := hide he
      clear he emi
      go_wp2_with (go_at_call 66; with_reducible refine HS.out.mono ?_; rintro e w5 ⟨rfl, hR5⟩)
      rw [HE.out] at hR5
      go_end0
      exact ⟨rfl, hR5⟩
    · by_cases hlt : j < i
      · have HS := hide (swapRange_row hR mi m j (by omega) (by omega) hn cv)
        have W4 := wrap_sub (a := i) (b := j) (by omega) (by omega)
        obtain ⟨ij, eij⟩ : ∃ ij, ij = i - j := ⟨_, rfl⟩
        rw [← eij] at W4
        have he := rot_more (zs := cs) him (by omega) hlt
        have i2 : (j : Int) < (i : Int) := by omega
        have i3 : (i : Int) ≠ (j : Int) := by omega
        have HE := hide (And.intro he (And.intro emi eij))
        clear he emi eij
        go_wp2_with (go_at_call 66; with_reducible refine HS.out.mono ?_; rintro e w5 ⟨rfl, hR5⟩)
        obtain ⟨he, emi, eij⟩ := HE.out
        go_roundw
        case rel =>
          refine ⟨ij, j, _, rfl, rfl, by omega, by omega, by omega, by omega, hR5, ?_⟩
          rw [← HR.out, ← he, emi, eij, show m - (i - j) = m - i + j by omega]
        case measure => simp [intOf]; omega
      · have W5 := wrap_nat2 (a := m) (b := j) (by omega)
        have W6 := wrap_sub (a := m + j) (b := i) (by omega) (by omega)
        obtain ⟨mj, emj⟩ : ∃ mj, mj = m + j := ⟨_, rfl⟩
        rw [← emj] at W5 W6
        obtain ⟨mji, emji⟩ : ∃ mji, mji = mj - i := ⟨_, rfl⟩
        rw [← emji] at W6
        have W7 := wrap_sub (a := j) (b := i) (by omega) (by omega)
        obtain ⟨ji, eji⟩ : ∃ ji, ji = j - i := ⟨_, rfl⟩
        rw [← eji] at W7
        have HS := hide (swapRange_row hR mi mji i (by omega) (by omega) hn cv)
        have he := rot_less (zs := cs) him (by omega) (show i < j by omega)
        have i2 : ¬ (j : Int) < (i : Int) := by omega
        have i3 : (i : Int) ≠ (j : Int) := by omega
        have HE := hide (And.intro he (And.intro emi (And.intro emj (And.intro emji eji))))
        clear he emi emj emji eji
        go_wp2_with (go_at_call 66; with_reducible refine HS.out.mono ?_; rintro e w5 ⟨rfl, hR5⟩)
        obtain ⟨he, emi, emj, emji, eji⟩ := HE.out
        go_roundw
        case rel =>
          refine ⟨i, ji, _, rfl, rfl, by omega, by omega, by omega, by omega, hR5, ?_⟩
          rw [← HR.out, ← he, emi, emji, emj, eji]
        case measure => simp [intOf]; omega
end Go.Proofs.YtillhbbeghbfeaaDoor
