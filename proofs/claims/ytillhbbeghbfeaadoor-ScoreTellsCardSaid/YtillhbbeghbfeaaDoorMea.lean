/- The mean of whole numbers: the walk of score.Mean. -/
import Derived.Test.YtillhbbeghbfeaaDoorFloS
import Derived.Test.YtillhbbeghbfeaaDoorSrtX
namespace Go.Proofs.YtillhbbeghbfeaaDoor
set_option linter.unusedVariables false
set_option linter.unusedSimpArgs false
open Go.RowKit

theorem wF_word (n : Nat) : wF n < 18446744073709551616 := lt_small (wF_le n)
theorem f_Mean0 (w : World) : Calls Tryd.prog 20 #[.slice none 0 0] w fun e w' => e = .returned (.float .f64 9221120237041090561) ∧ w = w' := by
  go_enter Tryd.func20, Tryd.ntmps20
  go_wp2_with (go_at_call 21; refine (f_NaN _).mono ?_; rintro e w' ⟨rfl, rfl⟩)
  go_ret
  exact ⟨rfl, rfl⟩
theorem run_add {a b : Nat} (h : a + b < 9007199254740992) (t : TypeId) (w : World) : (binOp BinOp.add t (.float .f64 (wF a)) (.float .f64 (wF b))).run Tryd.prog w = .ok (.float .f64 (wF (a + b))) w :=
  run_float_arith w .add t .f64 _ _ _ (add_wF h)
theorem run_div {x y r : Nat} (h : Ieee.double.div x y = some r) (t : TypeId) (w : World) : (binOp BinOp.quo t (.float .f64 x) (.float .f64 y)).run Tryd.prog w = .ok (.float .f64 r) w :=
  run_float_arith w .quo t .f64 _ _ _ h
/-- The sum of the first numbers. -/
def sumN (ns : List Nat) (k : Nat) : Nat := (ns.take k).sum
theorem sumN_succ {ns : List Nat} {k x : Nat} (h : ns[k]? = some x) : sumN ns (k + 1) = sumN ns k + x := by
  unfold sumN
  rw [List.take_add_one, h]
  simp
set_option maxHeartbeats 1000000 in
theorem f_Mean (w : World) (A : Option Addr) (n c : Nat) (ns : List Nat) (hS : Sl w A n c (fl (ns.map wF))) (hn : n ≠ 0) (hn2 : n < 9007199254740992) (hb : ∀ k, sumN ns k < 9007199254740992) (r : Nat) (hr : Ieee.double.div (wF (sumN ns n)) (wF n) = some r) :
    Calls Tryd.prog 20 #[.slice A n c] w fun e w' => e = .returned (.float .f64 r) ∧ w = w' := by
  have hl : ns.length = n := by have := hS.len; rwa [fl_len, List.length_map] at this
  have hW : Words (ns.map wF) := by
    intro x hx
    obtain ⟨y, _, rfl⟩ := List.mem_map.1 hx
    exact wF_word y
  have hcm := hS.cm
  have hnc := hS.nc
  obtain ⟨b, o, x0, hA, hx0, hc0, _⟩ := hS.atF hW (k := 0) (by omega)
  subst hA
  have e0 : ((n : Int) == 0) = false := by simp; omega
  have hx0' : ∃ y, ns[0]? = some y ∧ x0 = wF y := by
    have := hx0.out
    rw [List.getElem?_map, Option.map_eq_some_iff] at this
    obtain ⟨y, h1, h2⟩ := this
    exact ⟨y, h1, h2.symm⟩
  obtain ⟨y0, hy0, rfl⟩ := hx0'
  have hs1 : sumN ns 1 = y0 := by rw [sumN_succ hy0]; unfold sumN; simp
  rw [Nat.add_zero] at hc0
  have i0 : (0 : Int) < (n : Int) := by omega
  have i1 : (1 : Int) ≤ (n : Int) := by omega
  have hcv := floatOf_nat n
  have hn1 : n - 1 + 1 = n := by omega
  have hcell : ∀ j, j < n - 1 → ∃ y, ns[j + 1]? = some y ∧ w.cell? ⟨b, o + 1 + j, none⟩ = some (.float .f64 (wF y)) := by
    intro j hj
    obtain ⟨b1, o1, x1, hA, hx1, hc1, _⟩ := hS.atF hW (k := j + 1) (by omega)
    simp at hA
    obtain ⟨rfl, rfl⟩ := hA
    have := hx1.out
    rw [List.getElem?_map, Option.map_eq_some_iff] at this
    obtain ⟨y, h1, h2⟩ := this
    refine ⟨y, h1, ?_⟩
    rw [h2, Nat.add_assoc, Nat.add_comm 1 j]
    exact hc1
  have hrr := fun w => run_div (x := wF (sumN ns n)) (y := floatOfInt .f64 (n : Int)) (r := r) (by rw [hcv]; exact hr) 24 w
  have W1 : IntKind.i64.wrap ((n : Int) - 1) = ((n - 1 : Nat) : Int) := wrap_sub (a := n) (b := 1) (by omega) (by omega)
  obtain ⟨n1, hn1e⟩ : ∃ n1, n1 = n - 1 := ⟨_, rfl⟩
  have HB := hide hb
  have HC := hide hcell
  have HS := hide (And.intro hs1 (And.intro hn1e hrr))
  clear hb hcell hx0 hS hW hn1 hcv hr
  by_cases hc1 : c = 1
  · obtain rfl : n = 1 := by omega
    subst hc1
    have hrr := HS.out.2.2
    rw [HS.out.1] at hrr
    have hcv2 : floatOfInt .f64 ((1 : Nat) : Int) = floatOfInt .f64 1 := rfl
    rw [hcv2] at hrr
    clear W1
    go_enter Tryd.func20, Tryd.ntmps20
    go_wp2_with fail
    go_loopw [3, 16] (fun s v wr => s = .float .f64 (wF y0) ∧ v = .int .i64 0 ∧ wr = w) (fun s v _ => 0)
    case atStart => exact ⟨rfl, rfl, rfl⟩
    case round =>
      obtain ⟨rfl, rfl, rfl⟩ := hrel
      go_wp2_with fail
      go_ret
      exact ⟨rfl, rfl⟩
  · clear hrr
    subst hn1e
    go_enter Tryd.func20, Tryd.ntmps20
    go_wp2_with fail
    go_loopw [3, 16] (fun s v wr => ∃ j : Nat, j ≤ n - 1 ∧ s = .float .f64 (wF (sumN ns (j + 1))) ∧ v = .int .i64 j ∧ wr = w) (fun _ v _ => n - 1 - (intOf v).toNat)
    case atStart => exact ⟨0, by omega, by rw [HS.out.1], rfl, rfl⟩
    case round =>
      obtain ⟨j, hj, rfl, rfl, rfl⟩ := hrel
      by_cases hlt : j < n - 1
      · obtain ⟨y, hy, hcy⟩ := HC.out j hlt
        have hs2 := sumN_succ hy
        have hra := fun w => run_add (a := sumN ns (j + 1)) (b := y) (by rw [← hs2]; exact HB.out _) 24 w
        rw [← hs2] at hra
        have i2 : (j : Int) < ((n - 1 : Nat) : Int) := by omega
        have HY := hide hy
        clear hy hs2
        go_wp2_with fail
        go_roundw
        case rel => exact ⟨j + 1, by omega, rfl, by go_num, trivial⟩
        case measure => simp [intOf]; omega
      · obtain rfl : j = n - 1 := by omega
        have hrr := HS.out.2.2
        have hnj : n - 1 + 1 = n := by omega
        rw [hnj]
        go_wp2_with fail
        go_ret
        exact ⟨rfl, rfl⟩
theorem add_nan (x : Nat) {q : Nat} (hq : nanF q = true) : Ieee.double.add x q = none := by
  obtain ⟨s, u, e⟩ := read_nan hq
  unfold Ieee.Format.add
  rw [e]
  cases Ieee.double.read x <;> rfl
theorem div_nan (y : Nat) {q : Nat} (hq : nanF q = true) : Ieee.double.div q y = none := by
  obtain ⟨s, u, e⟩ := read_nan hq
  unfold Ieee.Format.div
  rw [e]
  rfl
theorem run_addN (t : TypeId) (x : Nat) {q : Nat} (hq : nanF q = true) (w : World) : ∃ r, (binOp BinOp.add t (.float .f64 x) (.float .f64 q)).run Tryd.prog w = .ok (.float .f64 r) w.drew ∧ nanF r = true := by
  have h1 : FloatKind.f64.format.add x q = none := add_nan x hq
  refine ⟨_, ?_, (nan_cut (w.tape w.drawn (Question.nanBits .f64 x q))).1⟩
  simp [binOp, Op.floatArith, h1, Question.forced, Question.cut]
theorem run_divN (t : TypeId) (y : Nat) {q : Nat} (hq : nanF q = true) (w : World) : ∃ r, (binOp BinOp.quo t (.float .f64 q) (.float .f64 y)).run Tryd.prog w = .ok (.float .f64 r) w.drew ∧ nanF r = true := by
  have h1 : FloatKind.f64.format.div q y = none := div_nan y hq
  refine ⟨_, ?_, (nan_cut (w.tape w.drawn (Question.nanBits .f64 q y))).1⟩
  simp [binOp, Op.floatArith, h1, Question.forced, Question.cut]
set_option maxHeartbeats 1000000 in
theorem f_MeanN (w : World) (A : Option Addr) (n c : Nat) (ns : List Nat) (q : Nat) (hq : nanF q = true) (hq2 : q < 18446744073709551616) (hS : Sl w A (n + 1) c (fl (ns.map wF ++ [q]))) (hn : n ≠ 0) (hn2 : n < 9007199254740991) (hb : ∀ k, sumN ns k < 9007199254740992) :
    Calls Tryd.prog 20 #[.slice A (n + 1) c] w fun e w' => ∃ r, e = .returned (.float .f64 r) ∧ nanF r = true ∧ Ext w w' := by
  have hl : ns.length = n := by
    have := hS.len
    rw [fl_len, List.length_append, List.length_map] at this
    simpa using this
  have hW : Words (ns.map wF ++ [q]) := by
    refine Words.append ?_ (Words.one hq2)
    intro x hx
    obtain ⟨y, _, rfl⟩ := List.mem_map.1 hx
    exact wF_word y
  have hcm := hS.cm
  have hnc := hS.nc
  have hat : ∀ j, j < n + 1 → ∃ b o x, A = some ⟨b, o, none⟩ ∧ w.cell? ⟨b, o + j, none⟩ = some (.float .f64 x) ∧ ((j < n ∧ ∃ y, ns[j]? = some y ∧ x = wF y) ∨ (j = n ∧ x = q)) := by
    intro j hj
    obtain ⟨b, o, x, hA, hx, hc, _⟩ := hS.atF hW hj
    refine ⟨b, o, x, hA, hc, ?_⟩
    have h1 := hx.out
    by_cases hjn : j < n
    · rw [List.getElem?_append_left (by rw [List.length_map]; omega), List.getElem?_map, Option.map_eq_some_iff] at h1
      obtain ⟨y, g1, g2⟩ := h1
      exact Or.inl ⟨hjn, y, g1, g2.symm⟩
    · have : j = n := by omega
      subst this
      rw [List.getElem?_append_right (by rw [List.length_map]; omega), List.length_map, hl, Nat.sub_self] at h1
      exact Or.inr ⟨rfl, (Option.some.inj h1).symm⟩
  obtain ⟨b, o, x0, hA, hc0, hx0⟩ := hat 0 (by omega)
  subst hA
  have hy0 : ∃ y0, ns[0]? = some y0 ∧ x0 = wF y0 := by
    rcases hx0 with ⟨_, h⟩ | ⟨h, _⟩
    · exact h
    · omega
  obtain ⟨y0, hy0, rfl⟩ := hy0
  have e0 : ((n : Int) + 1 == 0) = false := by simp; omega
  have hs1 : sumN ns 1 = y0 := by rw [sumN_succ hy0]; unfold sumN; simp
  rw [Nat.add_zero] at hc0
  have i0 : (0 : Int) < (n : Int) + 1 := by omega
  have i1 : (1 : Int) ≤ (n : Int) + 1 := by omega
  have hc1 : ¬ c = 1 := by omega
  have hcell : ∀ j, j < n → ∃ x, w.cell? ⟨b, o + 1 + j, none⟩ = some (.float .f64 x) ∧ ((j + 1 < n ∧ ∃ y, ns[j + 1]? = some y ∧ x = wF y) ∨ (j + 1 = n ∧ x = q)) := by
    intro j hj
    obtain ⟨b1, o1, x1, hA, hc1, hx1⟩ := hat (j + 1) (by omega)
    simp at hA
    obtain ⟨rfl, rfl⟩ := hA
    refine ⟨x1, ?_, hx1⟩
    rw [Nat.add_assoc, Nat.add_comm 1 j]
    exact hc1
  have HC := hide hcell
  have HB := hide hb
  have HS := hide hs1
  clear hcell hat hb hx0 hy0 hS hW hs1
  go_enter Tryd.func20, Tryd.ntmps20
  go_wp2_with fail
  go_loopw [3, 16] (fun s v wr => ∃ (j : Nat) (x : Nat), j ≤ n ∧ s = .float .f64 x ∧ v = .int .i64 j ∧ Ext w wr ∧ ((j < n ∧ x = wF (sumN ns (j + 1))) ∨ (j = n ∧ nanF x = true))) (fun _ v _ => n - (intOf v).toNat)
  case atStart => exact ⟨0, _, by omega, rfl, rfl, Ext.refl w, Or.inl ⟨by omega, by rw [HS.out]⟩⟩
  case round =>
    obtain ⟨j, x, hj, rfl, rfl, hE, hx⟩ := hrel
    by_cases hlt : j < n
    · have hx1 : x = wF (sumN ns (j + 1)) := by
        rcases hx with ⟨_, h⟩ | ⟨h, _⟩
        · exact h
        · omega
      subst hx1
      obtain ⟨x2, hc2, hx2⟩ := HC.out j hlt
      have hc3 := hE.cell hc2
      have i2 : (j : Int) < (n : Int) := by omega
      clear hx
      rcases hx2 with ⟨hj1, y, hy, rfl⟩ | ⟨hj1, rfl⟩
      · have hs2 := sumN_succ hy
        have hra := fun w => run_add (a := sumN ns (j + 1)) (b := y) (by rw [← hs2]; exact HB.out _) 24 w
        rw [← hs2] at hra
        have HY := hide (And.intro hy hj1)
        clear hy hs2 hj1 hc2
        go_wp2_with fail
        go_roundw
        case rel => exact ⟨j + 1, _, by omega, rfl, by go_num, hE, Or.inl ⟨HY.out.2, rfl⟩⟩
        case measure => simp [intOf]; omega
      · obtain ⟨r, hr, hr2⟩ := run_addN 24 (wF (sumN ns (j + 1))) hq wr
        have HY := hide (And.intro hr2 hj1)
        clear hr2 hj1 hc2
        go_wp2_with fail
        go_roundw
        case rel => exact ⟨j + 1, r, by omega, rfl, by go_num, hE.drew, Or.inr ⟨HY.out.2, HY.out.1⟩⟩
        case measure => simp [intOf]; omega
    · obtain rfl : j = n := by omega
      have hxn : nanF x = true := by
        rcases hx with ⟨h, _⟩ | ⟨_, h⟩
        · omega
        · exact h
      obtain ⟨r, hr, hr2⟩ := run_divN 24 (floatOfInt .f64 ((j : Int) + 1)) hxn wr
      clear hx hxn
      go_wp2_with fail
      go_ret
      exact ⟨r, rfl, hr2, hE.drew⟩
end Go.Proofs.YtillhbbeghbfeaaDoor
