/- Sets of small numbers: the first that is not there, a run, how many. -/
import Derived.Test.YthbdnaogjmnagaaBitsW
import Derived.Deep.LoopGhost
namespace Go.Proofs.Ythbdnaogjmnagaa
set_option linter.unusedVariables false
open Go.RowKit

/-- An answer that is a number of which something holds. -/
def IntIs (P : Int → Prop) (e : Ending) : Prop := ∃ r : Int, P r ∧ e = .returned (.int .i64 r)
/-- The first number, from one on, that is not there. -/
def FirstIs (xs : List Nat) (f n r : Int) : Prop :=
  (r = -1 ∧ ∀ i, f ≤ i → 0 ≤ i → i < n → hasI xs i = true) ∨ (f ≤ r ∧ 0 ≤ r ∧ r < n ∧ hasI xs r = false ∧ ∀ i, f ≤ i → 0 ≤ i → i < r → hasI xs i = true)
theorem FirstIs.uniq {xs : List Nat} {f n r s : Int} (h : FirstIs xs f n r) (k : FirstIs xs f n s) : r = s := by
  rcases h with ⟨rfl, h⟩ | ⟨h1, h2, h3, h4, h5⟩
  · rcases k with ⟨rfl, k⟩ | ⟨k1, k2, k3, k4, k5⟩
    · rfl
    · have := h s k1 k2 k3; rw [k4] at this; cases this
  · rcases k with ⟨rfl, k⟩ | ⟨k1, k2, k3, k4, k5⟩
    · have := k r h1 h2 h3; rw [h4] at this; cases this
    · by_cases hrs : r < s
      · have := k5 r h1 h2 hrs; rw [h4] at this; cases this
      · by_cases hsr : s < r
        · have := h5 s k1 k2 hsr; rw [k4] at this; cases this
        · omega
/-- Are so many numbers not there? -/
def freeB (xs : List Nat) (i L : Int) : Prop := ∀ k, i ≤ k → k < i + L → hasI xs k = false
/-- Where so many numbers begin that are not there. -/
def RunIs (xs : List Nat) (f n L r : Int) : Prop :=
  (r = -1 ∧ ∀ i, f ≤ i → i ≤ n - L → ¬ freeB xs i L) ∨ (f ≤ r ∧ r ≤ n - L ∧ freeB xs r L ∧ ∀ i, f ≤ i → i < r → ¬ freeB xs i L)
theorem RunIs.uniq {xs : List Nat} {f n L r s : Int} (h : RunIs xs f n L r) (k : RunIs xs f n L s) : r = s := by
  rcases h with ⟨rfl, h⟩ | ⟨h1, h2, h3, h4⟩
  · rcases k with ⟨rfl, k⟩ | ⟨k1, k2, k3, k4⟩
    · rfl
    · exact absurd k3 (h s k1 k2)
  · rcases k with ⟨rfl, k⟩ | ⟨k1, k2, k3, k4⟩
    · exact absurd h3 (k r h1 h2)
    · by_cases hrs : r < s
      · exact absurd h3 (k4 r h1 hrs)
      · by_cases hsr : s < r
        · exact absurd k3 (h4 s k1 hsr)
        · omega
theorem freeB_one {xs : List Nat} {i : Int} : freeB xs i 1 ↔ hasI xs i = false := by
  constructor
  · intro h; exact h i (by omega) (by omega)
  · intro h k h1 h2
    obtain rfl : k = i := by omega
    exact h
/-- A run of one is the first that is not there. -/
theorem RunIs.first {xs : List Nat} {f n r s : Int} (hf : 0 ≤ f) (h : RunIs xs f n 1 r) (k : FirstIs xs f n s) : r = s := by
  have key : FirstIs xs f n r := by
    rcases h with ⟨rfl, h⟩ | ⟨h1, h2, h3, h4⟩
    · refine .inl ⟨rfl, fun i h1 h2 h3 => ?_⟩
      have := h i h1 (by omega)
      rw [freeB_one] at this
      simpa using this
    · refine .inr ⟨h1, by omega, by omega, freeB_one.1 h3, fun i i1 i2 i3 => ?_⟩
      have := h4 i i1 i3
      rw [freeB_one] at this
      simpa using this
  exact key.uniq k
theorem hasI_far {xs : List Nat} {k : Int} (h : 8 * (xs.length : Int) ≤ k) : hasI xs k = false := by
  unfold hasI
  rw [hasB_far (by omega)]
  simp
theorem hasI_nat (xs : List Nat) (k : Nat) : hasI xs (k : Int) = hasB xs k := by unfold hasI; rw [decide_eq_true (by omega)]; simp

set_option maxHeartbeats 400000 in
theorem bits_Count (A : Option Addr) (n c : Nat) (xs : List Nat) (N : Int) (w : World) (h : Sl w A n c (by8 xs)) (hb : Bytes xs) (hn : n ≤ 1000000) (hN : N ≤ 9223372036854775807) :
    Calls Try.prog 40 #[.slice A n c, .int .i64 N] w fun e w' => e = .returned (.int .i64 ((allB xs N.toNat).length : Nat)) ∧ Ext w w' := by
  go_enter Try.func40, Try.ntmps40
  go_wp2_with fail
  refine (bits_All _ _ _ _ _ _ h hb hn hN).mono ?_
  rintro e w1 ⟨A1, m1, c1, rfl, hO1, hE1⟩
  have hl := hO1.len
  rw [i64s_len, nI_len] at hl
  subst hl
  go_wp2
  go_ret
  exact ⟨rfl, hE1⟩

set_option maxHeartbeats 400000 in
theorem bits_First (A : Option Addr) (n c : Nat) (xs : List Nat) (F N : Int) (w : World) (h : Sl w A n c (by8 xs)) (hb : Bytes xs) (hF : F ≤ 9223372036854775807) (hN : N ≤ 9223372036854775807) :
    Calls Try.prog 37 #[.slice A n c, .int .i64 F, .int .i64 N] w fun e w' => IntIs (FirstIs xs F N) e ∧ w = w' := by
  have HH := fun i h2 => bits_Has A n c xs i w h hb h2
  have start : ∀ F0 : Int, 0 ≤ F0 → F ≤ F0 → (F0 = 0 ∨ F0 = F) → ∃ k : Int, F ≤ k ∧ 0 ≤ k ∧ k ≤ 9223372036854775807 ∧ Value.int .i64 F0 = .int .i64 k ∧ Hid (∀ j, F ≤ j → 0 ≤ j → j < k → hasI xs j = true) :=
    fun F0 h0 h1 h2 => ⟨F0, h1, h0, by omega, rfl, fun j j1 j2 j3 => by omega⟩
  have START := hide start
  clear start
  by_cases hF0 : 0 ≤ F
  all_goals
    go_enter Try.func37, Try.ntmps37
    go_wp2_with fail
    go_loop [7] (fun i => ∃ k : Int, F ≤ k ∧ 0 ≤ k ∧ k ≤ 9223372036854775807 ∧ i = .int .i64 k ∧ Hid (∀ j, F ≤ j → 0 ≤ j → j < k → hasI xs j = true)) (fun i => (N - intOf i).toNat)
    case atStart => first | exact START.out F (by omega) (by omega) (by omega) | exact START.out 0 (by omega) (by omega) (by omega)
    case round =>
      obtain ⟨k, hk1, hk0, hk2, rfl, hk⟩ := hrel
      by_cases hlt : k < N
      · go_wp2_with fail
        refine (HH _ (by omega)).mono ?_
        rintro e w1 ⟨rfl, rfl⟩
        rcases hh : hasI xs k with _ | _
        · have HK := hide hh
          clear hh
          go_wp2
          go_ret
          exact ⟨⟨k, .inr ⟨hk1, hk0, hlt, HK.out, hk.out⟩, rfl⟩, rfl⟩
        · have HK := hide hh
          clear hh
          go_wp2
          go_round
          case rel => exact ⟨k + 1, by omega, by omega, by omega, rfl, fun j j1 j2 j3 => by
            by_cases hj : j = k
            · subst hj; exact HK.out
            · exact hk.out j j1 j2 (by omega)⟩
          case measure => simp [intOf]; omega
      · go_wp2
        go_ret
        exact ⟨⟨-1, .inl ⟨rfl, fun i i1 i2 i3 => hk.out i i1 i2 (by omega)⟩, rfl⟩, rfl⟩

set_option maxHeartbeats 1000000 in
theorem bits_Run (A : Option Addr) (n c : Nat) (xs : List Nat) (F N L : Int) (w : World) (h : Sl w A n c (by8 xs)) (hb : Bytes xs) (hn : n ≤ 1000000) (hF : 0 ≤ F) (hF2 : F ≤ 1000000000) (hN : 0 ≤ N) (hN2 : N ≤ 1000000000) (hL : 1 ≤ L) (hL2 : L ≤ 1000000000) :
    Calls Try.prog 35 #[.slice A n c, .int .i64 F, .int .i64 N, .int .i64 L] w fun e w' => IntIs (RunIs xs F N L) e ∧ w = w' := by
  have hl : xs.length = n := by have := h.len; rwa [by8_len] at this
  have HL := hide hl
  have HH := fun i h2 => bits_Has A n c xs i w h hb h2
  have far : ∀ k : Int, 8 * (n : Int) ≤ k → hasI xs k = false := fun k hk => hasI_far (by rw [HL.out]; omega)
  have FAR := hide far
  clear far hl
  have d1 : decide (F < 0) = false := by simp; omega
  have d2 : decide (L < 1) = false := by simp; omega
  go_enter Try.func35, Try.ntmps35
  go_wp2
  go_step3
  go_wp2
  go_step3
  go_wp2
  go_loopg [9, 10] (max F (N - L + 1) - F).toNat (fun g i k wr => ∃ a : Int, F ≤ a ∧ a + g = max F (N - L + 1) ∧ i = .int .i64 a ∧ Hid (∀ j, F ≤ j → j < a → ¬ freeB xs j L) ∧ w = wr)
  case atStart => exact ⟨F, by omega, by omega, rfl, (fun j j1 j2 => by omega), rfl⟩
  case round =>
    obtain ⟨a, ha1, ha2, rfl, hno, rfl⟩ := hrel
    cases gk with
    | zero =>
      have hge : ¬ a ≤ N - L := by omega
      go_wp2
      (try rw [Exit.noGoto_ret])
      go_ret
      exact ⟨⟨-1, .inl ⟨rfl, fun i i1 i2 => hno.out i i1 (by omega)⟩, rfl⟩, rfl⟩
    | succ g =>
      have hle : a ≤ N - L := by omega
      go_wp2
      go_loopg [10] (max a (min (a + L) (8 * (n : Int))) - a).toNat (fun g2 k wy => ∃ q : Int, a ≤ q ∧ q + g2 = max a (min (a + L) (8 * (n : Int))) ∧ k = .int .i64 q ∧ Hid (∀ j, a ≤ j → j < q → hasI xs j = false) ∧ w = wy)
      case atStart => exact ⟨a, by omega, by omega, rfl, (fun j j1 j2 => by omega), rfl⟩
      case round =>
        obtain ⟨q, hq1, hq2, rfl, hfr, rfl⟩ := hrel
        cases gk with
        | zero =>
          have hfree : freeB xs a L := by
            intro k k1 k2
            by_cases hk : k < q
            · exact hfr.out k k1 hk
            · exact FAR.out k (by omega)
          have HFREE := hide hfree
          clear hfree
          by_cases hqa : q < a + L
          · have hq8 : ¬ q < 8 * (n : Int) := by omega
            go_wp2
            (try rw [Exit.noGoto_ret])
            go_ret
            exact ⟨⟨a, .inr ⟨ha1, hle, HFREE.out, hno.out⟩, rfl⟩, rfl⟩
          · go_wp2
            (try rw [Exit.noGoto_ret])
            go_ret
            exact ⟨⟨a, .inr ⟨ha1, hle, HFREE.out, hno.out⟩, rfl⟩, rfl⟩
        | succ g2 =>
          have hqa : q < a + L := by omega
          have hq8 : q < 8 * (n : Int) := by omega
          go_wp2_with fail
          refine (HH _ (by omega)).mono ?_
          rintro e w1 ⟨rfl, rfl⟩
          rcases hh : hasI xs q with _ | _
          · have HK := hide hh
            clear hh
            go_wp2
            go_roundg g2
            case measure => omega
            case rel => exact ⟨q + 1, by omega, by omega, rfl, (fun j j1 j2 => by
              by_cases hj : j = q
              · subst hj; exact HK.out
              · exact hfr.out j j1 (by omega)), rfl⟩
          · have HK := hide hh
            clear hh
            go_wp2
            go_roundg g
            case measure => omega
            case rel => exact ⟨a + 1, by omega, by omega, rfl, (fun j j1 j2 => by
              by_cases hj : j = a
              · subst hj; intro hf; have := hf q (by omega) (by omega); rw [HK.out] at this; cases this
              · exact hno.out j j1 (by omega)), rfl⟩
theorem bits_First_is (A : Option Addr) (n c : Nat) (xs : List Nat) (F N : Int) (w : World) (h : Sl w A n c (by8 xs)) (hb : Bytes xs) (hF : F ≤ 9223372036854775807) (hN : N ≤ 9223372036854775807) {r : Int} (hr : FirstIs xs F N r) :
    Calls Try.prog 37 #[.slice A n c, .int .i64 F, .int .i64 N] w fun e w' => e = .returned (.int .i64 r) ∧ w = w' := by
  refine (bits_First A n c xs F N w h hb hF hN).mono ?_
  rintro e w' ⟨⟨s, hs, rfl⟩, rfl⟩
  exact ⟨by rw [hs.uniq hr], rfl⟩
theorem bits_Run_is (A : Option Addr) (n c : Nat) (xs : List Nat) (F N L : Int) (w : World) (h : Sl w A n c (by8 xs)) (hb : Bytes xs) (hn : n ≤ 1000000) (hF : 0 ≤ F) (hF2 : F ≤ 1000000000) (hN : 0 ≤ N) (hN2 : N ≤ 1000000000) (hL : 1 ≤ L) (hL2 : L ≤ 1000000000)
    {r : Int} (hr : RunIs xs F N L r) :
    Calls Try.prog 35 #[.slice A n c, .int .i64 F, .int .i64 N, .int .i64 L] w fun e w' => e = .returned (.int .i64 r) ∧ w = w' := by
  refine (bits_Run A n c xs F N L w h hb hn hF hF2 hN hN2 hL hL2).mono ?_
  rintro e w' ⟨⟨s, hs, rfl⟩, rfl⟩
  exact ⟨by rw [hs.uniq hr], rfl⟩
end Go.Proofs.Ythbdnaogjmnagaa
