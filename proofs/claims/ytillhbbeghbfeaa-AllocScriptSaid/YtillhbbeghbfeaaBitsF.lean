/- Sets of small numbers: the first that is not there, a run, how many. -/
import Derived.Test.YtillhbbeghbfeaaBitsW
import Derived.Deep.LoopGhost
namespace Go.Proofs.Ytillhbbeghbfeaa
set_option linter.unusedVariables false
open Go.RowKit

/-- An answer that is a number of which something holds. -/
def IntIs (P : Int → Prop) (e : Ending) : Prop := ∃ r : Int, P r ∧ e = .returned (.int .i64 r)
/-- The first number, from one on, that is not there. -/
def FirstIs (xs : List Nat) (f n r : Int) : Prop :=
  (r = -1 ∧ ∀ i, f ≤ i → 0 ≤ i → i < n → hasI xs i = true) ∨ (f ≤ r ∧ 0 ≤ r ∧ r < n ∧ hasI xs r = false ∧ ∀ i, f ≤ i → 0 ≤ i → i < r → hasI xs i = true)
theorem FirstIs.uniq {xs : List Nat} {f n r s : Int} (h : FirstIs xs f n r) (k : FirstIs xs f n s) : r = s := by
  rcases h with ⟨rfl, h⟩ | ⟨h1, h2, h3, h4, h5⟩
  · rcases k with ⟨rfl, k⟩ | ⟨k1, k2, k3, k4, k5⟩
    · rfl
    · have := h s k1 k2 k3; rw [k4] at this; cases this
  · rcases k with ⟨rfl, k⟩ | ⟨k1, k2, k3, k4, k5⟩
    · have := k r h1 h2 h3; rw [h4] at this; cases this
    · by_cases hrs : r < s
      · have := k5 r h1 h2 hrs; rw [h4] at this; cases this
      · by_cases hsr : s < r
        · have := h5 s k1 k2 hsr; rw [k4] at this; cases this
        · omega
/-- Are so many numbers not there? -/
def freeB (xs : List Nat) (i L : Int) : Prop := ∀ k, i ≤ k → k < i + L → hasI xs k = false
/-- Where so many numbers begin that are not there. -/
def RunIs (xs : List Nat) (f n L r : Int) : Prop :=
  (r = -1 ∧ ∀ i, f ≤ i → i ≤ n - L → ¬ freeB xs i L) ∨ (f ≤ r ∧ r ≤ n - L ∧ freeB xs r L ∧ ∀ i, f ≤ i → i < r → ¬ freeB xs i L)
theorem RunIs.uniq {xs : List Nat} {f n L r s : Int} (h : RunIs xs f n L r) (k : RunIs xs f n L s) : r = s := by
  rcases h with ⟨rfl, h⟩ | ⟨h1, h2, h3, h4⟩
  · rcases k with ⟨rfl, k⟩ | ⟨k1, k2, k3, k4⟩
    · rfl
    · exact absurd k3 (h s k1 k2)
  · rcases k with ⟨rfl, k⟩ | ⟨k1, k2, k3, k4⟩
    · exact absurd h3 (k r h1 h2)
    · by_cases hrs : r < s
      · exact absurd h3 (k4 r h1 hrs)
      · by_cases hsr : s < r
        · exact absurd k3 (h4 s k1 hsr)
        · omega
theorem freeB_one {xs : List Nat} {i : Int} : freeB xs i 1 ↔ hasI xs i = false := by
  constructor
  · intro h; exact h i (by omega) (by omega)
  · intro h k h1 h2
    obtain rfl : k = i := by omega
    exact h
/-- A run of one is the first that is not there. -/
theorem RunIs.first {xs : List Nat} {f n r s : Int} (hf : 0 ≤ f) (h : RunIs xs f n 1 r) (k : FirstIs xs f n s) : r = s := by
  have key : FirstIs xs f n r := by
    rcases h with ⟨rfl, h⟩ | ⟨h1, h2, h3, h4⟩
    · refine .inl ⟨rfl, fun i h1 h2 h3 => ?_⟩
      have := h i h1 (by omega)
      rw [freeB_one] at this
      simpa using this
    · refine .inr ⟨h1, by omega, by omega, freeB_one.1 h3, fun i i1 i2 i3 => ?_⟩
      have := h4 i i1 i3
      rw [freeB_one] at this
      simpa using this
  exact key.uniq k
theorem hasI_far {xs : List Nat} {k : Int} (h : 8 * (xs.length : Int) ≤ k) : hasI xs k = false := by
  unfold hasI
  rw [hasB_far (by omega)]
  simp
theorem hasI_nat (xs : List Nat) (k : Nat) : hasI xs (k : Int) = hasB xs k := by unfold hasI; rw [decide_eq_true (by omega)]; simp

set_option maxHeartbeats 400000 in
theorem bits_Count (A : Option Addr) (n c : Nat) (xs : List Nat) (N : Int) (w : World) (h : Sl w A n c (by8 xs)) (hb : Bytes xs) (hn : n ≤ 1000000) (hN : N ≤ 9223372036854775807) :
    Calls Try.prog 59 #[.slice A n c, .int .i64 N] w fun e w' => e = .returned (.int .i64 ((allB xs N.toNat).length : Nat)) ∧ Ext w w' := by
  go_enter Try.func59, Try.ntmps59
  go_wp2_with fail
  refine (bits_All _ _ _ _ _ _ h hb hn hN).mono ?_
  rintro e w1 ⟨A1, m1, c1, rfl, hO1, hE1⟩
  have hl := hO1.len
  rw [i64s_len, nI_len] at hl
  subst hl
  go_wp2
  go_ret
  exact ⟨rfl, hE1⟩

set_option maxHeartbeats 400000 in
theorem bits_First (A : Option Addr) (n c : Nat) (xs : List Nat) (F N : Int) (w : World) (h : Sl w A n c (by8 xs)) (hb : Bytes xs) (hF : F ≤ 9223372036854775807) (hN : N ≤ 9223372036854775807) :
    Calls Try.prog 68 #[.slice A n c, .int .i64 F, .int .i64 N] w fun e w' => IntIs (FirstIs xs F N) e ∧ w = w' := by
  have HH := fun i h2 => bits_Has A n c xs i w h hb h2
  have start : ∀ F0 : Int, 0 ≤ F0 → F ≤ F0 → (F0 = 0 ∨ F0 = F) → ∃ k : Int, F ≤ k ∧ 0 ≤ k ∧ k ≤ 9223372036854775807 ∧ Value.int .i64 F0 = .int .i64 k ∧ Hid (∀ j, F ≤ j → 0 ≤ j → j < k → hasI xs j = true) :=
    fun F0 h0 h1 h2 => ⟨F0, h1, h0, by omega, rfl, fun j j1 j2 j3 => by omega⟩
  have START := hide start
  clear start
  by_cases hF0 : 0 ≤ F
  all_goals
    go_enter Try.func68, Try.ntmps68
    go_wp2_with fail
    go_loop [7] (fun i => ∃ k : Int, F ≤ k ∧ 0 ≤ k ∧ k ≤ 9223372036854775807 ∧ i = .int .i64 k ∧ Hid (∀ j, F ≤ j → 0 ≤ j → j < k → hasI xs j = true)) (fun i => (N - intOf i).toNat)
    case atStart => first | exact START.out F (by omega) (by omega) (by omega) | exact START.out 0 (by omega) (by omega) (by omega)
    case round =>
      obtain ⟨k, hk1, hk0, hk2, rfl, hk⟩ := hrel
      by_cases hlt : k < N
      · go_wp2_with fail
        refine (HH _ (by omega)).mono ?_
        rintro e w1 ⟨rfl, rfl⟩
        rcases hh : hasI xs k with _ | _
        · have HK := hide hh
          clear hh
          go_wp2
          go_ret
          exact ⟨⟨k, .inr ⟨hk1, hk0, hlt, HK.out, hk.out⟩, rfl⟩, rfl⟩
        · have HK := hide hh
          clear hh
          go_wp2
          go_round
          case rel => exact ⟨k + 1, by omega, by omega, by omega, rfl, fun j j1 j2 j3 => by
            by_cases hj : j = k
            · subst hj; exact HK.out
            · exact hk.out j j1 j2 (by omega)⟩
          case measure => simp [intOf]; omega
      · go_wp2
        go_ret
        exact ⟨⟨-1, .inl ⟨rfl, fun i i1 i2 i3 => hk.out i i1 i2 (by omega)⟩, rfl⟩, rfl⟩

theorem bits_First_is (A : Option Addr) (n c : Nat) (xs : List Nat) (F N : Int) (w : World) (h : Sl w A n c (by8 xs)) (hb : Bytes xs) (hF : F ≤ 9223372036854775807) (hN : N ≤ 9223372036854775807) {r : Int} (hr : FirstIs xs F N r) :
    Calls Try.prog 68 #[.slice A n c, .int .i64 F, .int .i64 N] w fun e w' => e = .returned (.int .i64 r) ∧ w = w' := by
  refine (bits_First A n c xs F N w h hb hF hN).mono ?_
  rintro e w' ⟨⟨s, hs, rfl⟩, rfl⟩
  exact ⟨by rw [hs.uniq hr], rfl⟩
end Go.Proofs.Ytillhbbeghbfeaa
