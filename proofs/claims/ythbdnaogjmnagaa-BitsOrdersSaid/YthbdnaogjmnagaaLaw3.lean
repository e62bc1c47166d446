/- The statements on sets of small numbers. -/
import Derived.Test.YthbdnaogjmnagaaBitsF
import Derived.Test.YthbdnaogjmnagaaFilt
namespace Go.Proofs.Ythbdnaogjmnagaa
set_option linter.unusedVariables false
open Go.RowKit

theorem drewExt {w w' : World} (h : ∃ k, w' = w.drewN k) : Ext w w' := by
  obtain ⟨k, rfl⟩ := h
  exact (Ext.refl _).drewN _
theorem aw_first : FirstIs [3] 0 8 2 := .inr ⟨by omega, by omega, by omega, by decide +kernel, fun i i1 i2 i3 => by
  rcases (show i = 0 ∨ i = 1 by omega) with rfl | rfl <;> decide +kernel⟩
theorem aw_run : RunIs [4] 0 9 3 3 := .inr ⟨by omega, by omega, (fun k k1 k2 => by
  rcases (show k = 3 ∨ k = 4 ∨ k = 5 by omega) with rfl | rfl | rfl <;> decide +kernel), fun i i1 i2 hf => by
    have := hf 2 (by omega) (by omega)
    exact absurd this (by decide +kernel)⟩
theorem aw_has : hasI [0, 1] 8 = true := by decide +kernel
theorem aw_all : allB [7] (2 : Int).toNat = [0, 1] := by decide +kernel
theorem aw_of : ofB 9 [8, 0] = [1, 1] := by decide +kernel
theorem b1 {a : Nat} (ha : a < 256) : Bytes [a] := Bytes.cons ha Bytes.nil
theorem b2 {a b : Nat} (ha : a < 256) (hb : b < 256) : Bytes [a, b] := Bytes.cons ha (b1 hb)
theorem sl1 (w : World) (g : Nat) (hg : g = w.heap.size) (x : Int) (a : Nat) (hx : x = a) : Sl (w.alloc (.cells #[.int .u8 x] 5)) (some ⟨g, 0, none⟩) 1 1 (by8 [a]) := by
  subst hg hx
  exact Sl.lit w #[.int .u8 (a : Int)] 5 1 rfl (by omega) (by simp [Value.oneCell'])
theorem sl2 (w : World) (g : Nat) (hg : g = w.heap.size) (x y : Int) (a b : Nat) (hx : x = a) (hy : y = b) : Sl (w.alloc (.cells #[.int .u8 x, .int .u8 y] 5)) (some ⟨g, 0, none⟩) 2 2 (by8 [a, b]) := by
  subst hg hx hy
  exact Sl.lit w #[.int .u8 (a : Int), .int .u8 (b : Int)] 5 2 rfl (by omega) (by simp [Value.oneCell'])
theorem sl2I (w : World) (g : Nat) (hg : g = w.heap.size) (a b : Int) : Sl (w.alloc (.cells #[.int .i64 a, .int .i64 b] 3)) (some ⟨g, 0, none⟩) 2 2 (i64s [a, b]) := by
  subst hg
  exact Sl.lit w #[.int .i64 a, .int .i64 b] 3 2 rfl (by omega) (by simp [Value.oneCell'])
set_option maxRecDepth 100000 in
set_option maxHeartbeats 1000000 in
theorem law3_awake (w : World) : Calls Try.prog 34 #[] w fun e w' => e = .returned (.bool true) ∧ Ext w w' := by
  have HC := hide aw_all
  go_enter Try.func34, Try.ntmps34
  go_wp2_with fail
  refine (bits_First_is _ _ _ [3] _ _ _ (sl1 w _ rfl 3 3 rfl) (b1 (by omega)) (by omega) (by omega) aw_first).mono ?_
  rintro e w1 ⟨rfl, rfl⟩
  go_wp2_with fail
  refine (bits_Has _ _ _ [0, 1] _ _ (sl2 _ _ (by simp) 0 1 0 1 rfl rfl) (b2 (by omega) (by omega)) (by omega)).mono ?_
  rintro e w1 ⟨rfl, rfl⟩
  rw [aw_has]
  go_wp2_with fail
  refine (bits_Count _ _ _ [7] _ _ (sl1 _ _ (by simp) 7 7 rfl) (b1 (by omega)) (by omega) (by omega)).mono ?_
  rintro e w1 ⟨rfl, hE1⟩
  rw [HC.out]
  go_wp2_with fail
  refine (bits_Run_is _ _ _ [4] _ _ _ _ (sl1 _ _ (by simp) 4 4 rfl) (b1 (by omega)) (by omega) (by omega) (by omega) (by omega) (by omega) (by omega) (by omega) aw_run).mono ?_
  rintro e w2 ⟨rfl, rfl⟩
  go_wp2_with fail
  refine (bits_Of 9 _ rfl _ _ _ _ _ (sl2I _ _ (by simp) 8 0) (by simp) (by omega)).mono ?_
  rintro e w3 ⟨A3, c3, rfl, hO3, hE3⟩
  rw [aw_of] at hO3
  go_wp2_with fail
  refine (SameBytes _ _ _ _ _ _ [1, 1] [1, 1] _ (hO3.sl.ext ((Ext.refl _).alloc _)) (sl2 _ _ (by simp) 1 1 1 1 rfl rfl) (b2 (by omega) (by omega)) (b2 (by omega) (by omega))).mono ?_
  rintro e w4 ⟨rfl, j4⟩
  have hE4 := drewExt j4
  clear j4
  rw [decide_eq_true rfl]
  go_wp2
  go_ret
  exact ⟨rfl, (((Ext.refl w).alloc _).alloc _ |>.alloc _).trans (hE1.trans ((((Ext.refl _).alloc _).alloc _).trans (hE3.trans (((Ext.refl _).alloc _).trans hE4))))⟩

theorem RunIs.first_is {xs : List Nat} {f n r : Int} (hf : 0 ≤ f) (h : RunIs xs f n 1 r) : FirstIs xs f n r := by
  rcases h with ⟨rfl, h⟩ | ⟨h1, h2, h3, h4⟩
  · refine .inl ⟨rfl, fun i h1 h2 h3 => ?_⟩
    have := h i h1 (by omega)
    rw [freeB_one] at this
    simpa using this
  · refine .inr ⟨h1, by omega, by omega, freeB_one.1 h3, fun i i1 i2 i3 => ?_⟩
    have := h4 i i1 i3
    rw [freeB_one] at this
    simpa using this
/-- So far: g behind one another are not there. -/
def RI (xs : List Nat) (f L i g : Int) : Prop :=
  (f ≤ i - g ∧ 0 ≤ g ∧ g < L) ∧ freeB xs (i - g) g ∧ (∀ s, f ≤ s → s + L ≤ i → ¬ freeB xs s L) ∧ (i - g = f ∨ hasI xs (i - g - 1) = true)
theorem RI.start {xs : List Nat} {f L : Int} (hL : 1 ≤ L) : RI xs f L f 0 :=
  ⟨⟨by omega, by omega, by omega⟩, fun k k1 k2 => by omega, fun s s1 s2 => by omega, .inl (by omega)⟩
theorem RI.has {xs : List Nat} {f L i g : Int} (hL : 1 ≤ L) (h : RI xs f L i g) (hh : hasI xs i = true) : RI xs f L (i + 1) 0 := by
  obtain ⟨⟨h1, h2, h3⟩, h4, h5, h6⟩ := h
  refine ⟨⟨by omega, by omega, by omega⟩, fun k k1 k2 => by omega, fun s s1 s2 hf => ?_, .inr (by rw [show i + 1 - 0 - 1 = i from by omega]; exact hh)⟩
  by_cases hs : s + L ≤ i
  · exact h5 s s1 hs hf
  · have := hf i (by omega) (by omega)
    rw [hh] at this; cases this
theorem RI.free {xs : List Nat} {f L i g : Int} (h : RI xs f L i g) (hh : hasI xs i = false) (hg : g + 1 < L) : RI xs f L (i + 1) (g + 1) := by
  obtain ⟨⟨h1, h2, h3⟩, h4, h5, h6⟩ := h
  refine ⟨⟨by omega, by omega, hg⟩, fun k k1 k2 => ?_, fun s s1 s2 hf => ?_, ?_⟩
  · by_cases hk : k = i
    · subst hk; exact hh
    · exact h4 k (by omega) (by omega)
  · by_cases hs : s + L ≤ i
    · exact h5 s s1 hs hf
    · rcases h6 with h6 | h6
      · omega
      · have := hf (i - g - 1) (by omega) (by omega)
        rw [h6] at this; cases this
  · rw [show i + 1 - (g + 1) = i - g from by omega]; exact h6
theorem RI.run {xs : List Nat} {f L i g N : Int} (h : RI xs f L i g) (hh : hasI xs i = false) (hg : g + 1 = L) (hN : i < N) : RunIs xs f N L (i - L + 1) := by
  obtain ⟨⟨h1, h2, h3⟩, h4, h5, h6⟩ := h
  refine .inr ⟨by omega, by omega, fun k k1 k2 => ?_, fun s s1 s2 => h5 s s1 (by omega)⟩
  by_cases hk : k = i
  · subst hk; exact hh
  · exact h4 k (by omega) (by omega)
theorem RI.none {xs : List Nat} {f L g N : Int} (h : RI xs f L N g) : RunIs xs f N L (-1) := .inl ⟨rfl, fun s s1 s2 => h.2.2.1 s s1 (by omega)⟩

set_option maxRecDepth 100000 in
set_option maxHeartbeats 1000000 in
theorem law_BitsRuns (w : World) (A : Option Addr) (n c : Nat) (xs : List Nat) (h : Sl w A n c (by8 xs)) (hb : Bytes xs) (f0 : Int) (_f1 : -9223372036854775808 ≤ f0) (_f2 : f0 ≤ 9223372036854775807) (l0 : Int) (_l1 : -9223372036854775808 ≤ l0) (_l2 : l0 ≤ 9223372036854775807) :
    Calls Try.prog 6 #[.slice A n c, .int .i64 f0, .int .i64 l0] w fun e w' => e = .returned (.bool true) ∧ Ext w w' := by
  have hl : xs.length = n := by have := h.len; rwa [by8_len] at this
  have hm : n ≤ 9223372036854775807 := Nat.le_trans h.nc h.cm
  have HL := hide hl
  clear _f1 _f2 _l1 _l2 hl
  by_cases l1 : (30 : Int) < n
  · go_enter Try.func6, Try.ntmps6
    go_wp2_with (go_at_call 34; refine (law3_awake _).mono ?_; rintro e w2 ⟨rfl, hE2⟩)
    go_ret
    exact ⟨rfl, hE2⟩
  have hR := fun F N L h1 h2 h3 h4 h5 h6 => bits_Run A n c xs F N L w h hb (by omega) h1 h2 h3 h4 h5 h6
  have hF := fun F N h1 h2 => bits_First A n c xs F N w h hb h1 h2
  have hH := fun i h2 => bits_Has A n c xs i w h hb h2
  go_enter Try.func6, Try.ntmps6
  go_wp2_with fail
  refine (Low f0 _ (8 * n + 1) _ (by omega) (by omega) (by omega)).mono ?_
  rintro e w1 ⟨rfl, rfl⟩
  have hp := low_lt f0 (n := 8 * n + 1) (by omega)
  generalize low f0 (8 * n + 1) = f at *
  go_wp2_with fail
  refine (Low l0 _ 20 _ rfl (by omega) (by omega)).mono ?_
  rintro e w1 ⟨rfl, rfl⟩
  have hq := low_lt l0 (n := 20) (by omega)
  generalize low l0 20 = q at *
  go_wp2_with fail
  refine (hR _ _ _ (by omega) (by omega) (by omega) (by omega) (by omega) (by omega)).mono ?_
  rintro e w1 ⟨⟨r, hr, rfl⟩, rfl⟩
  have HR := hide hr
  clear hr
  go_wp2
  obtain ⟨L, hLe⟩ : ∃ L : Int, L = 1 + (q : Int) := ⟨_, rfl⟩
  have HLE := hide hLe
  have hL1 : 1 ≤ L := by omega
  have hL2 : L ≤ 20 := by omega
  rw [← hLe] at HR ⊢
  clear hLe
  have haw := law3_awake w
  go_loop [9, 10] (fun g i => ∃ G I : Int, (f ≤ I ∧ I ≤ 8 * n ∧ 0 ≤ G ∧ G < L) ∧ g = .int .i64 G ∧ i = .int .i64 I ∧ Hid (RI xs f L I G)) (fun g i => 8 * n - (intOf i).toNat)
  case atStart => exact ⟨0, f, by omega, rfl, rfl, RI.start hL1⟩
  case round =>
    obtain ⟨G, I, ⟨i1, i2, i3, i4⟩, rfl, rfl, hI⟩ := hrel
    by_cases hlt : I < 8 * (n : Int)
    · go_wp2_with fail
      refine (hH _ (by omega)).mono ?_
      rintro e w1 ⟨rfl, rfl⟩
      rcases hh : hasI xs I with _ | _
      · by_cases hg : G + 1 < L
        · have HN := hide (hI.out.free hh hg)
          have e1 : (G + 1 == L) = false := by simp; omega
          clear hh
          go_wp2
          go_round
          case rel => exact ⟨G + 1, I + 1, by omega, rfl, rfl, HN⟩
          case measure => simp [intOf]; omega
        · have hgL : G + 1 = L := by omega
          have hr := HR.out.uniq (hI.out.run hh hgL hlt)
          have e2 : (r == I - L + 1) = true := by simp; omega
          have e3 : (G + 1 == L) = true := by simp; omega
          clear hh hgL hr
          go_wp2_with fail
          refine (hR _ _ _ (by omega) (by omega) (by omega) (by omega) (by omega) (by omega)).mono ?_
          rintro e w1 ⟨⟨r1, hr1, rfl⟩, rfl⟩
          have HR1 := hide (hr1.first_is (by omega))
          clear hr1
          go_wp2_with fail
          refine (bits_First_is A n c xs _ _ w h hb (by omega) (by omega) HR1.out).mono ?_
          rintro e w1 ⟨rfl, rfl⟩
          go_wp2_with fail
          refine (law3_awake _).mono ?_
          rintro e w2 ⟨rfl, hE2⟩
          go_wp2
          go_ret
          exact ⟨rfl, hE2⟩
      · have HN := hide (hI.out.has hL1 hh)
        have e1 : ((0 : Int) == L) = false := by simp; omega
        clear hh
        go_wp2
        go_round
        case rel => exact ⟨0, I + 1, by omega, rfl, rfl, HN⟩
        case measure => simp [intOf]; omega
    · have hIe : I = 8 * (n : Int) := by omega
      have hr := HR.out.uniq (hIe ▸ hI.out).none
      have e2 : (r == -1) = true := by simp; omega
      clear hIe hr
      go_wp2_with fail
      refine (hR _ _ _ (by omega) (by omega) (by omega) (by omega) (by omega) (by omega)).mono ?_
      rintro e w1 ⟨⟨r1, hr1, rfl⟩, rfl⟩
      have HR1 := hide (hr1.first_is (by omega))
      clear hr1
      go_wp2_with fail
      refine (bits_First_is A n c xs _ _ w h hb (by omega) (by omega) HR1.out).mono ?_
      rintro e w1 ⟨rfl, rfl⟩
      go_wp2_with fail
      refine (law3_awake _).mono ?_
      rintro e w2 ⟨rfl, hE2⟩
      go_wp2
      go_ret
      exact ⟨rfl, hE2⟩
end Go.Proofs.Ythbdnaogjmnagaa
