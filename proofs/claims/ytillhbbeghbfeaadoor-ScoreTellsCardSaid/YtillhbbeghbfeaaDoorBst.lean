/- The first place of the greatest of some numbers: plain law, and the contract of score.Best. -/
import Derived.Test.YtillhbbeghbfeaaDoorFlo
namespace Go.Proofs.YtillhbbeghbfeaaDoor
set_option linter.unusedVariables false
open Go.RowKit

theorem retI {k : IntKind} {a b : Int} (h : a = b) : Ending.returned (.int k a) = .returned (.int k b) := by rw [h]
def fl (xs : List Nat) : List Value := xs.map (Value.float .f64)
def Words (xs : List Nat) : Prop := ∀ x ∈ xs, x < 18446744073709551616
theorem fl_len (xs : List Nat) : (fl xs).length = xs.length := by simp [fl]
theorem fl_append (xs ys : List Nat) : fl (xs ++ ys) = fl xs ++ fl ys := by simp [fl]
theorem fl_one (xs : List Nat) : ∀ u ∈ fl xs, u.oneCell' = true := by
  intro u hu
  obtain ⟨_, _, rfl⟩ := List.mem_map.1 hu
  rfl
theorem fl_get {xs : List Nat} {k : Nat} {u : Value} (h : (fl xs)[k]? = some u) : ∃ x, xs[k]? = some x ∧ u = .float .f64 x := by
  simp only [fl, List.getElem?_map, Option.map_eq_some_iff] at h
  obtain ⟨x, h1, h2⟩ := h
  exact ⟨x, h1, h2.symm⟩
theorem Words.get {xs : List Nat} (h : Words xs) {k x : Nat} (hk : xs[k]? = some x) : x < 18446744073709551616 := h x (List.mem_of_getElem? hk)
theorem Words.append {xs ys : List Nat} (h : Words xs) (k : Words ys) : Words (xs ++ ys) := fun x hx => by
  rcases List.mem_append.1 hx with h1 | h1
  · exact h x h1
  · exact k x h1
theorem Words.nil : Words [] := fun x h => by simp at h
theorem Words.one {x : Nat} (h : x < 18446744073709551616) : Words [x] := fun y hy => by
  rw [List.mem_singleton] at hy; subst hy; exact h
theorem Sl.atF {w : World} {A : Option Addr} {n c : Nat} {xs : List Nat} (h : Sl w A n c (fl xs)) (hb : Words xs) {k : Nat} (hk : k < n) :
    ∃ b o x, A = some ⟨b, o, none⟩ ∧ Hid (xs[k]? = some x) ∧ w.cell? ⟨b, o + k, none⟩ = some (.float .f64 x) ∧ x < 18446744073709551616 := by
  obtain ⟨b, o, u, hA, hu, hc⟩ := h.at_ hk
  obtain ⟨x, hx, rfl⟩ := fl_get hu.out
  exact ⟨b, o, x, hA, hx, hc, hb.get hx⟩

/-- The place of what is no number. -/
def KN : Int := -2 * (vF 9223372036854775808 : Int) - 5
theorem KF_nan {x : Nat} : nanF x = true ↔ KF x = KN := by
  have := kF_low x
  unfold KF KN
  cases nanF x
  · simp; omega
  · simp
theorem KF_num {x : Nat} : nanF x = false ↔ KN < KF x := by
  have := kF_low x
  unfold KF KN
  cases nanF x
  · simp; omega
  · simp
theorem KF_low (x : Nat) : KN ≤ KF x := by
  rcases h : nanF x with _ | _
  · have := KF_num.1 h; omega
  · have := KF_nan.1 h; omega
theorem nanF_KF {x y : Nat} (h : KF x = KF y) : nanF x = nanF y := by
  rw [Bool.eq_iff_iff, KF_nan, KF_nan, h]

/-- The first place of the greatest of the first k. -/
def bestN (xs : List Nat) : Nat → Option Nat
  | 0 => none
  | k + 1 => match bestN xs k with
    | none => if nanF (xs.getD k 0) = true then none else some k
    | some b => if nanF (xs.getD k 0) = false ∧ lessF (xs.getD b 0) (xs.getD k 0) = true then some k else some b
def bI : Option Nat → Int
  | none => -1
  | some b => b
def bestF (xs : List Nat) : Int := bI (bestN xs xs.length)
def NoneIs (xs : List Nat) (k : Nat) : Prop := ∀ i, i < k → nanF (xs.getD i 0) = true
def BestIs (xs : List Nat) (k b : Nat) : Prop := b < k ∧ nanF (xs.getD b 0) = false ∧ (∀ i, i < k → KF (xs.getD i 0) ≤ KF (xs.getD b 0)) ∧ ∀ i, i < b → KF (xs.getD i 0) < KF (xs.getD b 0)
theorem BestIs.uniq {xs : List Nat} {k b c : Nat} (h : BestIs xs k b) (g : BestIs xs k c) : b = c := by
  obtain ⟨h1, h2, h3, h4⟩ := h
  obtain ⟨g1, g2, g3, g4⟩ := g
  rcases Nat.lt_trichotomy b c with hl | hl | hl
  · have a := g4 b hl; have b := h3 c g1; omega
  · exact hl
  · have a := h4 c hl; have b := g3 b h1; omega
theorem bestN_is (xs : List Nat) : ∀ k, (bestN xs k = none ∧ NoneIs xs k) ∨ ∃ b, bestN xs k = some b ∧ BestIs xs k b
  | 0 => .inl ⟨rfl, fun i h => by omega⟩
  | k + 1 => by
    unfold bestN
    rcases bestN_is xs k with ⟨h1, h2⟩ | ⟨b, h1, h2⟩
    · rw [h1]
      cases hn : nanF (xs.getD k 0)
      · refine .inr ⟨k, by simp, by omega, hn, fun i hi => ?_, fun i hi => ?_⟩
        · by_cases hik : i = k
          · rw [hik]; omega
          · have := KF_nan.1 (h2 i (by omega)); have := KF_low (xs.getD k 0); omega
        · have := KF_nan.1 (h2 i hi); have := KF_num.1 hn; omega
      · refine .inl ⟨by simp, fun i hi => ?_⟩
        by_cases hik : i = k
        · rw [hik]; exact hn
        · exact h2 i (by omega)
    · rw [h1]
      obtain ⟨g1, g2, g3, g4⟩ := h2
      simp only [lessF_KF, decide_eq_true_eq]
      by_cases hc : nanF (xs.getD k 0) = false ∧ KF (xs.getD b 0) < KF (xs.getD k 0)
      · rw [if_pos hc]
        refine .inr ⟨k, rfl, by omega, hc.1, fun i hi => ?_, fun i hi => ?_⟩
        · by_cases hik : i = k
          · rw [hik]; omega
          · have := g3 i (by omega); omega
        · have := g3 i hi; omega
      · rw [if_neg hc]
        refine .inr ⟨b, rfl, by omega, g2, fun i hi => ?_, g4⟩
        by_cases hik : i = k
        · rw [hik]
          by_cases hn : nanF (xs.getD k 0) = true
          · have := KF_nan.1 hn; have := KF_low (xs.getD b 0); omega
          · have hn' : nanF (xs.getD k 0) = false := by simpa using hn
            have : ¬ KF (xs.getD b 0) < KF (xs.getD k 0) := fun h => hc ⟨hn', h⟩
            omega
        · exact g3 i (by omega)
theorem bestF_none {xs : List Nat} (h : NoneIs xs xs.length) : bestF xs = -1 := by
  unfold bestF
  rcases bestN_is xs xs.length with ⟨h1, h2⟩ | ⟨b, h1, h2⟩
  · rw [h1]; rfl
  · have := h b h2.1; rw [h2.2.1] at this; cases this
theorem bestF_some {xs : List Nat} {b : Nat} (h : BestIs xs xs.length b) : bestF xs = b := by
  unfold bestF
  rcases bestN_is xs xs.length with ⟨h1, h2⟩ | ⟨c, h1, h2⟩
  · have := h2 b h.1; rw [h.2.1] at this; cases this
  · rw [h1, h2.uniq h]; rfl
theorem bestF_is (xs : List Nat) : (bestF xs = -1 ∧ NoneIs xs xs.length) ∨ ∃ b : Nat, bestF xs = b ∧ BestIs xs xs.length b := by
  rcases bestN_is xs xs.length with ⟨h1, h2⟩ | ⟨c, h1, h2⟩
  · exact .inl ⟨bestF_none h2, h2⟩
  · exact .inr ⟨c, bestF_some h2, h2⟩
theorem BestIs.lt {xs : List Nat} {k b : Nat} (h : BestIs xs k b) : b < k := h.1
/-- Words of the same places have the same best. -/
theorem bestF_congr {xs ys : List Nat} (hl : xs.length = ys.length) (h : ∀ i, i < xs.length → KF (xs.getD i 0) = KF (ys.getD i 0)) : bestF xs = bestF ys := by
  rcases bestF_is xs with ⟨h1, h2⟩ | ⟨b, h1, g1, g2, g3, g4⟩
  · rw [h1, bestF_none]
    intro i hi
    rw [← nanF_KF (h i (by omega))]
    exact h2 i (by omega)
  · rw [h1, bestF_some (b := b)]
    refine ⟨by omega, by rw [← nanF_KF (h b g1)]; exact g2, fun i hi => ?_, fun i hi => ?_⟩
    · rw [← h i (by omega), ← h b g1]; exact g3 i (by omega)
    · rw [← h i (by omega), ← h b g1]; exact g4 i hi
theorem getD_of {xs : List Nat} {k x : Nat} (h : xs[k]? = some x) : xs.getD k 0 = x := by rw [List.getD_eq_getElem?_getD, h]; rfl
theorem bestN_nan {xs : List Nat} {k x : Nat} (h : xs[k]? = some x) (hn : nanF x = true) : bestN xs (k + 1) = bestN xs k := by
  show (match bestN xs k with | none => _ | some b => _) = _
  rw [getD_of h, hn]
  cases bestN xs k <;> simp
theorem bestN_first {xs : List Nat} {k x : Nat} (h : xs[k]? = some x) (hn : nanF x = false) (hb : bestN xs k = none) : bestN xs (k + 1) = some k := by
  show (match bestN xs k with | none => _ | some b => _) = _
  rw [getD_of h, hn, hb]
  simp
theorem bestN_next {xs : List Nat} {k x b y : Nat} (h : xs[k]? = some x) (hn : nanF x = false) (hb : bestN xs k = some b) (hy : xs[b]? = some y) : bestN xs (k + 1) = if lessF y x = true then some k else some b := by
  show (match bestN xs k with | none => _ | some b => _) = _
  rw [getD_of h, hn, hb]
  show (if false = false ∧ lessF (xs.getD b 0) x = true then some k else some b) = _
  rw [getD_of hy]
  simp

set_option maxHeartbeats 1000000 in
theorem f_Best (A : Option Addr) (n c : Nat) (xs : List Nat) (w : World) (h : Sl w A n c (fl xs)) (hb : Words xs) :
    Calls Tryd.prog 27 #[.slice A n c] w fun e w' => e = .returned (.int .i64 (bestF xs)) ∧ w = w' := by
  have hl : xs.length = n := by have := h.len; rwa [fl_len] at this
  have hcm := h.cm
  have hnc := h.nc
  have HL := hide hl
  clear hl
  go_enter Tryd.func27, Tryd.ntmps27
  go_wp2_with fail
  go_loopw [3, 8] (fun b j wr => w = wr ∧ ∃ k : Nat, k ≤ n ∧ j = .int .i64 k ∧ ∃ r, b = .int .i64 r ∧ Hid (r = bI (bestN xs k))) (fun _ j _ => n - (intOf j).toNat)
  case atStart => exact ⟨rfl, 0, by omega, rfl, _, rfl, rfl⟩
  case round =>
    obtain ⟨rfl, k, hk, rfl, r, rfl, hr⟩ := hrel
    by_cases hlt : k < n
    · obtain ⟨b0, o0, x, hA, hx, hc, hx2⟩ := h.atF hb hlt
      subst hA
      rcases hbn : bestN xs k with _ | b
      · have hr1 := hr.out
        rw [hbn] at hr1
        obtain rfl : r = -1 := hr1
        have HB := hide hbn
        clear hbn hr
        cases hn : nanF x
        · have HS := hide (bestN_first hx.out hn HB.out)
          go_wp2_with (go_at_call 15; refine (f_IsNaN _ _).mono ?_; rintro e w' ⟨rfl, rfl⟩)
          go_roundw
          case rel => exact ⟨trivial, k + 1, by omega, by go_num, _, rfl, by rw [HS.out]; rfl⟩
          case measure => simp [intOf]; omega
        · have HS := hide (bestN_nan hx.out hn)
          go_wp2_with (go_at_call 15; refine (f_IsNaN _ _).mono ?_; rintro e w' ⟨rfl, rfl⟩)
          go_roundw
          case rel => exact ⟨trivial, k + 1, by omega, by go_num, _, rfl, by rw [HS.out, HB.out]; rfl⟩
          case measure => simp [intOf]; omega
      · have hbk : b < k := by
          rcases bestN_is xs k with ⟨h1, _⟩ | ⟨c, h1, h2⟩
          · rw [h1] at hbn; cases hbn
          · rw [h1] at hbn; cases hbn; exact h2.1
        have hr1 := hr.out
        rw [hbn] at hr1
        obtain rfl : r = (b : Int) := hr1
        obtain ⟨b1, o1, y, hA, hy, hcy, hy2⟩ := h.atF hb (k := b) (by omega)
        simp at hA
        obtain ⟨rfl, rfl⟩ := hA
        have HB := hide hbn
        clear hbn hr
        cases hn : nanF x
        · have hs := bestN_next hx.out hn HB.out hy.out
          cases hl : lessF y x
          · rw [hl] at hs
            have HS := hide hs
            clear hs
            go_wp2_with (first
              | (go_at_call 15; refine (f_IsNaN _ _).mono ?_; rintro e w' ⟨rfl, rfl⟩)
              | (go_at_call 12; refine (f_Less _ _ _ (by assumption) (by assumption)).mono ?_; rintro e w' ⟨rfl, rfl⟩))
            go_roundw
            case rel => exact ⟨trivial, k + 1, by omega, by go_num, _, rfl, by rw [HS.out]; rfl⟩
            case measure => simp [intOf]; omega
          · rw [hl] at hs
            have HS := hide hs
            clear hs
            go_wp2_with (first
              | (go_at_call 15; refine (f_IsNaN _ _).mono ?_; rintro e w' ⟨rfl, rfl⟩)
              | (go_at_call 12; refine (f_Less _ _ _ (by assumption) (by assumption)).mono ?_; rintro e w' ⟨rfl, rfl⟩))
            go_roundw
            case rel => exact ⟨trivial, k + 1, by omega, by go_num, _, rfl, by rw [HS.out]; rfl⟩
            case measure => simp [intOf]; omega
        · have HS := hide (bestN_nan hx.out hn)
          go_wp2_with (go_at_call 15; refine (f_IsNaN _ _).mono ?_; rintro e w' ⟨rfl, rfl⟩)
          go_roundw
          case rel => exact ⟨trivial, k + 1, by omega, by go_num, _, rfl, by rw [HS.out, HB.out]; rfl⟩
          case measure => simp [intOf]; omega
    · obtain rfl : k = n := by omega
      go_wp2_with fail
      go_ret
      exact ⟨retI (by unfold bestF; rw [HL.out, hr.out]), rfl⟩
end Go.Proofs.YtillhbbeghbfeaaDoor
