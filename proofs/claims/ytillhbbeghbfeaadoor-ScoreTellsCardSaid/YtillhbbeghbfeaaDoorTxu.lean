/- The walk of score.Text, at any number. -/
import Derived.Test.YtillhbbeghbfeaaDoorTxt
namespace Go.Proofs.YtillhbbeghbfeaaDoor
set_option linter.unusedVariables false
set_option linter.unusedSimpArgs false
open Go.RowKit
open Ieee

theorem ext_grow (w : World) (k : Nat) (os : Array Obj) : Ext w (Go.Sort.grow (w.drewN k) os) :=
  ⟨rfl, rfl, rfl, by first | (simp [Go.Sort.grow]; done) | (simp [Go.Sort.grow]; omega), fun i hi => by
    show ((w.drewN k).heap ++ os)[i]? = _
    rw [Array.getElem?_append_left (by show i < w.heap.size; omega)]
    rfl⟩
/-- The sign of a text. -/
def sgnF (b : Bool) : ByteArray := if b = true then ⟨#[45]⟩ else ⟨#[43]⟩
/-- The text of a number. -/
def txtF (x : Nat) : ByteArray :=
  if nanF x = true then ⟨#[110, 97, 110]⟩ else if rungF x = fInf then sgnF (negF x) ++ ⟨#[105, 110, 102]⟩ else if 9007199254740992 ≤ intF (rungF x) then ⟨#[109, 97, 110, 121]⟩ else sgnF (negF x) ++ ⟨(Lib.itoa (intF (rungF x))).toArray⟩
theorem dec_size : ∀ (k N : Nat), 1 ≤ k → N < 10 ^ k → (Lib.decDigits N).length ≤ k
  | 0, N, h, _ => by omega
  | k + 1, N, _, h => by
    rw [Lib.decDigits]
    by_cases h10 : N < 10
    · rw [dif_pos h10]; simp
    · rw [dif_neg h10, List.length_append]
      by_cases hk : k = 0
      · subst hk; simp at h; omega
      · have := dec_size k (N / 10) (by omega) (by rw [Nat.pow_succ] at h; omega)
        simp only [List.length_singleton]
        omega
theorem itoa_size {N : Nat} (h : N < 9007199254740992) : (Lib.itoa (N : Int)).length ≤ 16 := by
  unfold Lib.itoa
  rw [if_neg (by omega), Int.toNat_natCast]
  exact dec_size 16 N (by omega) (by omega)
set_option maxHeartbeats 2000000 in
theorem f_TextW (x : Nat) (hx : x < 18446744073709551616) (w : World) (ht : TabW w) : Calls Tryd.prog 16 #[.float .f64 x] w fun e w' => e = .returned (.string (txtF x)) ∧ Ext w w' := by
  have S1 := f_Signbit x
  have A1 := f_AbsW x hx
  have I1 := f_IsInf0 x hx
  have N1 := f_IsNaN x
  cases hn : nanF x with
  | true =>
    have T1 := f_TruncN (rungF x) (by rw [nan_rung]; exact hn)
    have he : txtF x = ⟨#[110, 97, 110]⟩ := by unfold txtF; rw [if_pos hn]
    rw [he]
    rw [hn] at N1
    cases hs : negF x
    all_goals
      go_enter Tryd.func16, Tryd.ntmps16
      go_wp2_with (first
        | (go_at_call 15; refine (N1 _).mono ?_; rintro e w' ⟨rfl, rfl⟩)
        | (go_at_call 40; refine (S1 _ hx).mono ?_; rintro e w' ⟨rfl, rfl⟩)
        | (go_at_call 39; refine (A1 _).mono ?_; rintro e w' ⟨rfl, rfl⟩)
        | (go_at_call 41; refine (T1 _).mono ?_; rintro e w7 ⟨v7, rfl, hE7⟩))
      go_ret
      exact ⟨rfl, hE7⟩
  | false =>
    have hr := not_nan hn
    have T1 := f_TruncW (rungF x) hr
    rw [hn] at N1
    by_cases hi : rungF x = fInf
    · rw [decide_eq_true hi] at I1
      have he : txtF x = sgnF (negF x) ++ ⟨#[105, 110, 102]⟩ := by unfold txtF; rw [if_neg (by rw [hn]; decide), if_pos hi]
      rw [he]
      clear hi
      cases hs : negF x
      all_goals
        go_enter Tryd.func16, Tryd.ntmps16
        go_wp2_with (first
          | (go_at_call 15; refine (N1 _).mono ?_; rintro e w' ⟨rfl, rfl⟩)
          | (go_at_call 40; refine (S1 _ hx).mono ?_; rintro e w' ⟨rfl, rfl⟩)
          | (go_at_call 39; refine (A1 _).mono ?_; rintro e w' ⟨rfl, rfl⟩)
          | (go_at_call 14; refine (I1 _).mono ?_; rintro e w' ⟨rfl, rfl⟩)
          | (go_at_call 41; refine (T1 _).mono ?_; rintro e w7 ⟨rfl, rfl⟩))
        go_ret
        exact ⟨rfl, Ext.refl _⟩
    · rw [decide_eq_false hi] at I1
      have hlt : rungF x < fInf := by omega
      obtain ⟨N, hN⟩ : ∃ N, N = intF (rungF x) := ⟨_, rfl⟩
      have hc : cutF (rungF x) = wF N := by unfold cutF; rw [if_pos hlt, hN]
      rw [hc] at T1
      by_cases hb : 9007199254740992 ≤ N
      · have he : txtF x = ⟨#[109, 97, 110, 121]⟩ := by unfold txtF; rw [if_neg (by rw [hn]; decide), if_neg hi, ← hN, if_pos hb]
        rw [he]
        have hw := (wF_big N).2 hb
        rw [wF_53] at hw
        have o : FloatKind.f64.format.order (wF N) 4845873199050653696 = some .gt ∨ FloatKind.f64.format.order (wF N) 4845873199050653696 = some .eq := by
          rw [order_pos (wF_le N) (by have := fInf_eq; omega)]
          rcases Nat.lt_or_eq_of_le hw with h | h
          · exact Or.inl (by rw [Int.compare_eq_gt.2 (by omega)])
          · exact Or.inr (by rw [← h, Int.compare_eq_eq.2 rfl])
        have HF : Hid True := hide trivial
        clear hi hlt hN hc hb hw he hr
        cases hs : negF x <;> rcases o with o | o
        all_goals
          go_enter Tryd.func16, Tryd.ntmps16
          go_wp2_with (first
            | (go_at_call 15; refine (N1 _).mono ?_; rintro e w' ⟨rfl, rfl⟩)
            | (go_at_call 40; refine (S1 _ hx).mono ?_; rintro e w' ⟨rfl, rfl⟩)
            | (go_at_call 39; refine (A1 _).mono ?_; rintro e w' ⟨rfl, rfl⟩)
            | (go_at_call 14; refine (I1 _).mono ?_; rintro e w' ⟨rfl, rfl⟩)
            | (go_at_call 41; refine (T1 _).mono ?_; rintro e w7 ⟨rfl, rfl⟩))
          go_ret
          exact ⟨rfl, Ext.refl _⟩
      · have he : txtF x = sgnF (negF x) ++ ⟨(Lib.itoa (N : Int)).toArray⟩ := by unfold txtF; rw [if_neg (by rw [hn]; decide), if_neg hi, ← hN, if_neg hb]
        rw [he]
        have hN2 : N < 9007199254740992 := by omega
        have hw : wF N < 4845873199050653696 := by
          have := (not_congr (wF_big N)).2 hb
          rw [wF_53] at this
          omega
        have o : FloatKind.f64.format.order (wF N) 4845873199050653696 = some .lt := by
          rw [order_pos (wF_le N) (by have := fInf_eq; omega), Int.compare_eq_lt.2 (by omega)]
        have hcv := conv_whole hN2
        have HF := hide (Tryd.strconv_FormatInt_10 (N : Int) (by omega) (by omega) w ht)
        have hsz := itoa_size hN2
        obtain ⟨T, hT⟩ : ∃ T : ByteArray, T = ⟨(Lib.itoa (N : Int)).toArray⟩ := ⟨_, rfl⟩
        have hT2 : T.size ≤ 16 := by rw [hT]; simpa [ByteArray.size] using hsz
        rw [← hT] at HF ⊢
        clear hi hlt hN hc hb hw he hr hT hsz hN2
        have z1 : (⟨#[43]⟩ : ByteArray).size = 1 := rfl
        have z2 : (⟨#[45]⟩ : ByteArray).size = 1 := rfl
        have hap1 : ¬ 9223372036854775807 < (⟨#[43]⟩ : ByteArray).size + T.size := by omega
        have hap2 : ¬ 9223372036854775807 < (⟨#[45]⟩ : ByteArray).size + T.size := by omega
        have hap3 : ¬ 9223372036854775807 < 1 + T.size := by omega
        cases hs : negF x
        all_goals
          go_enter Tryd.func16, Tryd.ntmps16
          go_wp2_with (first
            | (go_at_call 15; refine (N1 _).mono ?_; rintro e w' ⟨rfl, rfl⟩)
            | (go_at_call 40; refine (S1 _ hx).mono ?_; rintro e w' ⟨rfl, rfl⟩)
            | (go_at_call 39; refine (A1 _).mono ?_; rintro e w' ⟨rfl, rfl⟩)
            | (go_at_call 14; refine (I1 _).mono ?_; rintro e w' ⟨rfl, rfl⟩)
            | (go_at_call 41; refine (T1 _).mono ?_; rintro e w7 ⟨rfl, rfl⟩)
            | (go_at_call 42; refine (HF.out).mono ?_; rintro e w7 ⟨rfl, q1, q2, rfl⟩))
          go_ret
          exact ⟨rfl, ext_grow _ _ _⟩
end Go.Proofs.YtillhbbeghbfeaaDoor
