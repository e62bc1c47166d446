/- The document's text of a number: the walk. -/
import Derived.Test.YtillhbbeghbfeaaDoorTen
namespace Go.Proofs.YtillhbbeghbfeaaDoor
set_option linter.unusedVariables false
set_option linter.unusedSimpArgs false
open Go.RowKit
open Ieee

theorem big_iff {r : Nat} (h : r < fInf) : 4845873199050653696 ≤ r ↔ 9007199254740992 ≤ intF r := by
  have hW : vF 4845873199050653696 = 9007199254740992 * 2 ^ pE := by
    rw [← wF_53, wF_rnd pE_eq, show 9007199254740992 * 2 ^ pE = 4503599627370496 * 2 ^ (pE + 1) by rw [Nat.pow_succ, Nat.mul_comm (2 ^ pE) 2, ← Nat.mul_assoc]]
    exact rndF_exact (by omega) (by rw [pE_eq]; omega)
  have h1 : 4845873199050653696 ≤ r ↔ vF 4845873199050653696 ≤ vF r := by
    constructor
    · intro hh
      rcases Nat.lt_or_eq_of_le hh with h2 | h2
      · exact Nat.le_of_lt (vF_mono h2)
      · rw [h2]; exact Nat.le_refl _
    · intro hh
      rcases Nat.lt_or_ge r 4845873199050653696 with h2 | h2
      · have := vF_mono h2; omega
      · exact h2
  rw [h1, hW]
  unfold intF
  exact (Nat.le_div_iff_mul_le (Nat.two_pow_pos pE)).symm
theorem conv_u64 {r : Nat} (h : r < fInf) (hi : intF r < 9007199254740992) (w : World) : (convert 24 38 (.float .f64 r)).run Tryd.prog w = .ok (.int .u64 (intF r : Nat)) w := by
  refine run_convert_float_int w 24 38 .f64 .u64 r (intF r : Nat) (by kernel_rfl) Tryd.underlying38 ?_
  unfold floatToIntVal
  have e : (FloatKind.f64.decode r).toInt .zero = some ((intF r : Nat) : Int) := by
    unfold Datum.toInt
    rw [show FloatKind.f64.decode r = double.read r from rfl, trunc_int h]
    show some (signed false (intF r) 0) = _
    unfold signed
    simp
  rw [e]
  have h1 : IntKind.u64.min = 0 := by decide
  have h2 : IntKind.u64.max = 18446744073709551615 := by decide
  rw [h1, h2]
  simp
  omega
theorem conv_digit (wr : World) (d : Nat) (z : Int) (hz : z = d) : (convert 61 9 (.slice (some ⟨wr.heap.size, 0, none⟩) 1 1)).run Tryd.prog (wr.alloc (.cells #[.int .u8 z] 5)) = .ok (.string ⟨#[UInt8.ofNat d]⟩) (wr.alloc (.cells #[.int .u8 z] 5)) := by
  subst hz
  have h := Sl.lit wr #[.int .u8 (d : Int)] 5 1 rfl (by omega) (by simp [Value.oneCell'])
  exact run_str (xs := [d]) 61 5 9 Tryd.underlying61 Tryd.underlying5 Tryd.underlying9 h
theorem cons_bytes' (b : UInt8) (l : List UInt8) : (⟨#[b]⟩ : ByteArray) ++ ⟨l.toArray⟩ = ⟨(b :: l).toArray⟩ := by
  apply ByteArray.ext
  apply Array.ext'
  simp
/-- Is a text empty? -/
def zS : Value → Nat
  | .string s => if s.size = 0 then 1 else 0
  | _ => 0
theorem zS_cons (b : UInt8) (l : List UInt8) : zS (.string (⟨#[b]⟩ ++ ⟨l.toArray⟩)) = 0 := by
  rw [cons_bytes']
  simp [zS, ByteArray.size]
theorem zS_full (b : UInt8) (l : List UInt8) : zS (.string ⟨(b :: l).toArray⟩) = 0 := by
  simp [zS, ByteArray.size]
theorem zS_nil : zS (.string ⟨#[]⟩) = 1 := rfl
def DigAt (N m : Nat) (l : List UInt8) : Prop := (l = [] ∧ m = N) ∨ (l ≠ [] ∧ m ≠ 0 ∧ Lib.decDigits N = Lib.decDigits m ++ l) ∨ (m = 0 ∧ l = Lib.decDigits N ∧ l ≠ [])
theorem DigAt.next {N m : Nat} {l : List UInt8} (h : Lib.decDigits N = Lib.decDigits m ++ l) : DigAt N (m / 10) (UInt8.ofNat (48 + m % 10) :: l) := by
  rw [Lib.decDigits.eq_1 m] at h
  by_cases h10 : m < 10
  · rw [dif_pos h10] at h
    refine Or.inr (Or.inr ⟨by omega, ?_, by simp⟩)
    rw [h, Nat.mod_eq_of_lt h10]
    rfl
  · rw [dif_neg h10] at h
    refine Or.inr (Or.inl ⟨by simp, by omega, ?_⟩)
    rw [h]
    simp
set_option maxHeartbeats 2000000 in
theorem ref1_Text (x : Nat) (hx : x < 18446744073709551616) (w : World) : Calls Tryd.prog 36 #[.float .f64 x] w fun e w' => e = .returned (.string (txtF x)) ∧ Ext w w' := by
  have S1 := f_Signbit x
  have A1 := f_AbsW x hx
  have I1 := f_IsInf0 x hx
  have N1 := f_IsNaN x
  cases hn : nanF x with
  | true =>
    have he : txtF x = ⟨#[110, 97, 110]⟩ := by unfold txtF; rw [if_pos hn]
    rw [he]
    rw [hn] at N1
    cases hs : negF x
    all_goals
      go_enter Tryd.func36, Tryd.ntmps36
      go_wp2_with (first
        | (go_at_call 15; refine (N1 _).mono ?_; rintro e w' ⟨rfl, rfl⟩)
        | (go_at_call 40; refine (S1 _ hx).mono ?_; rintro e w' ⟨rfl, rfl⟩)
        | (go_at_call 39; refine (A1 _).mono ?_; rintro e w' ⟨rfl, rfl⟩))
      go_ret
      exact ⟨rfl, Ext.refl _⟩
  | false =>
    have hr := not_nan hn
    rw [hn] at N1
    by_cases hi : rungF x = fInf
    · rw [decide_eq_true hi] at I1
      have he : txtF x = sgnF (negF x) ++ ⟨#[105, 110, 102]⟩ := by unfold txtF; rw [if_neg (by rw [hn]; decide), if_pos hi]
      rw [he]
      clear hi
      cases hs : negF x
      all_goals
        go_enter Tryd.func36, Tryd.ntmps36
        go_wp2_with (first
          | (go_at_call 15; refine (N1 _).mono ?_; rintro e w' ⟨rfl, rfl⟩)
          | (go_at_call 40; refine (S1 _ hx).mono ?_; rintro e w' ⟨rfl, rfl⟩)
          | (go_at_call 39; refine (A1 _).mono ?_; rintro e w' ⟨rfl, rfl⟩)
          | (go_at_call 14; refine (I1 _).mono ?_; rintro e w' ⟨rfl, rfl⟩))
        go_ret
        exact ⟨rfl, Ext.refl _⟩
    · rw [decide_eq_false hi] at I1
      have hlt : rungF x < fInf := by omega
      obtain ⟨N, hN⟩ : ∃ N, N = intF (rungF x) := ⟨_, rfl⟩
      have hbig := big_iff hlt
      rw [← hN] at hbig
      by_cases hb : 9007199254740992 ≤ N
      · have he : txtF x = ⟨#[109, 97, 110, 121]⟩ := by unfold txtF; rw [if_neg (by rw [hn]; decide), if_neg hi, ← hN, if_pos hb]
        rw [he]
        have hw := hbig.2 hb
        have o : FloatKind.f64.format.order (rungF x) 4845873199050653696 = some .gt ∨ FloatKind.f64.format.order (rungF x) 4845873199050653696 = some .eq := by
          rw [order_pos hr (by have := fInf_eq; omega)]
          rcases Nat.lt_or_eq_of_le hw with h | h
          · exact Or.inl (by rw [Int.compare_eq_gt.2 (by omega)])
          · exact Or.inr (by rw [← h, Int.compare_eq_eq.2 rfl])
        clear hi hlt hN hb hw he hr hbig
        cases hs : negF x <;> rcases o with o | o
        all_goals
          go_enter Tryd.func36, Tryd.ntmps36
          go_wp2_with (first
            | (go_at_call 15; refine (N1 _).mono ?_; rintro e w' ⟨rfl, rfl⟩)
            | (go_at_call 40; refine (S1 _ hx).mono ?_; rintro e w' ⟨rfl, rfl⟩)
            | (go_at_call 39; refine (A1 _).mono ?_; rintro e w' ⟨rfl, rfl⟩)
            | (go_at_call 14; refine (I1 _).mono ?_; rintro e w' ⟨rfl, rfl⟩))
          go_ret
          exact ⟨rfl, Ext.refl _⟩
      · have he : txtF x = sgnF (negF x) ++ ⟨(Lib.decDigits N).toArray⟩ := by
          unfold txtF
          rw [if_neg (by rw [hn]; decide), if_neg hi, ← hN, if_neg hb]
          unfold Lib.itoa
          rw [if_neg (by omega), Int.toNat_natCast]
        rw [he]
        have hN2 : N < 9007199254740992 := by omega
        have hw : rungF x < 4845873199050653696 := by omega
        have o : FloatKind.f64.format.order (rungF x) 4845873199050653696 = some .lt := by
          rw [order_pos hr (by have := fInf_eq; omega), Int.compare_eq_lt.2 (by omega)]
        have hcv := conv_u64 hlt (by omega)
        rw [← hN] at hcv
        have HD := hide (dec_size 16 N (by omega) (by omega))
        clear hi hlt hN hb hw he hr hbig
        cases hs : negF x
        all_goals
          go_enter Tryd.func36, Tryd.ntmps36
          go_wp2_with (first
            | (go_at_call 15; refine (N1 _).mono ?_; rintro e w' ⟨rfl, rfl⟩)
            | (go_at_call 40; refine (S1 _ hx).mono ?_; rintro e w' ⟨rfl, rfl⟩)
            | (go_at_call 39; refine (A1 _).mono ?_; rintro e w' ⟨rfl, rfl⟩)
            | (go_at_call 14; refine (I1 _).mono ?_; rintro e w' ⟨rfl, rfl⟩))
          go_loopw [5, 6] (fun vm vs wr => ∃ (m : Nat) (l : List UInt8), m ≤ N ∧ vm = .int .u64 m ∧ vs = .string ⟨l.toArray⟩ ∧ Ext w wr ∧ Hid (DigAt N m l ∧ l.length ≤ 16)) (fun vm vs _ => 2 * (intOf vm).toNat + zS vs)
          case atStart => exact ⟨N, [], by omega, rfl, rfl, Ext.refl w, Or.inl ⟨rfl, rfl⟩, by simp⟩
          case round =>
            obtain ⟨m, l, hm, rfl, rfl, hE, hl⟩ := hrel
            have hcs := conv_digit wr (48 + m % 10) (48 + (m : Int) % 10) (by simp)
            obtain ⟨b, hb⟩ : ∃ b, b = UInt8.ofNat (48 + m % 10) := ⟨_, rfl⟩
            rw [← hb] at hcs
            have hl16 := hl.out.2
            by_cases hm0 : m = 0
            · subst hm0
              rcases hl.out.1 with ⟨h1, h2⟩ | ⟨_, h2, _⟩ | ⟨_, h2, h3⟩
              · subst h1
                subst h2
                have hnx := DigAt.next (N := 0) (m := 0) (l := []) (by simp)
                rw [← hb] at hnx
                have HN := hide hnx
                have hcs2 := hcs
                simp only [Int.natCast_zero, Int.zero_emod, Int.add_zero] at hcs2
                clear hnx hl hl16 hb hcs
                go_wp2_with fail
                refine ⟨⟨0, [b], by omega, rfl, by rw [cons_bytes'], hE.alloc _, HN.out, by simp⟩, ?_⟩
                have h9 := zS_cons b []
                rw [show (⟨([] : List UInt8).toArray⟩ : ByteArray) = ⟨#[]⟩ from rfl] at h9
                rw [h9, zS_nil]
                simp [intOf]
              · exact absurd rfl h2
              · have hne : l ≠ [] := h3
                obtain ⟨T, hT⟩ : ∃ T : ByteArray, T = ⟨l.toArray⟩ := ⟨_, rfl⟩
                have hT2 : T.size ≤ 16 := by rw [hT]; simpa [ByteArray.size] using hl16
                have hTe : T.toList.isEmpty = false := by
                  rw [hT, ByteArray.toList_mk]
                  cases l with
                  | nil => exact absurd rfl hne
                  | cons => rfl
                have z1 : (⟨#[43]⟩ : ByteArray).size = 1 := rfl
                have z2 : (⟨#[45]⟩ : ByteArray).size = 1 := rfl
                have hap2 : ¬ 9223372036854775807 < (⟨#[45]⟩ : ByteArray).size + T.size := by omega
                have hap1 : ¬ 9223372036854775807 < (⟨#[43]⟩ : ByteArray).size + T.size := by omega
                have hap3 : ¬ 9223372036854775807 < 1 + T.size := by omega
                rw [← hT]
                have HTT := hide (And.intro hT h2)
                clear hl hl16 hb hcs h2 h3 hne hT
                go_wp2_with fail
                go_ret
                refine ⟨?_, hE⟩
                rw [← HTT.out.2, ← HTT.out.1]
                rfl
            · have i2 : (m : Int) > 0 := by omega
              have hdec : Lib.decDigits N = Lib.decDigits m ++ l := by
                rcases hl.out.1 with ⟨h1, h2⟩ | ⟨_, _, h3⟩ | ⟨h1, _⟩
                · rw [h1, h2]; simp
                · exact h3
                · exact absurd h1 hm0
              have hnx := DigAt.next hdec
              rw [← hb] at hnx
              have hnl : (b :: l).length ≤ 16 := by
                have h1 := HD.out
                rw [hdec] at h1
                have h2 : 1 ≤ (Lib.decDigits m).length := by
                  rw [Lib.decDigits.eq_1 m]
                  by_cases h10 : m < 10
                  · rw [dif_pos h10]; simp
                  · rw [dif_neg h10]; simp
                rw [List.length_append] at h1
                simp only [List.length_cons]
                omega
              have HN := hide (And.intro hnx hnl)
              obtain ⟨T, hT⟩ : ∃ T : ByteArray, T = ⟨l.toArray⟩ := ⟨_, rfl⟩
              have hT2 : T.size ≤ 16 := by rw [hT]; simpa [ByteArray.size] using hl16
              obtain ⟨B, hB⟩ : ∃ B : ByteArray, B = ⟨#[b]⟩ := ⟨_, rfl⟩
              have hB2 : B.size = 1 := by rw [hB]; rfl
              have hap : ¬ 9223372036854775807 < B.size + T.size := by omega
              have hcat : B ++ T = ⟨(b :: l).toArray⟩ := by rw [hB, hT]; exact cons_bytes' b l
              rw [← hB] at hcs
              rw [← hT]
              have HCat := hide hcat
              clear hdec hnx hnl hcat hl hl16 hb hT hB
              go_wp2_with fail
              refine ⟨⟨m / 10, b :: l, by omega, by simp, by rw [HCat.out], hE.alloc _, HN.out⟩, ?_⟩
              rw [HCat.out, zS_full]
              simp [intOf]
              omega
end Go.Proofs.YtillhbbeghbfeaaDoor
