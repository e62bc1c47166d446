/- Lines of operations: the document's numbers and digits. -/
import Derived.Test.YtmfenegkeiipnaaDoorSpB
namespace Go.Proofs.YtmfenegkeiipnaaDoor
set_option linter.unusedVariables false
set_option linter.unusedSimpArgs false
open Go.RowKit

theorem conv_digit (wr : World) (d : Nat) (z : Int) (hz : z = d) : (convert 22 9 (.slice (some ⟨wr.heap.size, 0, none⟩) 1 1)).run Tryd.prog (wr.alloc (.cells #[.int .u8 z] 5)) = .ok (.string ⟨#[UInt8.ofNat d]⟩) (wr.alloc (.cells #[.int .u8 z] 5)) := by
  subst hz
  have h := Sl.lit wr #[.int .u8 (d : Int)] 5 1 rfl (by omega) (by simp [Value.oneCell'])
  exact run_str (xs := [d]) 22 5 9 Tryd.underlying22 Tryd.underlying5 Tryd.underlying9 h
theorem cons_bytes' (b : UInt8) (l : List UInt8) : (⟨#[b]⟩ : ByteArray) ++ ⟨l.toArray⟩ = ⟨(b :: l).toArray⟩ := by
  apply ByteArray.ext
  apply Array.ext'
  simp
/-- Is a text empty? -/
def zS : Value → Nat
  | .string s => if s.size = 0 then 1 else 0
  | _ => 0
theorem zS_cons (b : UInt8) (l : List UInt8) : zS (.string (⟨#[b]⟩ ++ ⟨l.toArray⟩)) = 0 := by
  rw [cons_bytes']
  simp [zS, ByteArray.size]
theorem zS_full (b : UInt8) (l : List UInt8) : zS (.string ⟨(b :: l).toArray⟩) = 0 := by
  simp [zS, ByteArray.size]
theorem zS_nil : zS (.string ⟨#[]⟩) = 1 := rfl
def DigAt (N m : Nat) (l : List UInt8) : Prop := (l = [] ∧ m = N) ∨ (l ≠ [] ∧ m ≠ 0 ∧ Lib.decDigits N = Lib.decDigits m ++ l) ∨ (m = 0 ∧ l = Lib.decDigits N ∧ l ≠ [])
theorem DigAt.next {N m : Nat} {l : List UInt8} (h : Lib.decDigits N = Lib.decDigits m ++ l) : DigAt N (m / 10) (UInt8.ofNat (48 + m % 10) :: l) := by
  rw [Lib.decDigits.eq_1 m] at h
  by_cases h10 : m < 10
  · rw [dif_pos h10] at h
    refine Or.inr (Or.inr ⟨by omega, ?_, by simp⟩)
    rw [h, Nat.mod_eq_of_lt h10]
    rfl
  · rw [dif_neg h10] at h
    refine Or.inr (Or.inl ⟨by simp, by omega, ?_⟩)
    rw [h]
    simp
theorem dec_len : ∀ (k N : Nat), N < 10 ^ (k + 1) → (Lib.decDigits N).length ≤ k + 1
  | 0, N, h => by
    rw [Lib.decDigits, dif_pos (by simpa using h)]
    simp
  | k + 1, N, h => by
    rw [Lib.decDigits]
    split
    · simp
    · have := dec_len k (N / 10) (by rw [Nat.pow_succ] at h; omega)
      simp
      omega
set_option maxHeartbeats 2000000 in
theorem q_number (x : Int) (w : World) (hx : InR x) : Calls Tryd.prog 26 #[.int .i64 x] w fun e w' => e = .returned (.string (toB (Lib.itoa x))) ∧ Ext w w' := by
  obtain ⟨hx1, hx2⟩ := hx
  obtain ⟨N, hN⟩ : ∃ N, N = x.natAbs := ⟨_, rfl⟩
  obtain ⟨sg, hsg⟩ : ∃ sg : L8, sg = if x < 0 then [45] else [] := ⟨_, rfl⟩
  have hres : Lib.itoa x = sg ++ Lib.decDigits N := by
    rw [hsg, hN]
    unfold Lib.itoa
    split
    · rfl
    · rw [show x.toNat = x.natAbs by omega]; rfl
  have HD := hide (dec_len 19 N (by have : (10 : Nat) ^ 20 = 100000000000000000000 := by decide
                                    omega))
  have hNl : N ≤ 9223372036854775808 := by omega
  rw [hres]
  clear hres
  have hcase : (x < 0 ∧ sg = [45] ∧ (x : Int) = -(N : Int) ∧ 0 < N) ∨ (¬ x < 0 ∧ sg = [] ∧ x = (N : Int)) := by
    by_cases h : x < 0
    · exact Or.inl ⟨h, by rw [hsg, if_pos h], by omega, by omega⟩
    · exact Or.inr ⟨h, by rw [hsg, if_neg h], by omega⟩
  clear hsg hN
  rcases hcase with ⟨h0, hs, hxN, hN0⟩ | ⟨h0, hs, hxN⟩
  all_goals
    subst hs
  · have W1 : IntKind.u64.wrap x = ((18446744073709551616 - N : Nat) : Int) := by simp [IntKind.wrap, IntKind.bits, IntKind.signed]; omega
    have W2 : IntKind.u64.wrap (-((18446744073709551616 - N : Nat) : Int)) = (N : Int) := by simp [IntKind.wrap, IntKind.bits, IntKind.signed]; omega
    obtain ⟨M, hM⟩ : ∃ M, M = 18446744073709551616 - N := ⟨_, rfl⟩
    rw [← hM] at W1 W2
    clear hM hxN
    go_enter Tryd.func26, Tryd.ntmps26
    go_wp2_with fail
    go_loopw [3, 5] (fun vm vs wr => ∃ (m : Nat) (l : List UInt8), m ≤ N ∧ vm = .int .u64 m ∧ vs = .string ⟨l.toArray⟩ ∧ Ext w wr ∧ Hid (DigAt N m l ∧ l.length ≤ 20)) (fun vm vs _ => 2 * (intOf vm).toNat + zS vs)
    case atStart => exact ⟨N, [], by omega, rfl, rfl, Ext.refl w, Or.inl ⟨rfl, rfl⟩, by simp⟩
    case round =>
      obtain ⟨m, l, hm, rfl, rfl, hE, hl⟩ := hrel
      have hcs := conv_digit wr (48 + m % 10) (48 + (m : Int) % 10) (by simp)
      obtain ⟨b, hb⟩ : ∃ b, b = UInt8.ofNat (48 + m % 10) := ⟨_, rfl⟩
      rw [← hb] at hcs
      have hl16 := hl.out.2
      by_cases hm0 : m = 0
      · subst hm0
        rcases hl.out.1 with ⟨h1, h2⟩ | ⟨_, h2, _⟩ | ⟨_, h2, h3⟩
        · subst h1
          subst h2
          exact absurd hN0 (by omega)
        · exact absurd rfl h2
        · have hne : l ≠ [] := h3
          obtain ⟨T, hT⟩ : ∃ T : ByteArray, T = ⟨l.toArray⟩ := ⟨_, rfl⟩
          have hT2 : T.size ≤ 20 := by rw [hT]; simpa [ByteArray.size] using hl16
          have hTe : T.toList.isEmpty = false := by
            rw [hT, ByteArray.toList_mk]
            cases l with
            | nil => exact absurd rfl hne
            | cons => rfl
          have z2 : (⟨#[45]⟩ : ByteArray).size = 1 := rfl
          have z3 : (⟨#[]⟩ : ByteArray).size = 0 := rfl
          have hap2 : ¬ 9223372036854775807 < (⟨#[45]⟩ : ByteArray).size + T.size := by omega
          have hap1 : ¬ 9223372036854775807 < (⟨#[]⟩ : ByteArray).size + T.size := by omega
          have hap3 : ¬ 9223372036854775807 < 1 + T.size := by omega
          have hap4 : ¬ 9223372036854775807 < T.size := by omega
          rw [← hT]
          have HTT := hide (And.intro hT h2)
          clear hl hl16 hb hcs h2 h3 hne hT
          go_wp2_with fail
          go_ret
          refine ⟨?_, hE⟩
          rw [← HTT.out.2]
          have e := HTT.out.1
          rw [e]
          rfl
      · have i2 : (m : Int) > 0 := by omega
        have hdec : Lib.decDigits N = Lib.decDigits m ++ l := by
          rcases hl.out.1 with ⟨h1, h2⟩ | ⟨_, _, h3⟩ | ⟨h1, _⟩
          · rw [h1, h2]; simp
          · exact h3
          · exact absurd h1 hm0
        have hnx := DigAt.next hdec
        rw [← hb] at hnx
        have hnl : (b :: l).length ≤ 20 := by
          have h1 := HD.out
          rw [hdec] at h1
          have h2 : 1 ≤ (Lib.decDigits m).length := by
            rw [Lib.decDigits.eq_1 m]
            by_cases h10 : m < 10
            · rw [dif_pos h10]; simp
            · rw [dif_neg h10]; simp
          rw [List.length_append] at h1
          simp only [List.length_cons]
          omega
        have HN := hide (And.intro hnx hnl)
        obtain ⟨T, hT⟩ : ∃ T : ByteArray, T = ⟨l.toArray⟩ := ⟨_, rfl⟩
        have hT2 : T.size ≤ 20 := by rw [hT]; simpa [ByteArray.size] using hl16
        obtain ⟨B, hB⟩ : ∃ B : ByteArray, B = ⟨#[b]⟩ := ⟨_, rfl⟩
        have hB2 : B.size = 1 := by rw [hB]; rfl
        have hap : ¬ 9223372036854775807 < B.size + T.size := by omega
        have hcat : B ++ T = ⟨(b :: l).toArray⟩ := by rw [hB, hT]; exact cons_bytes' b l
        rw [← hB] at hcs
        rw [← hT]
        have HCat := hide hcat
        clear hdec hnx hnl hcat hl hl16 hb hT hB
        go_wp2_with fail
        refine ⟨⟨m / 10, b :: l, by omega, by simp, by rw [HCat.out], hE.alloc _, HN.out⟩, ?_⟩
        rw [HCat.out, zS_full]
        simp [intOf]
        omega
  · have W1 : IntKind.u64.wrap x = (N : Int) := by simp [IntKind.wrap, IntKind.bits, IntKind.signed]; omega
    clear hxN
    go_enter Tryd.func26, Tryd.ntmps26
    go_wp2_with fail
    go_loopw [3, 5] (fun vm vs wr => ∃ (m : Nat) (l : List UInt8), m ≤ N ∧ vm = .int .u64 m ∧ vs = .string ⟨l.toArray⟩ ∧ Ext w wr ∧ Hid (DigAt N m l ∧ l.length ≤ 20)) (fun vm vs _ => 2 * (intOf vm).toNat + zS vs)
    case atStart => exact ⟨N, [], by omega, rfl, rfl, Ext.refl w, Or.inl ⟨rfl, rfl⟩, by simp⟩
    case round =>
      obtain ⟨m, l, hm, rfl, rfl, hE, hl⟩ := hrel
      have hcs := conv_digit wr (48 + m % 10) (48 + (m : Int) % 10) (by simp)
      obtain ⟨b, hb⟩ : ∃ b, b = UInt8.ofNat (48 + m % 10) := ⟨_, rfl⟩
      rw [← hb] at hcs
      have hl16 := hl.out.2
      by_cases hm0 : m = 0
      · subst hm0
        rcases hl.out.1 with ⟨h1, h2⟩ | ⟨_, h2, _⟩ | ⟨_, h2, h3⟩
        · subst h1
          subst h2
          have hnx := DigAt.next (N := 0) (m := 0) (l := []) (by simp)
          rw [← hb] at hnx
          have HN := hide hnx
          have hcs2 := hcs
          simp only [Int.natCast_zero, Int.zero_emod, Int.add_zero] at hcs2
          clear hnx hl hl16 hb hcs
          go_wp2_with fail
          refine ⟨⟨0, [b], by omega, rfl, by rw [cons_bytes'], hE.alloc _, HN.out, by simp⟩, ?_⟩
          have h9 := zS_cons b []
          rw [show (⟨([] : List UInt8).toArray⟩ : ByteArray) = ⟨#[]⟩ from rfl] at h9
          rw [h9, zS_nil]
          simp [intOf]
        · exact absurd rfl h2
        · have hne : l ≠ [] := h3
          obtain ⟨T, hT⟩ : ∃ T : ByteArray, T = ⟨l.toArray⟩ := ⟨_, rfl⟩
          have hT2 : T.size ≤ 20 := by rw [hT]; simpa [ByteArray.size] using hl16
          have hTe : T.toList.isEmpty = false := by
            rw [hT, ByteArray.toList_mk]
            cases l with
            | nil => exact absurd rfl hne
            | cons => rfl
          have z2 : (⟨#[45]⟩ : ByteArray).size = 1 := rfl
          have z3 : (⟨#[]⟩ : ByteArray).size = 0 := rfl
          have hap2 : ¬ 9223372036854775807 < (⟨#[45]⟩ : ByteArray).size + T.size := by omega
          have hap1 : ¬ 9223372036854775807 < (⟨#[]⟩ : ByteArray).size + T.size := by omega
          have hap3 : ¬ 9223372036854775807 < 1 + T.size := by omega
          have hap4 : ¬ 9223372036854775807 < T.size := by omega
          rw [← hT]
          have HTT := hide (And.intro hT h2)
          clear hl hl16 hb hcs h2 h3 hne hT
          go_wp2_with fail
          go_ret
          refine ⟨?_, hE⟩
          rw [← HTT.out.2]
          have e := HTT.out.1
          rw [e]
          rfl
      · have i2 : (m : Int) > 0 := by omega
        have hdec : Lib.decDigits N = Lib.decDigits m ++ l := by
          rcases hl.out.1 with ⟨h1, h2⟩ | ⟨_, _, h3⟩ | ⟨h1, _⟩
          · rw [h1, h2]; simp
          · exact h3
          · exact absurd h1 hm0
        have hnx := DigAt.next hdec
        rw [← hb] at hnx
        have hnl : (b :: l).length ≤ 20 := by
          have h1 := HD.out
          rw [hdec] at h1
          have h2 : 1 ≤ (Lib.decDigits m).length := by
            rw [Lib.decDigits.eq_1 m]
            by_cases h10 : m < 10
            · rw [dif_pos h10]; simp
            · rw [dif_neg h10]; simp
          rw [List.length_append] at h1
          simp only [List.length_cons]
          omega
        have HN := hide (And.intro hnx hnl)
        obtain ⟨T, hT⟩ : ∃ T : ByteArray, T = ⟨l.toArray⟩ := ⟨_, rfl⟩
        have hT2 : T.size ≤ 20 := by rw [hT]; simpa [ByteArray.size] using hl16
        obtain ⟨B, hB⟩ : ∃ B : ByteArray, B = ⟨#[b]⟩ := ⟨_, rfl⟩
        have hB2 : B.size = 1 := by rw [hB]; rfl
        have hap : ¬ 9223372036854775807 < B.size + T.size := by omega
        have hcat : B ++ T = ⟨(b :: l).toArray⟩ := by rw [hB, hT]; exact cons_bytes' b l
        rw [← hB] at hcs
        rw [← hT]
        have HCat := hide hcat
        clear hdec hnx hnl hcat hl hl16 hb hT hB
        go_wp2_with fail
        refine ⟨⟨m / 10, b :: l, by omega, by simp, by rw [HCat.out], hE.alloc _, HN.out⟩, ?_⟩
        rw [HCat.out, zS_full]
        simp [intOf]
        omega
end Go.Proofs.YtmfenegkeiipnaaDoor
