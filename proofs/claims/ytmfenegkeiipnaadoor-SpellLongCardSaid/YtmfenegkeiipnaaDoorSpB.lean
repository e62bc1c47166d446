/- Lines of operations: the document's inner functions. -/
import Derived.Test.YtmfenegkeiipnaaDoorSpA
namespace Go.Proofs.YtmfenegkeiipnaaDoor
set_option linter.unusedVariables false
set_option linter.unusedSimpArgs false
open Go.RowKit

theorem toB_at {l : L8} {k : Nat} {b : UInt8} (hb : l[k]? = some b) (h : k < (toB l).size) : (toB l)[k]'h = b := by
  obtain ⟨h1, rfl⟩ := List.getElem?_eq_some_iff.1 hb
  show (toB l).data[k] = _
  unfold toB
  simp
theorem digV_lt (b : UInt8) : digV b < 16 := by
  unfold digV
  split
  · omega
  · split <;> omega
set_option maxHeartbeats 400000 in
theorem q_digit (b : UInt8) (w : World) : Calls Tryd.prog 35 #[.int .u8 (b.toNat : Nat)] w fun e w' => e = .returned (.int .u8 (digV b : Nat)) ∧ w = w' := by
  unfold digV
  have h256 := b.toNat_lt
  generalize b.toNat = x at *
  by_cases h1 : 48 ≤ x ∧ x ≤ 57
  · rw [if_pos h1]
    have a1 : (x : Int) ≥ 48 := by omega
    have a2 : (x : Int) ≤ 57 := by omega
    have W1 : IntKind.u8.wrap ((x : Int) - 48) = ((x - 48 : Nat) : Int) := by simp [IntKind.wrap, IntKind.bits, IntKind.signed]; omega
    have d1 : decide ((x : Int) ≥ 48) = true := by simpa using a1
    have d2 : decide ((x : Int) ≤ 57) = true := by simpa using a2
    go_enter Tryd.func35, Tryd.ntmps35
    go_wp2_with fail
    go_ret
    exact ⟨rfl, rfl⟩
  · rw [if_neg h1]
    by_cases h2 : 97 ≤ x ∧ x ≤ 102
    · rw [if_pos h2]
      have a1 : (x : Int) ≥ 97 := by omega
      have a2 : (x : Int) ≤ 102 := by omega
      have a3 : (x : Int) ≥ 48 := by omega
      have a4 : ¬ (x : Int) ≤ 57 := by omega
      go_enter Tryd.func35, Tryd.ntmps35
      go_wp2_with fail
      go_ret
      exact ⟨congrArg (fun z => Ending.returned (Value.int .u8 z)) (show (x : Int) - 97 + 10 = ((x - 87 : Nat) : Int) by omega), rfl⟩
    · rw [if_neg h2]
      have hor : ¬ (x : Int) ≥ 48 ∨ ¬ (x : Int) ≤ 57 := by omega
      have hor2 : ¬ (x : Int) ≥ 97 ∨ ¬ (x : Int) ≤ 102 := by omega
      clear h1 h2
      rcases hor with a | a <;> rcases hor2 with c | c
      all_goals
        by_cases e1 : (x : Int) ≥ 48 <;> by_cases e2 : (x : Int) ≥ 97
        all_goals first | (exfalso; omega) | skip
        all_goals
          go_enter Tryd.func35, Tryd.ntmps35
          go_wp2_with fail
          go_ret
          exact ⟨rfl, rfl⟩
set_option maxHeartbeats 400000 in
theorem q_words (w : World) : Calls Tryd.prog 21 #[] w fun e w' => e = .returned (.slice (some ⟨w.heap.size, 0, none⟩) 24 24) ∧ Sl w' (some ⟨w.heap.size, 0, none⟩) 24 24 (vT (mB wordsL)) ∧ Ext w w' := by
  go_enter Tryd.func21, Tryd.ntmps21
  go_wp2_with fail
  go_ret
  refine ⟨rfl, ?_, (Ext.refl w).alloc _⟩
  exact Sl.lit w _ 9 24 rfl (by omega) (by simp [Value.oneCell'])
theorem wrap64'_eq {v : Nat} (h : v < 18446744073709551616) : IntKind.i64.wrap (v : Int) = wrap64' v := by
  unfold wrap64'
  simp [IntKind.wrap, IntKind.bits, IntKind.signed]
  split <;> omega
theorem lenU_app : ∀ (a b : L8) (u : Nat), lenU u (a ++ b) = lenU (lenU u a) b
  | [], b, u => rfl
  | c :: a, b, u => by
    simp only [List.cons_append, lenU]
    split
    · exact lenU_app a b u
    · exact lenU_app a b _
theorem lenU_step {l : L8} {k : Nat} {b : UInt8} (hb : l[k]? = some b) : lenU 0 (l.take (k + 1)) = if b = 45 then lenU 0 (l.take k) else (lenU 0 (l.take k) * 10 + digV b) % 18446744073709551616 := by
  rw [List.take_add_one, hb, lenU_app]
  rfl
theorem neg_step {l : L8} {k : Nat} {b : UInt8} (hb : l[k]? = some b) : lenNeg (l.take (k + 1)) = (lenNeg (l.take k) || (b == 45)) := by
  unfold lenNeg
  rw [List.take_add_one, hb, Bool.eq_iff_iff, Bool.or_eq_true, List.contains_iff_mem, List.contains_iff_mem, List.mem_append, beq_iff_eq]
  have : (45 : UInt8) ∈ (some b).toList ↔ b = 45 := by
    show (45 : UInt8) ∈ [b] ↔ _
    rw [List.mem_singleton, eq_comm]
  rw [this]
set_option maxHeartbeats 1000000 in
theorem q_read (l : L8) (w : World) (hn : l.length ≤ 1000000) : Calls Tryd.prog 22 #[.string (toB l)] w fun e w' => e = .returned (.int .i64 (lenI l)) ∧ w = w' := by
  obtain ⟨n, hnl⟩ : ∃ n, n = l.length := ⟨_, rfl⟩
  have hsz := toB_size l
  obtain ⟨s, hs⟩ : ∃ s, s = toB l := ⟨_, rfl⟩
  rw [← hnl] at hsz hn
  rw [← hs] at hsz ⊢
  have HS := hide hs
  have HL := hide hnl
  clear hs hnl
  go_enter Tryd.func22, Tryd.ntmps22
  go_wp2_with fail
  go_loopw [3, 4, 5] (fun u g v wr => ∃ (k x : Nat) (b : Bool), k ≤ n ∧ v = .int .i64 k ∧ u = .int .u64 x ∧ g = .bool b ∧ wr = w ∧ Hid (x = lenU 0 (l.take k) ∧ b = lenNeg (l.take k))) (fun _ _ v _ => n - (intOf v).toNat)
  case atStart => exact ⟨0, 0, false, by omega, rfl, rfl, rfl, rfl, rfl, rfl⟩
  case round =>
    obtain ⟨k, x, g, hk, rfl, rfl, rfl, rfl, hX⟩ := hrel
    by_cases hlt : k < n
    · have i2 : (k : Int) < (n : Int) := by omega
      have i3 : k < n := hlt
      have hkl : k < l.length := by rw [← HL.out]; exact hlt
      obtain ⟨b, hb⟩ : ∃ b, l[k]? = some b := ⟨_, List.getElem?_eq_getElem hkl⟩
      have hat : ∀ h : k < s.size, s[k]'h = b := by
        have := HS.out
        subst this
        exact fun h => toB_at hb h
      have HB := hide hb
      clear hb hkl
      by_cases h45 : b = 45
      · subst h45
        have HR := hide (show x = lenU 0 (l.take (k + 1)) ∧ true = lenNeg (l.take (k + 1)) by
          rw [lenU_step HB.out, neg_step HB.out, if_pos rfl]
          exact ⟨hX.out.1, by simp⟩)
        clear hX
        go_wp2_with fail
        go_roundw
        case rel => exact ⟨k + 1, x, true, by omega, by go_num, by trivial, by trivial, by trivial, HR.out⟩
        case measure => simp [intOf]; omega
      · have hne : ¬ ((b.toNat : Int) = 45) := fun e => h45 (UInt8.toNat.inj (by have : b.toNat = 45 := by omega
                                                                                 exact this))
        have hd := q_digit b
        have hdl := digV_lt b
        obtain ⟨m, hm⟩ : ∃ m, m = (x * 10) % 18446744073709551616 := ⟨_, rfl⟩
        obtain ⟨v, hv⟩ : ∃ v, v = (m + digV b) % 18446744073709551616 := ⟨_, rfl⟩
        have W1 : IntKind.u64.wrap ((x : Int) * 10) = (m : Int) := by simp [IntKind.wrap, IntKind.bits, IntKind.signed]; omega
        have W2 : IntKind.u64.wrap ((m : Int) + ((digV b : Nat) : Int)) = (v : Int) := by simp [IntKind.wrap, IntKind.bits, IntKind.signed]; omega
        have HR := hide (show v = lenU 0 (l.take (k + 1)) ∧ g = lenNeg (l.take (k + 1)) by
          rw [lenU_step HB.out, neg_step HB.out, if_neg h45, ← hX.out.1, ← hX.out.2]
          refine ⟨by omega, ?_⟩
          have : (b == 45) = false := by simpa using h45
          rw [this, Bool.or_false])
        have HD := hide hd
        generalize digV b = d at *
        clear hX hv hm hd
        go_wp2_with fail
        refine (HD.out _).mono ?_
        rintro e w1 ⟨rfl, rfl⟩
        go_wp2_with fail
        go_roundw
        case rel => exact ⟨k + 1, v, g, by omega, by go_num, by trivial, by trivial, by trivial, HR.out⟩
        case measure => simp [intOf]; omega
    · obtain rfl : k = n := by omega
      have ht : l.take k = l := List.take_of_length_le (by rw [HL.out]; exact Nat.le_refl _)
      have hX2 := hX.out
      rw [ht] at hX2
      have hI := lenU_lt l 0 (by decide)
      have hres : lenI l = wrap64' (if g = true then (18446744073709551616 - x) % 18446744073709551616 else x) := by unfold lenI; rw [← hX2.1, ← hX2.2]
      have hxl : x < 18446744073709551616 := by rw [hX2.1]; exact hI
      have HRES := hide hres
      clear hX hX2 hI hres ht
      cases g with
      | true =>
        obtain ⟨v, hv⟩ : ∃ v, v = (18446744073709551616 - x) % 18446744073709551616 := ⟨_, rfl⟩
        have W1 : IntKind.u64.wrap (-(x : Int)) = (v : Int) := by simp [IntKind.wrap, IntKind.bits, IntKind.signed]; omega
        have W2 : IntKind.i64.wrap (v : Int) = wrap64' v := wrap64'_eq (by omega)
        have HV := hide hv
        clear hv
        go_wp2_with fail
        go_ret
        exact ⟨by rw [HRES.out]; simp only [if_true]; rw [← HV.out]; rfl, rfl⟩
      | false =>
        have W2 : IntKind.i64.wrap (x : Int) = wrap64' x := wrap64'_eq (by omega)
        go_wp2_with fail
        go_ret
        exact ⟨by rw [HRES.out]; simp only [Bool.false_eq_true, if_false]; rfl, rfl⟩
end Go.Proofs.YtmfenegkeiipnaaDoor
