/- Records: what was laid is read again. -/
import Derived.Test.YtngffmchjjpfbaaRecS
import Derived.Test.YtngffmchjjpfbaaSum
namespace Go.Proofs.Ytngffmchjjpfbaa
set_option linter.unusedVariables false
open Go.RowKit

theorem strN_strL (s : ByteArray) : strN (strL s) = s := by
  apply ByteArray.ext
  apply Array.ext'
  show (strL s).map UInt8.ofNat = _
  unfold strL
  rw [List.map_map]
  conv => rhs; rw [← List.map_id s.data.toList]
  apply List.map_congr_left
  intro a _
  simp
theorem getD_append_right' (a b : List Nat) (k n : Nat) (h : a.length = n) : (a ++ b).getD (n + k) 0 = b.getD k 0 := by
  subst h
  simp [List.getD_eq_getElem?_getD, List.getElem?_append_right]
/-- A name behind some bytes. -/
theorem nmL_at (a c : List Nat) (s : ByteArray) (n : Nat) (h : a.length = n) (hs : s.size ≤ 24) : nmL (a ++ (nmB s ++ c)) n = strL s := by
  have e0 : (a ++ (nmB s ++ c)).getD n 0 = s.size := by
    have := getD_append_right' a (nmB s ++ c) 0 n h
    rw [Nat.add_zero] at this
    rw [this]
    rfl
  unfold nmL
  rw [e0, show min s.size 24 = s.size from by omega]
  subst h
  rw [← List.drop_drop, List.drop_append_of_le_length (Nat.le_refl _), List.drop_of_length_le (Nat.le_refl _), List.nil_append]
  unfold nmB
  rw [List.cons_append, List.drop_succ_cons, List.drop_zero, List.append_assoc, List.take_append_of_le_length (by rw [strL_len]; omega), List.take_of_length_le (by rw [strL_len]; omega)]
theorem wd_back {x : Int} (h0 : 0 ≤ x) (h1 : x ≤ 65535) : ((x.toNat / 256 % 256 * 256 + x.toNat % 256 : Nat) : Int) = x := by omega
theorem rdR_lay {r : Rec} (h : mayR r = true) : rdR (padTo 123 (recB r)) = r := by
  obtain ⟨⟨hf, ht, hi, ho⟩, h1, h2⟩ := mayR_small h
  obtain ⟨on, f, t, i, o, a, b⟩ := r
  have hh : (hdR (on, f, t, i, o, a, b)).length = 9 := by simp [hdR, wd2]
  have e : padTo 123 (recB (on, f, t, i, o, a, b)) = hdR (on, f, t, i, o, a, b) ++ (nmB a ++ (nmB b ++ List.replicate (123 - 59) 0)) := by
    unfold padTo
    rw [recB_len h]
    simp [recB]
  have e2 : padTo 123 (recB (on, f, t, i, o, a, b)) = (hdR (on, f, t, i, o, a, b) ++ nmB a) ++ (nmB b ++ List.replicate (123 - 59) 0) := by rw [e]; simp
  have n1 := nmL_at (hdR (on, f, t, i, o, a, b)) (nmB b ++ List.replicate (123 - 59) 0) a 9 hh h1
  have n2 := nmL_at (hdR (on, f, t, i, o, a, b) ++ nmB a) (List.replicate (123 - 59) 0) b 34 (by rw [List.length_append, hh, nmB_len h1]) h2
  rw [← e] at n1
  rw [← e2] at n2
  unfold rdR
  rw [n1, n2, strN_strL, strN_strL]
  have g : ∀ k, k < 9 → (padTo 123 (recB (on, f, t, i, o, a, b))).getD k 0 = (hdR (on, f, t, i, o, a, b)).getD k 0 := by
    intro k hk
    rw [e, List.getD_eq_getElem?_getD, List.getD_eq_getElem?_getD, List.getElem?_append_left (by omega)]
  unfold wN
  rw [g 0 (by omega), g 1 (by omega), g (1 + 1) (by omega), g 3 (by omega), g (3 + 1) (by omega), g 5 (by omega), g (5 + 1) (by omega), g 7 (by omega), g (7 + 1) (by omega)]
  have wf := wd_back hf.1 hf.2
  have wt := wd_back ht.1 ht.2
  have wi := wd_back hi.1 hi.2
  have wo := wd_back ho.1 ho.2
  refine Prod.ext ?_ (Prod.ext ?_ (Prod.ext ?_ (Prod.ext ?_ (Prod.ext ?_ rfl))))
  · cases on <;> simp [hdR]
  · exact wf
  · exact wt
  · exact wi
  · exact wo
theorem layRL_good {r : Rec} (h : mayR r = true) : layRL r = sealOf 82 (recB r) ∧ layRE r = 0 ∧ (layRL r).length = 128 := by
  have e : layRL r = sealOf 82 (recB r) := if_pos h
  exact ⟨e, if_pos h, by rw [e]; exact sealOf_len (by rw [recB_len h]; omega)⟩
theorem layRL_bad {r : Rec} (h : mayR r = false) : layRL r = [] ∧ layRE r = 2 := ⟨if_neg (by rw [h]; decide), if_neg (by rw [h]; decide)⟩
theorem readR_laid {r : Rec} (h : mayR r = true) : readRL (layRL r) = r ∧ readRE (layRL r) = 0 := by
  rw [(layRL_good h).1]
  have hl : (recB r).length ≤ 123 := by rw [recB_len h]; omega
  have hk := kindOf_sealOf (k := 82) hl (by omega)
  have hb : rdR (bodyOf (sealOf 82 (recB r))) = r := by rw [bodyOf_sealOf hl, rdR_lay h]
  have hok : rdOkR (sealOf 82 (recB r)) := ⟨hk, by rw [hb]; exact h, by rw [hb]⟩
  exact ⟨by rw [show readRL _ = rdR (bodyOf (sealOf 82 (recB r))) from if_pos hok, hb], if_pos hok⟩
theorem readR_no {b : List Nat} (h : kindOf b ≠ 82) : readRL b = zR ∧ readRE b = 3 := ⟨if_neg fun k => h k.1, if_neg fun k => h k.1⟩
theorem layRL_inj {r s : Rec} (h : mayR r = true) (k : mayR s = true) : layRL r = layRL s ↔ r = s := by
  constructor
  · intro e
    have e1 := (readR_laid h).1
    rw [e, (readR_laid k).1] at e1
    exact e1.symm
  · rintro rfl; rfl
theorem readR_nil : readRL [] = zR ∧ readRE [] = 3 := readR_no (by decide)
end Go.Proofs.Ytngffmchjjpfbaa
