/- Paths: a clean path has no empty parts, none of one or two dots; cleaned again it is the same. -/
import Derived.Test.YtngffmchjjpfbaaDoorPthX
namespace Go.Proofs.YtngffmchjjpfbaaDoor
set_option linter.unusedVariables false
open Go.RowKit

def sumL (ps : List L8) : Nat := (ps.map fun p => p.length + 1).sum
theorem sumL_cat (ps : List L8) : (catL ps).length = sumL ps := by
  induction ps with
  | nil => rfl
  | cons p ps ih =>
    have e : catL (p :: ps) = 47 :: (p ++ catL ps) := rfl
    rw [e]
    unfold sumL at *
    simp [ih]
    omega
theorem sumL_cons (p : L8) (ps : List L8) : sumL (p :: ps) = p.length + 1 + sumL ps := by simp [sumL]
theorem sumL_append (ps qs : List L8) : sumL (ps ++ qs) = sumL ps + sumL qs := by simp [sumL]
theorem sumL_take (ps : List L8) (n : Nat) : sumL (ps.take n) ≤ sumL ps := by
  have := sumL_append (ps.take n) (ps.drop n)
  rw [List.take_append_drop] at this
  omega
theorem sumL_filter (f : L8 → Bool) (ps : List L8) : sumL (ps.filter f) ≤ sumL ps := by
  induction ps with
  | nil => exact Nat.le_refl _
  | cons p ps ih =>
    rw [List.filter_cons, sumL_cons]
    split
    · rw [sumL_cons]; omega
    · omega
theorem sumL_spl (l : L8) : sumL (spl l) = l.length + 1 := by
  induction l with
  | nil => rfl
  | cons b l ih =>
    rw [spl_cons]
    split
    · rw [sumL_cons, ih]; simp; omega
    · cases h : spl l with
      | nil => exact absurd h (spl_ne l)
      | cons p ps =>
        rw [h, sumL_cons] at ih
        simp only [sumL_cons, List.length_cons]
        omega
theorem sumL_prt (l : L8) : sumL (prt l) ≤ l.length + 1 := by
  have := sumL_filter goodP (spl l)
  rw [sumL_spl] at this
  exact this
theorem sumL_step (ps : List L8) : ∀ out : List L8, sumL (ps.foldl stepC out) ≤ sumL out + sumL ps := by
  induction ps with
  | nil => intro out; simp [sumL]
  | cons p ps ih =>
    intro out
    rw [List.foldl_cons, sumL_cons]
    have h1 := ih (stepC out p)
    have h2 : sumL (stepC out p) ≤ sumL out + (p.length + 1) := by
      unfold stepC
      split
      · have := sumL_take out (out.length - 1); omega
      · rw [sumL_append, sumL_cons]; simp [sumL]
    omega
theorem sumL_clean (ps : List L8) : sumL (cleanP ps) ≤ sumL ps := by
  have := sumL_step ps []
  simpa [cleanP, sumL] using this
theorem prefix_cons {l : L8} (h : Lib.hasPrefix l [47] = true) : ∃ r, l = 47 :: r := by
  cases l with
  | nil => simp [Lib.hasPrefix] at h
  | cons a r =>
    unfold Lib.hasPrefix at h
    simp [List.isPrefixOf] at h
    exact ⟨r, by rw [h]⟩
theorem clean_mem {l p : L8} (h : p ∈ cleanP (prt l)) : p ∈ prt l ∧ p ≠ [46, 46] := by
  rcases cleanP_sub (prt l) [] p h with h2 | h2
  · simp at h2
  · exact h2
theorem clean_good (l : L8) : GoodPs (cleanP (prt l)) := fun p hp => prt_good l p (clean_mem hp).1
/-- What a path is that was split: it begins with a slash, holds no zero, and its parts are short. -/
theorem splE_zero {l : L8} (h : splE l = 0) : (∃ r, l = 47 :: r) ∧ l.contains 0 = false ∧ lngP (prt l) = false ∧ (prt l).length ≤ 20 ∧ l.length ≤ 200 := by
  unfold splE at h
  split at h
  case isFalse => cases h
  rename_i hm
  split at h
  case isFalse => cases h
  rename_i ho
  unfold mayP at hm
  unfold okPs at ho
  simp only [Bool.and_eq_true, Bool.not_eq_true', decide_eq_true_eq] at hm ho
  exact ⟨prefix_cons hm.1, hm.2, ho.1.1, ho.1.2, ho.2⟩
theorem splE_mk {r : L8} (h1 : (47 :: r : L8).contains 0 = false) (h2 : lngP (prt (47 :: r)) = false) (h3 : (prt (47 :: r)).length ≤ 20) (h4 : (47 :: r : L8).length ≤ 200) : splE (47 :: r) = 0 := by
  unfold splE mayP okPs
  rw [show Lib.hasPrefix (47 :: r) [47] = true from by simp [Lib.hasPrefix], h1, h2, decide_eq_true h3, decide_eq_true h4]
  rfl
theorem joinL_mem {ps : List L8} {x : UInt8} (h : x ∈ joinL ps) : x = 47 ∨ ∃ p ∈ ps, x ∈ p := by
  cases ps with
  | nil => exact .inl (by simpa [joinL_nil] using h)
  | cons q qs =>
    rw [joinL_cat (by simp)] at h
    unfold catL at h
    rw [List.mem_flatMap] at h
    obtain ⟨p, hp, hx⟩ := h
    rcases List.mem_cons.1 hx with h | h
    · exact .inl h
    · exact .inr ⟨p, hp, h⟩
theorem joinL_leng (ps : List L8) : (joinL ps).length ≤ max 1 (sumL ps) := by
  cases ps with
  | nil => exact Nat.le_refl _
  | cons q qs =>
    rw [joinL_cat (by simp), sumL_cat]
    omega
/-- What a clean path is. -/
theorem clean_tells (l : L8) :
    (splE l ≠ 0 ∧ clnS l = [] ∧ splPs l = []) ∨
    (splE l = 0 ∧ splE (clnS l) = 0 ∧ clnS (clnS l) = clnS l ∧ joinL (splPs (clnS l)) = clnS l ∧ (splPs (clnS l)).length ≤ (splPs l).length ∧ ∀ p ∈ splPs (clnS l), (p == []) = false ∧ (p == [46]) = false ∧ (p == [46, 46]) = false ∧ ¬ 24 < p.length) := by
  by_cases h0 : splE l = 0
  · refine .inr ⟨h0, ?_⟩
    have hC : clnS l = joinL (cleanP (prt l)) := by unfold clnS; rw [if_pos h0]
    have hP : splPs l = prt l := by unfold splPs; rw [if_pos h0]
    obtain ⟨⟨r, hr⟩, hz, hg, h20, h200⟩ := splE_zero h0
    have hK : prt (clnS l) = cleanP (prt l) := by rw [hC]; exact prt_joinL (clean_good l)
    have hl20 : (cleanP (prt l)).length ≤ (prt l).length := by have := cleanP_len (prt l) []; simpa [cleanP] using this
    have hsum : sumL (prt l) ≤ 200 := by
      have h1 := sumL_prt r
      have h2 : prt l = prt r := by rw [hr, prt_slash]
      rw [h2]
      rw [hr] at h200
      simp at h200
      omega
    have hE : splE (clnS l) = 0 := by
      have h1 : clnS l = 47 :: Lib.join (cleanP (prt l)) [47] := hC
      rw [h1]
      refine splE_mk ?_ ?_ ?_ ?_
      · rw [← h1, hC]
        cases hb : (joinL (cleanP (prt l))).contains 0 with
        | false => rfl
        | true =>
          have hx : (0 : UInt8) ∈ joinL (cleanP (prt l)) := by simpa using hb
          rcases joinL_mem hx with h | ⟨p, hp, h⟩
          · exact absurd h (by decide)
          · have := (prt_pieces p (clean_mem hp).1).2.2 0 h
            have : l.contains 0 = true := by simpa using this
            rw [hz] at this
            cases this
      · rw [← h1, hK]
        unfold lngP at *
        rw [List.any_eq_false] at *
        exact fun p hp => hg p (clean_mem hp).1
      · rw [← h1, hK]
        omega
      · rw [← h1, hC]
        have := joinL_leng (cleanP (prt l))
        have := sumL_clean (prt l)
        omega
    have hQ : splPs (clnS l) = cleanP (prt l) := by unfold splPs; rw [if_pos hE, hK]
    refine ⟨hE, ?_, ?_, ?_, ?_⟩
    · have : clnS (clnS l) = joinL (cleanP (prt (clnS l))) := by rw [clnS, if_pos hE]
      rw [this, hK, cleanP_idem, hC]
    · rw [hQ, hC]
    · rw [hQ, hP]; exact hl20
    · intro p hp
      rw [hQ] at hp
      obtain ⟨h1, h2⟩ := clean_mem hp
      have h3 := (prt_pieces p h1).2.1
      have h4 : ¬ 24 < p.length := by
        unfold lngP at hg
        rw [List.any_eq_false] at hg
        have := hg p h1
        simpa using this
      unfold goodP at h3
      simp only [Bool.and_eq_true, Bool.not_eq_true'] at h3
      refine ⟨?_, h3.2, by simpa using h2, h4⟩
      cases p with
      | nil => cases h3.1
      | cons _ _ => rfl
  · refine .inl ⟨h0, ?_, ?_⟩
    · unfold clnS; rw [if_neg h0]
    · unfold splPs; rw [if_neg h0]
set_option maxHeartbeats 2000000 in
theorem law_PathClean (w : World) (s : ByteArray) (hs : s.size ≤ maxLen) : Calls Tryd.prog 4 #[.string s] w fun e w' => e = .returned (.bool true) ∧ Ext w w' := by
  by_cases h4 : (250 : Int) < (s.size : Int)
  · go_enter Tryd.func4, Tryd.ntmps4
    go_wp2_with fail
    refine (law12_awake _).mono ?_
    rintro e w1 ⟨rfl, hE1⟩
    go_wp2_with fail
    go_ret
    exact ⟨rfl, hE1⟩
  · have hsz : s.size ≤ 1000000 := by omega
    have x1 := fun w => path_Clean s w hsz
    have x2 := fun w => path_Split s w hsz
    rcases clean_tells s.data.toList with ⟨h0, hC, hP⟩ | ⟨h0, hE, hCC, hJ, hle, hq⟩
    · rw [hC] at x1
      rw [hP] at x2
      generalize splE s.data.toList = E at *
      have he0 : ((E : Int) != 0) = true := by simp; omega
      have hee : ((E : Int) != (E : Int)) = false := by simp
      obtain ⟨c, hc⟩ : ∃ c, toB [] = c := ⟨_, rfl⟩
      have hnil : c.toList = [] := by rw [← hc, toB_list]
      have hem : c.toList.isEmpty = true := by rw [hnil]; rfl
      rw [hc] at x1
      have H1 := hide x1
      have H2 := hide x2
      clear x1 x2 h0 hC hP hc
      go_enter Tryd.func4, Tryd.ntmps4
      go_wp2_with fail
      refine (H1.out _).mono ?_
      rintro e w1 ⟨rfl, hE1⟩
      go_wp2_with fail
      refine (H2.out _).mono ?_
      rintro e w2 ⟨A2, n2, k2, rfl, hn2, hO2, hE2⟩
      obtain rfl : n2 = 0 := by have := hO2.len; rw [vT_len, mB_len] at this; exact this.symm
      go_wp2_with fail
      refine (law12_awake _).mono ?_
      rintro e w3 ⟨rfl, hE3⟩
      go_wp2_with fail
      go_ret
      exact ⟨rfl, hE1.trans (hE2.trans hE3)⟩
    · have hC200 := (splE_zero hE).2.2.2.2
      have hQ20 := splPs_len (clnS s.data.toList)
      have x3 := fun w => path_Split (toB (clnS s.data.toList)) w (by rw [toB_size]; omega)
      have x4 := fun w => path_Clean (toB (clnS s.data.toList)) w (by rw [toB_size]; omega)
      rw [toB_data, hE] at x3 x4
      rw [hCC] at x4
      rw [h0] at x1 x2
      generalize splPs s.data.toList = P at *
      generalize splPs (clnS s.data.toList) = Q at *
      have x5 := fun A n c w h => path_Join Q A n c w h (by rw [hJ]; omega)
      rw [hJ] at x5
      generalize toB (clnS s.data.toList) = c at *
      clear h0 hE hCC hJ hC200
      have H1 := hide x1
      have H2 := hide x2
      have H3 := hide x3
      have H4 := hide x4
      have H5 := hide x5
      have HQ := hide hq
      have HL := hide hle
      clear x1 x2 x3 x4 x5 hq hle hQ20
      go_enter Tryd.func4, Tryd.ntmps4
      go_wp2_with fail
      refine (H1.out _).mono ?_
      rintro e w1 ⟨rfl, hE1⟩
      go_wp2_with fail
      refine (H2.out _).mono ?_
      rintro e w2 ⟨A2, n2, k2, rfl, hn2, hO2, hE2⟩
      go_wp2_with fail
      refine (H3.out _).mono ?_
      rintro e w3 ⟨A3, n3, k3, rfl, hn3, hO3, hE3⟩
      go_wp2_with fail
      refine (H4.out _).mono ?_
      rintro e w4 ⟨rfl, hE4⟩
      obtain rfl : n3 = Q.length := by have := hO3.len; rw [vT_len, mB_len] at this; exact this.symm
      obtain rfl : n2 = P.length := by have := hO2.len; rw [vT_len, mB_len] at this; exact this.symm
      have hle : (Q.length : Int) ≤ (P.length : Int) := by have := HL.out; omega
      have hD4 := hE1.trans (hE2.trans (hE3.trans hE4))
      have hS3 := hO3.sl.ext hE4
      go_wp2_with fail
      go_loopw [11] (fun i wr => ∃ k : Nat, k ≤ Q.length ∧ i = .int .i64 k ∧ wr = w4) (fun i _ => Q.length - (intOf i).toNat)
      case atStart => exact ⟨0, by omega, rfl, rfl⟩
      case round =>
        obtain ⟨k, hk, rfl, rfl⟩ := hrel
        by_cases hlt : k < Q.length
        · have hlt' : (k : Int) < (Q.length : Int) := by omega
          obtain ⟨b, o, x, rfl, hx, hc⟩ := hS3.atT hlt
          obtain ⟨p, hp⟩ : ∃ p, Q[k]? = some p := ⟨_, List.getElem?_eq_getElem hlt⟩
          have hxp : x = toB p := by
            have := hx.out
            unfold mB at this
            rw [List.getElem?_map, hp] at this
            simpa using this.symm
          have hxl : x.toList = p := by rw [hxp, toB_list]
          obtain ⟨q1, q2, q3, q4⟩ := HQ.out p (List.mem_of_getElem? hp)
          have e1 : x.toList.isEmpty = false := by rw [hxl]; cases p with | nil => cases q1 | cons _ _ => rfl
          have e2 : (x.toList == [46]) = false := by rw [hxl]; exact q2
          have e3 : (x.toList == [46, 46]) = false := by rw [hxl]; exact q3
          have e4 : ¬ (24 : Int) < (x.size : Int) := by rw [hxp, toB_size]; omega
          clear hxp hxl hp hx q1 q2 q3 q4
          go_wp2_with fail
          go_roundw
          case rel => exact ⟨k + 1, by omega, by go_num, trivial⟩
          case measure => simp [intOf]; omega
        · obtain rfl : k = Q.length := by omega
          go_wp2_with fail
          refine (H5.out _ _ _ _ hS3).mono ?_
          rintro e w5 ⟨rfl, hE5⟩
          go_wp2_with fail
          refine (law12_awake _).mono ?_
          rintro e w6 ⟨rfl, hE6⟩
          go_wp2_with fail
          go_ret
          exact ⟨rfl, hD4.trans (hE5.trans hE6)⟩
end Go.Proofs.YtngffmchjjpfbaaDoor
