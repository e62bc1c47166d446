/- Paths: the document's answer: Split, Join, Clean. -/
import Derived.Test.YtngffmchjjpfbaaDoorPthU
namespace Go.Proofs.YtngffmchjjpfbaaDoor
set_option linter.unusedVariables false
open Go.RowKit

theorem long_ok (l : L8) : (lngP (prt l) || decide (20 < (prt l).length)) = !(okPs l) := by
  unfold okPs
  by_cases h : (prt l).length ≤ 20
  · rw [decide_eq_true h, decide_eq_false (p := 20 < (prt l).length) (by omega)]
    cases lngP (prt l) <;> rfl
  · rw [decide_eq_false h, decide_eq_true (p := 20 < (prt l).length) (by omega)]
    cases lngP (prt l) <;> rfl
set_option maxHeartbeats 1000000 in
theorem ref12_Split (s : ByteArray) (w : World) (hs : s.size ≤ 1000000) : Calls Tryd.prog 10 #[.string s] w fun e w' =>
    ∃ A' n c, e = .returned (.tuple #[.slice A' n c, .int .i64 (splE s.data.toList : Nat)]) ∧ n ≤ 1000001 ∧ Own w' w.heap.size 9 A' n c (vT (mB (splPs s.data.toList))) ∧ Ext w w' := by
  have h2 := fun w => ref12_zero s w hs
  have h3 := fun w => ref12_parts s w hs
  have h4 := fun A n c w h => ref12_long (prt s.data.toList) A n c w h
  rw [long_ok] at h4
  have hl : s.data.toList.length = s.size := (Lib.size_eq s).symm
  have hE : splE s.data.toList = if mayP s.data.toList = true then (if (okPs s.data.toList && decide (s.data.toList.length ≤ 200)) = true then 0 else 11) else 2 := rfl
  have hPs : splPs s.data.toList = if splE s.data.toList = 0 then prt s.data.toList else [] := rfl
  have hm : mayP s.data.toList = (Lib.hasPrefix s.data.toList [47] && !(s.data.toList.contains 0)) := rfl
  have hfirst : (s.data.toList.isEmpty = true ∧ Lib.hasPrefix s.data.toList [47] = false) ∨ (s.data.toList.isEmpty = false ∧ ∃ h : 0 < s.size, Lib.hasPrefix s.data.toList [47] = (s[0]'h == 47)) := by
    by_cases h0 : 0 < s.size
    · refine .inr ⟨?_, h0, ?_⟩
      · cases h : s.data.toList with
        | nil => rw [h] at hl; simp at hl; omega
        | cons _ _ => rfl
      · have hx := Lib.data_getElem? s 0 h0
        cases h : s.data.toList with
        | nil => rw [h] at hl; simp at hl; omega
        | cons a r =>
          rw [h] at hx
          have ha : a = s[0]'h0 := by simpa using hx
          unfold Lib.hasPrefix
          rw [ha]
          simp [List.isPrefixOf]
          rw [Bool.eq_iff_iff]
          simp
          exact eq_comm
    · refine .inl ⟨?_, ?_⟩
      · have : s.data.toList = [] := List.eq_nil_of_length_eq_zero (by omega)
        rw [this]; rfl
      · have : s.data.toList = [] := List.eq_nil_of_length_eq_zero (by omega)
        rw [this]; rfl
  have hem : s.toList.isEmpty = s.data.toList.isEmpty := by rw [ByteArray.toList_eq]
  rw [hl] at hE
  obtain ⟨ok, hok⟩ : ∃ b, okPs s.data.toList = b := ⟨_, rfl⟩
  obtain ⟨hp, hhp⟩ : ∃ b, Lib.hasPrefix s.data.toList [47] = b := ⟨_, rfl⟩
  obtain ⟨z, hz⟩ : ∃ b, s.data.toList.contains 0 = b := ⟨_, rfl⟩
  obtain ⟨em, hem2⟩ : ∃ b, s.data.toList.isEmpty = b := ⟨_, rfl⟩
  rw [hok] at h4 hE
  rw [hhp] at hm hfirst
  rw [hz] at h2 hm
  rw [hem2] at hem hfirst
  have H2 := hide h2
  have H3 := hide h3
  have H4 := hide h4
  have HP := hide hPs
  have HC : (hp = false ∧ splE s.data.toList = 2) ∨ (hp = true ∧ z = true ∧ splE s.data.toList = 2) ∨ (hp = true ∧ z = false ∧ (200 : Int) < s.size ∧ splE s.data.toList = 11) ∨ (hp = true ∧ z = false ∧ ¬ (200 : Int) < s.size ∧ ok = false ∧ splE s.data.toList = 11) ∨ (hp = true ∧ z = false ∧ ¬ (200 : Int) < s.size ∧ ok = true ∧ splE s.data.toList = 0) := by
    rw [hE, hm]
    cases hp
    · exact .inl ⟨rfl, rfl⟩
    · cases z
      · by_cases h : (200 : Int) < s.size
        · exact .inr (.inr (.inl ⟨rfl, rfl, h, by rw [decide_eq_false (by omega)]; cases ok <;> rfl⟩))
        · cases ok
          · exact .inr (.inr (.inr (.inl ⟨rfl, rfl, h, rfl, rfl⟩)))
          · exact .inr (.inr (.inr (.inr ⟨rfl, rfl, h, rfl, by rw [decide_eq_true (by omega)]; rfl⟩)))
      · exact .inr (.inl ⟨rfl, rfl, rfl⟩)
  clear h2 h3 h4 hE hPs hm hl hok hhp hz hem2
  rcases hfirst with ⟨rfl, rfl⟩ | ⟨rfl, h0, hpx⟩
  · have hnil : s.toList = [] := by simpa using hem
    obtain ⟨_, he⟩ : True ∧ splE s.data.toList = 2 := by
      rcases HC with ⟨_, h⟩ | ⟨h, _⟩ | ⟨h, _⟩ | ⟨h, _⟩ | ⟨h, _⟩
      · exact ⟨trivial, h⟩
      all_goals cases h
    have HE := hide he
    clear he HC
    go_enter Tryd.func10, Tryd.ntmps10
    go_wp2_with fail
    go_ret2
    exact ⟨none, 0, 0, (by rw [HE.out]; try rfl), by omega, by rw [HP.out, HE.out]; exact Own.nilS _ _ _, Ext.refl _⟩
  · have h0' : (0 : Int) < (s.size : Int) := by omega
    obtain ⟨x, hx⟩ : ∃ x : UInt8, s[0]'h0 = x := ⟨_, rfl⟩
    rw [hx] at hpx
    rcases HC with ⟨rfl, he⟩ | ⟨rfl, rfl, he⟩ | ⟨rfl, rfl, hgt, he⟩ | ⟨rfl, rfl, hgt, rfl, he⟩ | ⟨rfl, rfl, hgt, rfl, he⟩
    case inl =>
      have k2 : ¬ (x.toNat : Int) = 47 := fun e => by
        have : x = 47 := UInt8.toNat_inj.1 (by show x.toNat = 47; omega)
        rw [this] at hpx; cases hpx
      have k4 : ((x.toNat : Int) != 47) = true := by simpa using k2
      have HE := hide he
      clear he hpx
      go_enter Tryd.func10, Tryd.ntmps10
      go_wp2_with fail
      go_ret2
      exact ⟨none, 0, 0, (by rw [HE.out]; try rfl), by omega, by rw [HP.out, HE.out]; exact Own.nilS _ _ _, Ext.refl _⟩
    all_goals
      have h47 : x = 47 := by simpa using hpx.symm
      subst h47
      have k1 : (((47 : UInt8).toNat : Int) == 47) = true := rfl
      have k3 : (((47 : UInt8).toNat : Int) != 47) = false := rfl
      have HE := hide he
      clear he hpx
      go_enter Tryd.func10, Tryd.ntmps10
    case inr.inl =>
      go_wp2_with (go_at_call 24; refine (H2.out _).mono ?_; rintro e w' ⟨rfl, rfl⟩)
      go_ret2
      exact ⟨none, 0, 0, (by rw [HE.out]; try rfl), by omega, by rw [HP.out, HE.out]; exact Own.nilS _ _ _, Ext.refl _⟩
    case inr.inr.inl =>
      go_wp2_with (go_at_call 24; refine (H2.out _).mono ?_; rintro e w' ⟨rfl, rfl⟩)
      go_ret2
      exact ⟨none, 0, 0, (by rw [HE.out]; try rfl), by omega, by rw [HP.out, HE.out]; exact Own.nilS _ _ _, Ext.refl _⟩
    case inr.inr.inr.inl =>
      go_wp2_with (go_at_call 24; refine (H2.out _).mono ?_; rintro e w' ⟨rfl, rfl⟩)
      refine (H3.out _).mono ?_
      rintro e w1 ⟨A1, n1, c1, rfl, hn1, hO1, hE1⟩
      go_wp2_with (go_at_call 25; refine (H4.out _ _ _ _ hO1.sl).mono ?_; rintro e w' ⟨rfl, rfl⟩)
      go_ret2
      exact ⟨none, 0, 0, (by rw [HE.out]; try rfl), by omega, by rw [HP.out, HE.out]; exact Own.nilS _ _ _, hE1⟩
    case inr.inr.inr.inr =>
      go_wp2_with (go_at_call 24; refine (H2.out _).mono ?_; rintro e w' ⟨rfl, rfl⟩)
      refine (H3.out _).mono ?_
      rintro e w1 ⟨A1, n1, c1, rfl, hn1, hO1, hE1⟩
      go_wp2_with (go_at_call 25; refine (H4.out _ _ _ _ hO1.sl).mono ?_; rintro e w' ⟨rfl, rfl⟩)
      refine (H3.out _).mono ?_
      rintro e w2 ⟨A2, n2, c2, rfl, hn2, hO2, hE2⟩
      go_wp2_with fail
      go_ret2
      exact ⟨A2, n2, c2, (by rw [HE.out]; try rfl), hn2, by rw [HP.out, HE.out, if_pos rfl]; exact hO2.low hE1.size, hE1.trans hE2⟩
set_option maxHeartbeats 1000000 in
theorem ref12_Join (ps : List L8) (M : Nat) (hM : ∀ p ∈ ps, p.length ≤ M) (A : Option Addr) (n c : Nat) (w : World) (h : Sl w A n c (vT (mB ps))) (hlen : ps.length * (M + 1) ≤ 100000000000000) : Calls Tryd.prog 27 #[.slice A n c] w fun e w' => e = .returned (.string (toB (joinL ps))) ∧ Ext w w' := by
  have hn : n = ps.length := by have := h.len; rw [vT_len, mB_len] at this; exact this.symm
  have hnm : n ≤ 9223372036854775807 := Nat.le_trans h.nc h.cm
  have HN := hide hn
  have hcat : ∀ k, (catL (ps.take k)).length ≤ 100000000000000 := fun k => by
    have h1 := catL_len M (ps.take k) (fun p hp => hM p (List.mem_of_mem_take hp))
    have h2 : (ps.take k).length * (M + 1) ≤ ps.length * (M + 1) := Nat.mul_le_mul_right _ (by rw [List.length_take]; omega)
    omega
  have hcat2 : ∀ k p, ps[k]? = some p → (catL (ps.take k)).length + 1 + p.length ≤ 100000000000000 := fun k p hp => by
    have h1 := hcat (k + 1)
    rw [List.take_add_one, hp] at h1
    unfold catL at h1 ⊢
    rw [List.flatMap_append] at h1
    simp at h1 ⊢
    omega
  have HC := hide (And.intro hcat hcat2)
  clear hn hlen hM hcat hcat2
  go_enter Tryd.func27, Tryd.ntmps27
  go_wp2_with fail
  go_loopw [3, 4] (fun v j wr => ∃ k : Nat, k ≤ n ∧ v = .string (toB (catL (ps.take k))) ∧ j = .int .i64 k ∧ w = wr) (fun _ j _ => n - (intOf j).toNat)
  case atStart => exact ⟨0, by omega, rfl, rfl, rfl⟩
  case round =>
    obtain ⟨k, hk, rfl, rfl, rfl⟩ := hrel
    by_cases hlt : k < n
    · have hlt' : (k : Int) < (n : Int) := by omega
      obtain ⟨b, o, x, rfl, hx, hc⟩ := h.atT hlt
      obtain ⟨p, hp⟩ : ∃ p, ps[k]? = some p := ⟨_, List.getElem?_eq_getElem (by rw [← HN.out]; exact hlt)⟩
      have hxp : x = toB p := by
        have := hx.out
        unfold mB at this
        rw [List.getElem?_map, hp] at this
        simpa using this.symm
      have hb := HC.out.2 k p hp
      have hst : (toB (catL (ps.take k)) ++ ⟨#[47]⟩) ++ x = toB (catL (ps.take (k + 1))) := by
        rw [hxp, List.take_add_one, hp]
        apply ByteArray.ext
        apply Array.ext'
        simp [toB, catL, List.flatMap_append]
      have hxs : x.size = p.length := by rw [hxp, toB_size]
      obtain ⟨t, ht⟩ : ∃ t, toB (catL (ps.take k)) = t := ⟨_, rfl⟩
      have hts : t.size = (catL (ps.take k)).length := by rw [← ht, toB_size]
      rw [ht] at hst ⊢
      have HS := hide hst
      have hsz : t.size + 1 + x.size ≤ 100000000000000 := by omega
      have n1 : ¬ 9223372036854775807 < t.size + 1 := by omega
      have n2 : ¬ 9223372036854775807 < t.size + 1 + x.size := by omega
      have n3 : (⟨#[47]⟩ : ByteArray).size = 1 := rfl
      clear hxp hx hp hst hxs hts ht hb
      go_wp2_with fail
      go_roundw
      case rel => exact ⟨k + 1, by omega, by rw [← HS.out], by go_num, trivial⟩
      case measure => simp [intOf]; omega
    · obtain rfl : k = n := by omega
      have hp : ps.take k = ps := List.take_of_length_le (by rw [HN.out]; exact Nat.le_refl _)
      rw [hp]
      by_cases h0 : ps = []
      · subst h0
        rw [show toB (catL []) = (⟨#[]⟩ : ByteArray) from rfl]
        go_wp2_with fail
        go_ret
        exact ⟨rfl, Ext.refl _⟩
      · have hj := joinL_cat h0
        have he : (toB (catL ps)).toList.isEmpty = false := by
          rw [toB_list]
          cases ps with
          | nil => exact absurd rfl h0
          | cons _ _ => rfl
        have HJ := hide hj
        clear hj h0 hp
        generalize hg : toB (catL ps) = t at *
        have HG := hide hg
        clear hg
        go_wp2_with fail
        go_ret
        exact ⟨by rw [HJ.out, HG.out]; rfl, Ext.refl _⟩
end Go.Proofs.YtngffmchjjpfbaaDoor
