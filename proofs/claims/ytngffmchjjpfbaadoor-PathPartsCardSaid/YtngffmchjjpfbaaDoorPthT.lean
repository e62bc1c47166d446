/- Paths: what the program answers: Last, Target. -/
import Derived.Test.YtngffmchjjpfbaaDoorPthS
import Derived.OwnWalk
import Derived.Test.YtngffmchjjpfbaaDoorFlat
namespace Go.Proofs.YtngffmchjjpfbaaDoor
set_option linter.unusedVariables false
open Go.RowKit

def badLast (ps : List L8) : Bool := match ps.getLast? with | none => true | some x => x == [46, 46]
def lasE (l : L8) : Nat := if splE l = 0 then (if badLast (prt l) = true then 2 else 0) else splE l
def lasU (l : L8) : L8 := if lasE l = 0 then joinL (prt l).dropLast else []
def lasN (l : L8) : L8 := if lasE l = 0 then (prt l).getLast?.getD [] else []
def tgtE (l : L8) : Nat := if (l.isEmpty || l.contains 0) = true then 2 else if (okPs l && decide (l.length ≤ 100)) = true then 0 else 11
def tgtPs (l : L8) : List L8 := if tgtE l = 0 then prt l else []
def tgtR (l : L8) : Bool := if tgtE l = 0 then Lib.hasPrefix l [47] else false
theorem prt_bound {l : L8} (h : l.length ≤ 1000000) (Q : List L8) (hQ : ∀ p ∈ Q, p ∈ prt l) (hl : Q.length ≤ (prt l).length) : (joinL Q).length ≤ 100000000000000 := by
  have h1 : ∀ p ∈ Q, p.length ≤ 1000000 := fun p hp => by have := prt_plen l p (hQ p hp); omega
  have h2 := joinL_len h1
  have h3 : Q.length ≤ 1000001 := by have := prt_len l; omega
  have h4 : Q.length * (1000000 + 1) ≤ 1000001 * (1000000 + 1) := Nat.mul_le_mul_right _ h3
  omega
set_option maxHeartbeats 2000000 in
theorem path_Last (s : ByteArray) (w : World) (hs : s.size ≤ 1000000) : Calls Tryd.prog 13 #[.string s] w fun e w' =>
    e = .returned (.tuple #[.string (toB (lasU s.data.toList)), .string (toB (lasN s.data.toList)), .int .i64 (lasE s.data.toList : Nat)]) ∧ Ext w w' := by
  have hS := fun w => path_Split s w hs
  have hb := prt_bound (l := s.data.toList) (by rw [← Lib.size_eq]; exact hs) (prt s.data.toList).dropLast (fun p hp => (List.dropLast_sublist _).subset hp) (by simp)
  have hE' : lasE s.data.toList = if splE s.data.toList = 0 then (if badLast (prt s.data.toList) = true then 2 else 0) else splE s.data.toList := rfl
  have hU' : lasU s.data.toList = if lasE s.data.toList = 0 then joinL (prt s.data.toList).dropLast else [] := rfl
  have hN' : lasN s.data.toList = if lasE s.data.toList = 0 then (prt s.data.toList).getLast?.getD [] else [] := rfl
  have hp : splPs s.data.toList = if splE s.data.toList = 0 then prt s.data.toList else [] := rfl
  obtain ⟨E, hE⟩ : ∃ E, splE s.data.toList = E := ⟨_, rfl⟩
  obtain ⟨F, hF⟩ : ∃ F, lasE s.data.toList = F := ⟨_, rfl⟩
  obtain ⟨U, hU⟩ : ∃ U, lasU s.data.toList = U := ⟨_, rfl⟩
  obtain ⟨N, hN⟩ : ∃ N, lasN s.data.toList = N := ⟨_, rfl⟩
  obtain ⟨P, hP⟩ : ∃ P, splPs s.data.toList = P := ⟨_, rfl⟩
  rw [hE, hP] at hS
  rw [hE, hF] at hE'
  rw [hF, hU] at hU'
  rw [hF, hN] at hN'
  rw [hE, hP] at hp
  rw [hF, hU, hN]
  clear hE hF hU hN hP
  generalize prt s.data.toList = Q at *
  by_cases h0 : E = 0
  case neg =>
    have hE0 : ((E : Int) != 0) = true := by simp; omega
    rw [if_neg h0] at hE'
    rw [hE', if_neg h0] at hU' hN'
    have HN := hide (And.intro hE' (And.intro hU' hN'))
    clear h0 hE' hU' hN' hp hb
    go_enter Tryd.func13, Tryd.ntmps13
    go_wp2_with fail
    refine (hS _).mono ?_
    rintro e w1 ⟨A1, n1, c1, rfl, hn1, hO1, hE1⟩
    clear hS
    go_wp2_with fail
    go_ret3
    exact ⟨by rw [HN.out.1, HN.out.2.1, HN.out.2.2]; rfl, hE1⟩
  case pos =>
  subst h0
  rw [if_pos rfl] at hE' hp
  subst hp
  rcases List.eq_nil_or_concat P with rfl | ⟨Q, x, rfl⟩
  · have hF : F = 2 := hE'
    subst hF
    have HN := hide (And.intro (show U = [] from hU') (show N = [] from hN'))
    clear hE' hU' hN' hb
    go_enter Tryd.func13, Tryd.ntmps13
    go_wp2_with fail
    refine (hS _).mono ?_
    rintro e w1 ⟨A1, n1, c1, rfl, hn1, hO1, hE1⟩
    obtain rfl : n1 = 0 := by have := hO1.len; simpa [vT, mB] using this.symm
    clear hS
    go_wp2_with fail
    go_ret3
    exact ⟨by rw [HN.out.1, HN.out.2]; rfl, hE1⟩
  · rw [List.concat_eq_append] at *
    have hgl : (Q ++ [x]).getLast? = some x := by simp
    have hdl : (Q ++ [x]).dropLast = Q := by simp
    have hbl : badLast (Q ++ [x]) = (x == [46, 46]) := by unfold badLast; rw [hgl]
    rw [hbl] at hE'
    rw [hdl] at hb hU'
    rw [hgl] at hN'
    have hxl : (toB x).toList = x := toB_list x
    cases h2 : (x == [46, 46])
    · rw [h2] at hE'
      have hF : F = 0 := hE'
      subst hF
      have e2 : ((toB x).toList == [46, 46]) = false := by rw [hxl]; exact h2
      have HN := hide (And.intro (show U = joinL Q from hU') (show N = x from hN'))
      have HB := hide hb
      clear hE' hU' hN' hb h2 hxl hgl hdl hbl
      go_enter Tryd.func13, Tryd.ntmps13
      go_wp2_with fail
      refine (hS _).mono ?_
      rintro e w1 ⟨A1, n1, c1, rfl, hn1, hO1, hE1⟩
      clear hS
      obtain ⟨m, hm⟩ : ∃ m, Q.length = m := ⟨_, rfl⟩
      obtain rfl : n1 = m + 1 := by have := hO1.len; rw [vT_len, mB_len, List.length_append, hm] at this; exact this.symm
      have HM := hide hm
      clear hm
      have hnc := hO1.sl.nc
      obtain ⟨b, o, y, rfl, hy, hc⟩ := hO1.sl.atT (k := m) (by omega)
      have hyx : y = toB x := by
        have := hy.out
        unfold mB at this
        rw [List.map_append, List.getElem?_append_right (by simp [HM.out])] at this
        simpa [HM.out] using this.symm
      subst hyx
      clear hy
      have hQ : Sl w1 (some ⟨b, o, none⟩) m c1 (vT (mB Q)) := by
        have h1 := hO1.sl.pre (m := m) (by omega)
        have h2 : (vT (mB (Q ++ [x]))).take m = vT (mB Q) := by
          rw [mB_append, vT_append, List.take_append_of_le_length (by rw [vT_len, mB_len, HM.out]; exact Nat.le_refl _), List.take_of_length_le (by rw [vT_len, mB_len, HM.out]; exact Nat.le_refl _)]
        rw [h2] at h1
        exact h1
      have hJ := fun w h => path_Join Q (some ⟨b, o, none⟩) m c1 w h HB.out
      have hi1 : (m : Int) ≤ (c1 : Int) := by omega
      have hi2 : (m : Int) < (m : Int) + 1 := by omega
      go_upto_region 7 with fail
      refine wp_region_held_drew (S := fun w' => w'.cell? ⟨b, o + m, none⟩ = some (.string (toB x))) (by kernel_rfl) ((Ext.drew (Ext.refl _)).cell hc) (fun hHeld => ?_)
      refine held_take 0 rfl (by kernel_rfl) (by kernel_rfl) (by kernel_rfl) (fun _ _ _ _ h => h) (by rfl) ?_ ?_ (by assumption) ?_
      rotate_left
      · (intro wx hSx; (try dsimp only at hSx); go_simp)
        all_goals with_reducible rfl
      (try simp only [Act.put, List.setIfInBounds_toArray, List.set_cons_zero, List.set_cons_succ])
      refine held_take 1 rfl (by kernel_rfl) (by kernel_rfl) (by kernel_rfl) (fun _ _ _ _ h => h) (by rfl) ?_ ?_ (by assumption) ?_
      rotate_left
      · (intro wx hSx; (try dsimp only at hSx); go_simp)
        all_goals with_reducible rfl
      (try simp only [Act.put, List.setIfInBounds_toArray, List.set_cons_zero, List.set_cons_succ])
      refine held_take 2 rfl (by kernel_rfl) (by kernel_rfl) (by kernel_rfl) (fun _ _ _ _ h => h) (by rfl) ?_ ?_ (by assumption) ?_
      rotate_left
      · (intro wx hSx; (try dsimp only at hSx); go_simp)
        all_goals with_reducible rfl
      (try simp only [Act.put, List.setIfInBounds_toArray, List.set_cons_zero, List.set_cons_succ])
      refine held_take 4 rfl (by kernel_rfl) (by kernel_rfl) (by kernel_rfl) (fun _ _ _ _ h => h) (by rfl) ?_ ?_ (by assumption) ?_
      rotate_left
      · (intro wx hSx; (try dsimp only at hSx); go_simp)
        all_goals with_reducible rfl
      (try simp only [Act.put, List.setIfInBounds_toArray, List.set_cons_zero, List.set_cons_succ])
      refine held_take 5 rfl (by kernel_rfl) (by kernel_rfl) (by kernel_rfl) (fun _ _ _ _ h => h) (by rfl) ?_ ?_ (by assumption) ?_
      rotate_left
      · (intro wx hSx; (try dsimp only at hSx); go_simp)
        all_goals with_reducible rfl
      (try simp only [Act.put, List.setIfInBounds_toArray, List.set_cons_zero, List.set_cons_succ])
      refine held_take 6 rfl (by kernel_rfl) (by kernel_rfl) (by kernel_rfl) (fun _ _ _ _ h => h) (by rfl) ?_ ?_ (by assumption) ?_
      rotate_left
      · (intro wx hSx; (try dsimp only at hSx); go_simp)
        all_goals with_reducible rfl
      (try simp only [Act.put, List.setIfInBounds_toArray, List.set_cons_zero, List.set_cons_succ])
      refine held_take 7 rfl (by kernel_rfl) (by kernel_rfl) (by kernel_rfl) (fun _ _ _ _ h => h) (by rfl) ?_ ?_ (by assumption) ?_
      rotate_left
      · (intro wx hSx; (try dsimp only at hSx); go_simp)
        all_goals with_reducible rfl
      (try simp only [Act.put, List.setIfInBounds_toArray, List.set_cons_zero, List.set_cons_succ])
      refine held_call 3 rfl (by kernel_rfl) (fun K hK => ?_)
      go_simp
      go_at_call 19
      refine (hJ _ (hQ.ext (Ext.drew (Ext.refl _)))).mono ?_
      rintro e w3 ⟨rfl, hE3⟩
      replace hE3 : Ext w1 w3 := (Ext.drew (Ext.refl _)).trans hE3
      go_wp2_with fail
      refine hK.out _ _ (hE3.cell hc) (fun hHeld => ?_)
      clear hK K
      (try simp only [Act.put, List.setIfInBounds_toArray, List.set_cons_zero, List.set_cons_succ])
      refine held_take 8 rfl (by kernel_rfl) (by kernel_rfl) (by kernel_rfl) (fun _ _ _ _ h => h) (by rfl) ?_ ?_ (by assumption) ?_
      rotate_left
      · (intro wx hSx; (try dsimp only at hSx); go_simp)
        all_goals with_reducible rfl
      (try simp only [Act.put, List.setIfInBounds_toArray, List.set_cons_zero, List.set_cons_succ])
      refine held_take 9 rfl (by kernel_rfl) (by kernel_rfl) (by kernel_rfl) (fun _ _ _ _ h => h) (by rfl) ?_ ?_ (by assumption) ?_
      rotate_left
      · (intro wx hSx; (try dsimp only at hSx); go_simp)
        all_goals with_reducible rfl
      (try simp only [Act.put, List.setIfInBounds_toArray, List.set_cons_zero, List.set_cons_succ])
      refine held_take 10 rfl (by kernel_rfl) (by kernel_rfl) (by kernel_rfl) (fun _ _ _ _ h => h) (by rfl) ?_ ?_ (by assumption) ?_
      rotate_left
      · (intro wx hSx; (try dsimp only at hSx); go_simp)
        all_goals with_reducible rfl
      (try simp only [Act.put, List.setIfInBounds_toArray, List.set_cons_zero, List.set_cons_succ])
      refine wpAnyH_done (by kernel_rfl) ?_ _
      clear hHeld
      go_wp2_with fail
      go_ret3
      exact ⟨by rw [HN.out.1, HN.out.2]; rfl, hE1.trans hE3⟩
    · rw [h2] at hE'
      have hF : F = 2 := hE'
      subst hF
      have e2 : ((toB x).toList == [46, 46]) = true := by rw [hxl]; exact h2
      have HN := hide (And.intro (show U = [] from hU') (show N = [] from hN'))
      clear hE' hU' hN' hb h2 hxl hgl hdl hbl
      go_enter Tryd.func13, Tryd.ntmps13
      go_wp2_with fail
      refine (hS _).mono ?_
      rintro e w1 ⟨A1, n1, c1, rfl, hn1, hO1, hE1⟩
      clear hS
      obtain ⟨m, hm⟩ : ∃ m, Q.length = m := ⟨_, rfl⟩
      obtain rfl : n1 = m + 1 := by have := hO1.len; rw [vT_len, mB_len, List.length_append, hm] at this; exact this.symm
      have HM := hide hm
      clear hm
      obtain ⟨b, o, y, rfl, hy, hc⟩ := hO1.sl.atT (k := m) (by omega)
      have hyx : y = toB x := by
        have := hy.out
        unfold mB at this
        rw [List.map_append, List.getElem?_append_right (by simp [HM.out])] at this
        simpa [HM.out] using this.symm
      subst hyx
      clear hy
      go_wp2_with fail
      go_ret3
      exact ⟨by rw [HN.out.1, HN.out.2]; rfl, hE1⟩
set_option maxHeartbeats 1000000 in
theorem path_Target (s : ByteArray) (w : World) (hs : s.size ≤ 1000000) : Calls Tryd.prog 15 #[.string s] w fun e w' =>
    ∃ A' n c, e = .returned (.tuple #[.slice A' n c, .bool (tgtR s.data.toList), .int .i64 (tgtE s.data.toList : Nat)]) ∧ n ≤ 1000001 ∧ Own w' w.heap.size 9 A' n c (vT (mB (tgtPs s.data.toList))) ∧ Ext w w' := by
  have h1 := fun w => Tryd.strings_HasPrefix s ⟨#[47]⟩ w
  have h2 := fun w => Tryd.strings_Contains_one s 0 w
  have h3 := fun w => path_parts s w hs
  rw [idx_zero] at h2
  have e47 : (⟨#[47]⟩ : ByteArray).data.toList = [47] := rfl
  rw [e47] at h1
  have hl : s.data.toList.length = s.size := (Lib.size_eq s).symm
  have hE : tgtE s.data.toList = if (s.data.toList.isEmpty || s.data.toList.contains 0) = true then 2 else if (okPs s.data.toList && decide (s.data.toList.length ≤ 100)) = true then 0 else 11 := rfl
  have hPs : tgtPs s.data.toList = if tgtE s.data.toList = 0 then prt s.data.toList else [] := rfl
  have hR : tgtR s.data.toList = if tgtE s.data.toList = 0 then Lib.hasPrefix s.data.toList [47] else false := rfl
  rw [hl] at hE
  obtain ⟨ok, hok⟩ : ∃ b, okPs s.data.toList = b := ⟨_, rfl⟩
  obtain ⟨hp, hhp⟩ : ∃ b, Lib.hasPrefix s.data.toList [47] = b := ⟨_, rfl⟩
  obtain ⟨z, hz⟩ : ∃ b, s.data.toList.contains 0 = b := ⟨_, rfl⟩
  obtain ⟨em, hem⟩ : ∃ b, s.data.toList.isEmpty = b := ⟨_, rfl⟩
  rw [hok] at h3 hE
  rw [hhp] at h1 hR
  rw [hz] at h2 hE
  rw [hem] at hE
  have hem2 : s.toList.isEmpty = em := by rw [ByteArray.toList_eq]; exact hem
  clear hl e47 hok hhp hz hem
  have H1 := hide h1
  have H2 := hide h2
  have H3 := hide h3
  have HC : (em = true ∧ tgtE s.data.toList = 2) ∨ (em = false ∧ z = true ∧ tgtE s.data.toList = 2) ∨ (em = false ∧ z = false ∧ ok = false ∧ tgtE s.data.toList = 11) ∨ (em = false ∧ z = false ∧ ok = true ∧ (100 : Int) < s.size ∧ tgtE s.data.toList = 11) ∨ (em = false ∧ z = false ∧ ok = true ∧ ¬ (100 : Int) < s.size ∧ tgtE s.data.toList = 0) := by
    rw [hE]
    cases em
    · cases z
      · cases ok
        · exact .inr (.inr (.inl ⟨rfl, rfl, rfl, rfl⟩))
        · by_cases h : (100 : Int) < s.size
          · exact .inr (.inr (.inr (.inl ⟨rfl, rfl, rfl, h, by rw [decide_eq_false (by omega)]; rfl⟩)))
          · exact .inr (.inr (.inr (.inr ⟨rfl, rfl, rfl, h, by rw [decide_eq_true (by omega)]; rfl⟩)))
      · exact .inr (.inl ⟨rfl, rfl, rfl⟩)
    · exact .inl ⟨rfl, rfl⟩
  have HP := hide (And.intro hPs hR)
  clear h1 h2 h3 hE hPs hR
  rcases HC with ⟨rfl, he⟩ | ⟨rfl, rfl, he⟩ | ⟨rfl, rfl, rfl, he⟩ | ⟨rfl, rfl, rfl, hgt, he⟩ | ⟨rfl, rfl, rfl, hgt, he⟩
  case inl =>
    have HE := hide he
    have hnil : s.toList = [] := by simpa using hem2
    clear he
    go_enter Tryd.func15, Tryd.ntmps15
    go_wp2_with fail
    go_ret3
    exact ⟨none, 0, 0, (by rw [HP.out.2, HE.out]; try rfl), by omega, by rw [HP.out.1, HE.out]; exact Own.nilS _ _ _, Ext.refl _⟩
  case inr.inl =>
    have HE := hide he
    clear he
    go_enter Tryd.func15, Tryd.ntmps15
    go_wp2_with (go_at_call 22; refine (H2.out _).mono ?_; rintro e w' ⟨rfl, rfl⟩)
    go_ret3
    exact ⟨none, 0, 0, (by rw [HP.out.2, HE.out]; try rfl), by omega, by rw [HP.out.1, HE.out]; exact Own.nilS _ _ _, Ext.refl _⟩
  case inr.inr.inr.inr =>
    have HE := hide he
    clear he
    go_enter Tryd.func15, Tryd.ntmps15
    go_wp2_with (first
      | (go_at_call 21; refine (H1.out _).mono ?_; rintro e w' ⟨rfl, rfl⟩)
      | (go_at_call 22; refine (H2.out _).mono ?_; rintro e w' ⟨rfl, rfl⟩)
      | (go_at_call 23; refine (H3.out _).mono ?_; rintro e w1 ⟨A1, n1, c1, vs, rfl, hn1, hO1, hv1, hE1⟩))
    go_ret3
    exact ⟨A1, n1, c1, (by rw [HP.out.2, HE.out]; try rfl), hn1, by rw [HP.out.1, HE.out, if_pos rfl, ← hv1 (by trivial)]; exact hO1, hE1⟩
  all_goals
    have HE := hide he
    clear he
    go_enter Tryd.func15, Tryd.ntmps15
    go_wp2_with (first
      | (go_at_call 21; refine (H1.out _).mono ?_; rintro e w' ⟨rfl, rfl⟩)
      | (go_at_call 22; refine (H2.out _).mono ?_; rintro e w' ⟨rfl, rfl⟩)
      | (go_at_call 23; refine (H3.out _).mono ?_; rintro e w1 ⟨A1, n1, c1, vs, rfl, hn1, hO1, hv1, hE1⟩))
    go_ret3
    exact ⟨none, 0, 0, (by rw [HP.out.2, HE.out]; try rfl), by omega, by rw [HP.out.1, HE.out]; exact Own.nilS _ _ _, hE1⟩
end Go.Proofs.YtngffmchjjpfbaaDoor
