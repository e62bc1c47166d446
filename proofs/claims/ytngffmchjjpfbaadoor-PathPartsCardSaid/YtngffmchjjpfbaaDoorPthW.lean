/- Paths: the document's answer: Clean, Last, Target. -/
import Derived.Test.YtngffmchjjpfbaaDoorPthV
namespace Go.Proofs.YtngffmchjjpfbaaDoor
set_option linter.unusedVariables false
open Go.RowKit

theorem ref12_JoinP (l : L8) (hl : l.length ≤ 1000000) (Q : List L8) (hQ : ∀ p ∈ Q, p.length ≤ l.length) (hq : Q.length ≤ 1000001) (A : Option Addr) (n c : Nat) (w : World) (h : Sl w A n c (vT (mB Q))) :
    Calls Tryd.prog 27 #[.slice A n c] w fun e w' => e = .returned (.string (toB (joinL Q))) ∧ Ext w w' :=
  ref12_Join Q 1000000 (fun p hp => by have := hQ p hp; omega) A n c w h (by
    have : Q.length * (1000000 + 1) ≤ 1000001 * (1000000 + 1) := Nat.mul_le_mul_right _ hq
    omega)
theorem cleanP_mem {l p : L8} (h : p ∈ cleanP (prt l)) : p.length ≤ l.length := by
  rcases cleanP_sub (prt l) [] p h with h2 | h2
  · simp at h2
  · exact prt_plen l p h2.1
theorem cleanP_cnt {l : L8} (h : l.length ≤ 1000000) : (cleanP (prt l)).length ≤ 1000001 := by
  have h4 := cleanP_len (prt l) []
  have h5 := prt_len l
  unfold cleanP
  simp at h4
  omega
set_option maxHeartbeats 2000000 in
theorem ref12_Clean (s : ByteArray) (w : World) (hs : s.size ≤ 1000000) : Calls Tryd.prog 12 #[.string s] w fun e w' =>
    e = .returned (.tuple #[.string (toB (clnS s.data.toList)), .int .i64 (splE s.data.toList : Nat)]) ∧ Ext w w' := by
  have hS := fun w => ref12_Split s w hs
  have hb := fun A n c w h => ref12_JoinP s.data.toList (by rw [← Lib.size_eq]; exact hs) (cleanP (prt s.data.toList)) (fun p hp => cleanP_mem hp) (cleanP_cnt (by rw [← Lib.size_eq]; exact hs)) A n c w h
  have hc : clnS s.data.toList = if splE s.data.toList = 0 then joinL (cleanP (prt s.data.toList)) else [] := rfl
  have hp : splPs s.data.toList = if splE s.data.toList = 0 then prt s.data.toList else [] := rfl
  obtain ⟨E, hE⟩ : ∃ E, splE s.data.toList = E := ⟨_, rfl⟩
  obtain ⟨C, hC⟩ : ∃ C, clnS s.data.toList = C := ⟨_, rfl⟩
  obtain ⟨P, hP⟩ : ∃ P, splPs s.data.toList = P := ⟨_, rfl⟩
  rw [hE, hP] at hS
  rw [hE, hC] at hc
  rw [hE, hP] at hp
  rw [hE, hC]
  clear hE hC hP
  generalize prt s.data.toList = Q at *
  have HC := hide hc
  have HP := hide hp
  have HB := hide hb
  clear hc hp hb
  go_enter Tryd.func12, Tryd.ntmps12
  go_wp2_with fail
  refine (hS _).mono ?_
  rintro e w1 ⟨A1, n1, c1, rfl, hn1, hO1, hE1⟩
  clear hS
  by_cases h0 : E = 0
  case neg =>
    have hE0 : ((E : Int) != 0) = true := by simp; omega
    have HN := hide (show C = [] by rw [HC.out, if_neg h0])
    clear h0
    go_wp2_with fail
    go_ret2
    exact ⟨by rw [HN.out]; rfl, hE1⟩
  case pos =>
  subst h0
  have hQ : P = Q := HP.out
  subst hQ
  have hn : n1 = P.length := by have := hO1.len; rw [vT_len, mB_len] at this; exact this.symm
  subst hn
  have hJ := HB.out
  have HN := hide (show C = joinL (cleanP P) from HC.out)
  clear HC HP HB
  go_wp2_with fail
  go_loopw [6, 7] (fun o j wr => ∃ (k n6 c6 : Nat) (A6 : Option Addr), k ≤ P.length ∧ j = .int .i64 k ∧ o = .slice A6 n6 c6 ∧ Hid ((cleanP (P.take k)).length = n6) ∧ n6 ≤ k ∧ Own wr w1.heap.size 9 A6 n6 c6 (vT (mB (cleanP (P.take k)))) ∧ Ext w1 wr) (fun _ j _ => P.length - (intOf j).toNat)
  case atStart => exact ⟨0, 0, 0, none, by omega, rfl, rfl, rfl, Nat.le_refl _, Own.nilS _ _ _, Ext.refl _⟩
  case round =>
    obtain ⟨k, n6, c6, A6, hk, rfl, rfl, hn6, hnk, hO, hE⟩ := hrel
    have hsz := hE.size
    have hnc := hO.sl.nc
    by_cases hlt : k < P.length
    · have hlt' : (k : Int) < (P.length : Int) := by omega
      obtain ⟨b, o, x, rfl, hx, hc⟩ := (hO1.sl.ext hE).atT hlt
      obtain ⟨p, hp⟩ : ∃ p, P[k]? = some p := ⟨_, List.getElem?_eq_getElem hlt⟩
      have hxp : x = toB p := by
        have := hx.out
        unfold mB at this
        rw [List.getElem?_map, hp] at this
        simpa using this.symm
      have hst := cleanP_take hp
      have hxl : x.toList = p := by rw [hxp, toB_list]
      have HX := hide (And.intro hxp hst)
      clear hxp hx hp hst
      cases h2 : (p == [46, 46])
      · have e2 : (x.toList == [46, 46]) = false := by rw [hxl]; exact h2
        have hs2 : stepC (cleanP (P.take k)) p = cleanP (P.take k) ++ [p] := by unfold stepC; rw [h2]; rfl
        have HS := hide (show cleanP (P.take (k + 1)) = cleanP (P.take k) ++ [p] by rw [HX.out.2, hs2])
        clear hxl h2 hs2
        go_wp2_with (at_builtin; refine appT rfl (.tmp 27) (.tmp 32) rfl w1.heap.size _ n6 c6 _ rfl (hO.ext ((Ext.refl _).alloc _)) _ 1 1 _ rfl (Sl.lit wr #[.string x] 9 1 rfl (by omega) (by simp [Value.oneCell'])) (by omega) (by simp; omega) ?_; intro A5 c5 w5 hO5 hG5)
        go_roundw
        case rel =>
          refine ⟨k + 1, n6 + 1, c5, A5, by omega, by go_num, rfl, ?_, by omega, ?_, (hE.alloc _).grown hG5 (fun q hq => (hO.block q hq).1)⟩
          · rw [HS.out]; show _ = _; rw [List.length_append, hn6.out]; rfl
          · rw [HS.out, mB_append, vT_append]
            have : vT (mB [p]) = [Value.string x] := by rw [HX.out.1]; rfl
            rw [this]
            exact hO5
        case measure => simp [intOf]; omega
      · have e2 : (x.toList == [46, 46]) = true := by rw [hxl]; exact h2
        have hs2 : stepC (cleanP (P.take k)) p = (cleanP (P.take k)).take (n6 - 1) := by unfold stepC; rw [h2, hn6.out]; rfl
        have HS := hide (show cleanP (P.take (k + 1)) = (cleanP (P.take k)).take (n6 - 1) by rw [HX.out.2, hs2])
        clear hxl h2 hs2
        have hcl : (n6 = 0 ∧ ¬ (0 : Int) < (n6 : Int)) ∨ (0 : Int) < (n6 : Int) := by omega
        rcases hcl with ⟨rfl, h6⟩ | h6
        · go_wp2_with fail
          go_roundw
          case rel =>
            refine ⟨k + 1, 0, c6, A6, by omega, by go_num, rfl, ?_, by omega, ?_, hE⟩
            · rw [HS.out]; show _ = _; rw [List.length_take, hn6.out]; rfl
            · rw [HS.out, mB_take, ← vT_take]; exact hO.pre (by omega)
          case measure => simp [intOf]; omega
        · obtain ⟨m, rfl⟩ : ∃ m, n6 = m + 1 := ⟨n6 - 1, by omega⟩
          have hb1 : (m : Int) ≤ (c6 : Int) := by omega
          go_wp2_with fail
          go_roundw
          case rel =>
            refine ⟨k + 1, m, c6, A6, by omega, by go_num, rfl, ?_, by omega, ?_, hE⟩
            · rw [HS.out]; show _ = _; rw [List.length_take, hn6.out]; omega
            · rw [HS.out, mB_take, ← vT_take]; exact hO.pre (by omega)
          case measure => simp [intOf]; omega
    · obtain rfl : k = P.length := by omega
      rw [List.take_of_length_le (Nat.le_refl _)] at hO hn6
      go_wp2_with fail
      refine (hJ _ _ _ _ hO.sl).mono ?_
      rintro e w3 ⟨rfl, hE3⟩
      go_wp2_with fail
      go_ret2
      exact ⟨by rw [HN.out]; rfl, hE1.trans (hE.trans hE3)⟩
set_option maxHeartbeats 2000000 in
theorem ref12_Last (s : ByteArray) (w : World) (hs : s.size ≤ 1000000) : Calls Tryd.prog 14 #[.string s] w fun e w' =>
    e = .returned (.tuple #[.string (toB (lasU s.data.toList)), .string (toB (lasN s.data.toList)), .int .i64 (lasE s.data.toList : Nat)]) ∧ Ext w w' := by
  have hS := fun w => ref12_Split s w hs
  have hb := fun A n c w h => ref12_JoinP s.data.toList (by rw [← Lib.size_eq]; exact hs) (prt s.data.toList).dropLast (fun p hp => prt_plen _ p ((List.dropLast_sublist _).subset hp)) (by have := prt_len s.data.toList; rw [← Lib.size_eq] at this; simp; omega) A n c w h
  have hE' : lasE s.data.toList = if splE s.data.toList = 0 then (if badLast (prt s.data.toList) = true then 2 else 0) else splE s.data.toList := rfl
  have hU' : lasU s.data.toList = if lasE s.data.toList = 0 then joinL (prt s.data.toList).dropLast else [] := rfl
  have hN' : lasN s.data.toList = if lasE s.data.toList = 0 then (prt s.data.toList).getLast?.getD [] else [] := rfl
  have hp : splPs s.data.toList = if splE s.data.toList = 0 then prt s.data.toList else [] := rfl
  obtain ⟨E, hE⟩ : ∃ E, splE s.data.toList = E := ⟨_, rfl⟩
  obtain ⟨F, hF⟩ : ∃ F, lasE s.data.toList = F := ⟨_, rfl⟩
  obtain ⟨U, hU⟩ : ∃ U, lasU s.data.toList = U := ⟨_, rfl⟩
  obtain ⟨N, hN⟩ : ∃ N, lasN s.data.toList = N := ⟨_, rfl⟩
  obtain ⟨P, hP⟩ : ∃ P, splPs s.data.toList = P := ⟨_, rfl⟩
  rw [hE, hP] at hS
  rw [hE, hF] at hE'
  rw [hF, hU] at hU'
  rw [hF, hN] at hN'
  rw [hE, hP] at hp
  rw [hF, hU, hN]
  clear hE hF hU hN hP
  generalize prt s.data.toList = Q at *
  by_cases h0 : E = 0
  case neg =>
    have hE0 : ((E : Int) != 0) = true := by simp; omega
    rw [if_neg h0] at hE'
    rw [hE', if_neg h0] at hU' hN'
    have HN := hide (And.intro hE' (And.intro hU' hN'))
    clear h0 hE' hU' hN' hp hb
    go_enter Tryd.func14, Tryd.ntmps14
    go_wp2_with fail
    refine (hS _).mono ?_
    rintro e w1 ⟨A1, n1, c1, rfl, hn1, hO1, hE1⟩
    clear hS
    go_wp2_with fail
    go_ret3
    exact ⟨by rw [HN.out.1, HN.out.2.1, HN.out.2.2]; rfl, hE1⟩
  case pos =>
  subst h0
  rw [if_pos rfl] at hE' hp
  subst hp
  rcases List.eq_nil_or_concat P with rfl | ⟨Q, x, rfl⟩
  · have hF : F = 2 := hE'
    subst hF
    have HN := hide (And.intro (show U = [] from hU') (show N = [] from hN'))
    clear hE' hU' hN' hb
    go_enter Tryd.func14, Tryd.ntmps14
    go_wp2_with fail
    refine (hS _).mono ?_
    rintro e w1 ⟨A1, n1, c1, rfl, hn1, hO1, hE1⟩
    obtain rfl : n1 = 0 := by have := hO1.len; simpa [vT, mB] using this.symm
    clear hS
    go_wp2_with fail
    go_ret3
    exact ⟨by rw [HN.out.1, HN.out.2]; rfl, hE1⟩
  · rw [List.concat_eq_append] at *
    have hgl : (Q ++ [x]).getLast? = some x := by simp
    have hdl : (Q ++ [x]).dropLast = Q := by simp
    have hbl : badLast (Q ++ [x]) = (x == [46, 46]) := by unfold badLast; rw [hgl]
    rw [hbl] at hE'
    rw [hdl] at hb hU'
    rw [hgl] at hN'
    have hxl : (toB x).toList = x := toB_list x
    cases h2 : (x == [46, 46])
    · rw [h2] at hE'
      have hF : F = 0 := hE'
      subst hF
      have e2 : ((toB x).toList == [46, 46]) = false := by rw [hxl]; exact h2
      have HN := hide (And.intro (show U = joinL Q from hU') (show N = x from hN'))
      have HB := hide hb
      clear hE' hU' hN' hb h2 hxl hgl hdl hbl
      go_enter Tryd.func14, Tryd.ntmps14
      go_wp2_with fail
      refine (hS _).mono ?_
      rintro e w1 ⟨A1, n1, c1, rfl, hn1, hO1, hE1⟩
      clear hS
      obtain ⟨m, hm⟩ : ∃ m, Q.length = m := ⟨_, rfl⟩
      obtain rfl : n1 = m + 1 := by have := hO1.len; rw [vT_len, mB_len, List.length_append, hm] at this; exact this.symm
      have HM := hide hm
      clear hm
      have hnc := hO1.sl.nc
      obtain ⟨b, o, y, rfl, hy, hc⟩ := hO1.sl.atT (k := m) (by omega)
      have hyx : y = toB x := by
        have := hy.out
        unfold mB at this
        rw [List.map_append, List.getElem?_append_right (by simp [HM.out])] at this
        simpa [HM.out] using this.symm
      subst hyx
      clear hy
      have hQ : Sl w1 (some ⟨b, o, none⟩) m c1 (vT (mB Q)) := by
        have h1 := hO1.sl.pre (m := m) (by omega)
        have h2 : (vT (mB (Q ++ [x]))).take m = vT (mB Q) := by
          rw [mB_append, vT_append, List.take_append_of_le_length (by rw [vT_len, mB_len, HM.out]; exact Nat.le_refl _), List.take_of_length_le (by rw [vT_len, mB_len, HM.out]; exact Nat.le_refl _)]
        rw [h2] at h1
        exact h1
      have hJ := fun w h => HB.out (some ⟨b, o, none⟩) m c1 w h
      have hi1 : (m : Int) ≤ (c1 : Int) := by omega
      have hi2 : (m : Int) < (m : Int) + 1 := by omega
      have wm : IntKind.i64.wrap (m : Int) = (m : Int) := IntWalk.i64_in _ (by omega)
      go_upto_region 7 with fail
      refine wp_region_held_drew (S := fun w' => w'.cell? ⟨b, o + m, none⟩ = some (.string (toB x))) (by kernel_rfl) ((Ext.drew (Ext.refl _)).cell hc) (fun hHeld => ?_)
      refine held_take 0 rfl (by kernel_rfl) (by kernel_rfl) (by kernel_rfl) (fun _ _ _ _ h => h) (by rfl) ?_ ?_ (by assumption) ?_
      rotate_left
      · (intro wx hSx; (try dsimp only at hSx); go_simp)
        all_goals with_reducible rfl
      (try simp only [Act.put, List.setIfInBounds_toArray, List.set_cons_zero, List.set_cons_succ])
      refine held_take 1 rfl (by kernel_rfl) (by kernel_rfl) (by kernel_rfl) (fun _ _ _ _ h => h) (by rfl) ?_ ?_ (by assumption) ?_
      rotate_left
      · (intro wx hSx; (try dsimp only at hSx); go_simp)
        all_goals with_reducible rfl
      (try simp only [Act.put, List.setIfInBounds_toArray, List.set_cons_zero, List.set_cons_succ])
      refine held_take 2 rfl (by kernel_rfl) (by kernel_rfl) (by kernel_rfl) (fun _ _ _ _ h => h) (by rfl) ?_ ?_ (by assumption) ?_
      rotate_left
      · (intro wx hSx; (try dsimp only at hSx); go_simp)
        all_goals with_reducible rfl
      (try simp only [Act.put, List.setIfInBounds_toArray, List.set_cons_zero, List.set_cons_succ])
      refine held_take 3 rfl (by kernel_rfl) (by kernel_rfl) (by kernel_rfl) (fun _ _ _ _ h => h) (by rfl) ?_ ?_ (by assumption) ?_
      rotate_left
      · (intro wx hSx; (try dsimp only at hSx); go_simp)
        all_goals with_reducible rfl
      (try simp only [Act.put, List.setIfInBounds_toArray, List.set_cons_zero, List.set_cons_succ])
      refine held_take 5 rfl (by kernel_rfl) (by kernel_rfl) (by kernel_rfl) (fun _ _ _ _ h => h) (by rfl) ?_ ?_ (by assumption) ?_
      rotate_left
      · (intro wx hSx; (try dsimp only at hSx); go_simp)
        all_goals with_reducible rfl
      (try simp only [Act.put, List.setIfInBounds_toArray, List.set_cons_zero, List.set_cons_succ])
      refine held_take 6 rfl (by kernel_rfl) (by kernel_rfl) (by kernel_rfl) (fun _ _ _ _ h => h) (by rfl) ?_ ?_ (by assumption) ?_
      rotate_left
      · (intro wx hSx; (try dsimp only at hSx); go_simp)
        all_goals with_reducible rfl
      (try simp only [Act.put, List.setIfInBounds_toArray, List.set_cons_zero, List.set_cons_succ])
      refine held_take 7 rfl (by kernel_rfl) (by kernel_rfl) (by kernel_rfl) (fun _ _ _ _ h => h) (by rfl) ?_ ?_ (by assumption) ?_
      rotate_left
      · (intro wx hSx; (try dsimp only at hSx); go_simp)
        all_goals with_reducible rfl
      (try simp only [Act.put, List.setIfInBounds_toArray, List.set_cons_zero, List.set_cons_succ])
      refine held_take 8 rfl (by kernel_rfl) (by kernel_rfl) (by kernel_rfl) (fun _ _ _ _ h => h) (by rfl) ?_ ?_ (by assumption) ?_
      rotate_left
      · (intro wx hSx; (try dsimp only at hSx); go_simp)
        all_goals with_reducible rfl
      (try simp only [Act.put, List.setIfInBounds_toArray, List.set_cons_zero, List.set_cons_succ])
      refine held_take 9 rfl (by kernel_rfl) (by kernel_rfl) (by kernel_rfl) (fun _ _ _ _ h => h) (by rfl) ?_ ?_ (by assumption) ?_
      rotate_left
      · (intro wx hSx; (try dsimp only at hSx); go_simp)
        all_goals with_reducible rfl
      (try simp only [Act.put, List.setIfInBounds_toArray, List.set_cons_zero, List.set_cons_succ])
      refine held_call 4 rfl (by kernel_rfl) (fun K hK => ?_)
      go_simp
      go_at_call 27
      refine (hJ _ (hQ.ext (Ext.drew (Ext.refl _)))).mono ?_
      rintro e w3 ⟨rfl, hE3⟩
      replace hE3 : Ext w1 w3 := (Ext.drew (Ext.refl _)).trans hE3
      go_wp2_with fail
      refine hK.out _ _ (hE3.cell hc) (fun hHeld => ?_)
      clear hK K
      (try simp only [Act.put, List.setIfInBounds_toArray, List.set_cons_zero, List.set_cons_succ])
      refine held_take 10 rfl (by kernel_rfl) (by kernel_rfl) (by kernel_rfl) (fun _ _ _ _ h => h) (by rfl) ?_ ?_ (by assumption) ?_
      rotate_left
      · (intro wx hSx; (try dsimp only at hSx); go_simp)
        all_goals with_reducible rfl
      (try simp only [Act.put, List.setIfInBounds_toArray, List.set_cons_zero, List.set_cons_succ])
      refine held_take 11 rfl (by kernel_rfl) (by kernel_rfl) (by kernel_rfl) (fun _ _ _ _ h => h) (by rfl) ?_ ?_ (by assumption) ?_
      rotate_left
      · (intro wx hSx; (try dsimp only at hSx); go_simp)
        all_goals with_reducible rfl
      (try simp only [Act.put, List.setIfInBounds_toArray, List.set_cons_zero, List.set_cons_succ])
      refine held_take 12 rfl (by kernel_rfl) (by kernel_rfl) (by kernel_rfl) (fun _ _ _ _ h => h) (by rfl) ?_ ?_ (by assumption) ?_
      rotate_left
      · (intro wx hSx; (try dsimp only at hSx); go_simp)
        all_goals with_reducible rfl
      (try simp only [Act.put, List.setIfInBounds_toArray, List.set_cons_zero, List.set_cons_succ])
      refine wpAnyH_done (by kernel_rfl) ?_ _
      clear hHeld
      go_wp2_with fail
      go_ret3
      exact ⟨by rw [HN.out.1, HN.out.2]; rfl, hE1.trans hE3⟩
    · rw [h2] at hE'
      have hF : F = 2 := hE'
      subst hF
      have e2 : ((toB x).toList == [46, 46]) = true := by rw [hxl]; exact h2
      have HN := hide (And.intro (show U = [] from hU') (show N = [] from hN'))
      clear hE' hU' hN' hb h2 hxl hgl hdl hbl
      go_enter Tryd.func14, Tryd.ntmps14
      go_wp2_with fail
      refine (hS _).mono ?_
      rintro e w1 ⟨A1, n1, c1, rfl, hn1, hO1, hE1⟩
      clear hS
      obtain ⟨m, hm⟩ : ∃ m, Q.length = m := ⟨_, rfl⟩
      obtain rfl : n1 = m + 1 := by have := hO1.len; rw [vT_len, mB_len, List.length_append, hm] at this; exact this.symm
      have HM := hide hm
      clear hm
      obtain ⟨b, o, y, rfl, hy, hc⟩ := hO1.sl.atT (k := m) (by omega)
      have hyx : y = toB x := by
        have := hy.out
        unfold mB at this
        rw [List.map_append, List.getElem?_append_right (by simp [HM.out])] at this
        simpa [HM.out] using this.symm
      subst hyx
      clear hy
      go_wp2_with fail
      go_ret3
      exact ⟨by rw [HN.out.1, HN.out.2]; rfl, hE1⟩
set_option maxHeartbeats 1000000 in
theorem ref12_Target (s : ByteArray) (w : World) (hs : s.size ≤ 1000000) : Calls Tryd.prog 16 #[.string s] w fun e w' =>
    ∃ A' n c, e = .returned (.tuple #[.slice A' n c, .bool (tgtR s.data.toList), .int .i64 (tgtE s.data.toList : Nat)]) ∧ n ≤ 1000001 ∧ Own w' w.heap.size 9 A' n c (vT (mB (tgtPs s.data.toList))) ∧ Ext w w' := by
  have h2 := fun w => ref12_zero s w hs
  have h3 := fun w => ref12_parts s w hs
  have h4 := fun A n c w h => ref12_long (prt s.data.toList) A n c w h
  rw [long_ok] at h4
  have hl : s.data.toList.length = s.size := (Lib.size_eq s).symm
  have hE : tgtE s.data.toList = if (s.data.toList.isEmpty || s.data.toList.contains 0) = true then 2 else if (okPs s.data.toList && decide (s.data.toList.length ≤ 100)) = true then 0 else 11 := rfl
  have hPs : tgtPs s.data.toList = if tgtE s.data.toList = 0 then prt s.data.toList else [] := rfl
  have hR : tgtR s.data.toList = if tgtE s.data.toList = 0 then Lib.hasPrefix s.data.toList [47] else false := rfl
  have hfirst : (s.data.toList.isEmpty = true ∧ s.toList = []) ∨ (s.data.toList.isEmpty = false ∧ ∃ h : 0 < s.size, Lib.hasPrefix s.data.toList [47] = (s[0]'h == 47)) := by
    by_cases h0 : 0 < s.size
    · refine .inr ⟨?_, h0, ?_⟩
      · cases h : s.data.toList with
        | nil => rw [h] at hl; simp at hl; omega
        | cons _ _ => rfl
      · have hx := Lib.data_getElem? s 0 h0
        cases h : s.data.toList with
        | nil => rw [h] at hl; simp at hl; omega
        | cons a r =>
          rw [h] at hx
          have ha : a = s[0]'h0 := by simpa using hx
          unfold Lib.hasPrefix
          rw [ha]
          simp [List.isPrefixOf]
          rw [Bool.eq_iff_iff]
          simp
          exact eq_comm
    · have : s.data.toList = [] := List.eq_nil_of_length_eq_zero (by omega)
      exact .inl ⟨by rw [this]; rfl, by rw [ByteArray.toList_eq, this]⟩
  have hem : s.toList.isEmpty = s.data.toList.isEmpty := by rw [ByteArray.toList_eq]
  rw [hl] at hE
  obtain ⟨ok, hok⟩ : ∃ b, okPs s.data.toList = b := ⟨_, rfl⟩
  obtain ⟨hp, hhp⟩ : ∃ b, Lib.hasPrefix s.data.toList [47] = b := ⟨_, rfl⟩
  obtain ⟨z, hz⟩ : ∃ b, s.data.toList.contains 0 = b := ⟨_, rfl⟩
  obtain ⟨em, hem2⟩ : ∃ b, s.data.toList.isEmpty = b := ⟨_, rfl⟩
  rw [hok] at h4 hE
  rw [hhp] at hR hfirst
  rw [hz] at h2 hE
  rw [hem2] at hem hfirst hE
  have H2 := hide h2
  have H3 := hide h3
  have H4 := hide h4
  have HP := hide (And.intro hPs hR)
  have HC : (em = true ∧ tgtE s.data.toList = 2) ∨ (em = false ∧ z = true ∧ tgtE s.data.toList = 2) ∨ (em = false ∧ z = false ∧ (100 : Int) < s.size ∧ tgtE s.data.toList = 11) ∨ (em = false ∧ z = false ∧ ¬ (100 : Int) < s.size ∧ ok = false ∧ tgtE s.data.toList = 11) ∨ (em = false ∧ z = false ∧ ¬ (100 : Int) < s.size ∧ ok = true ∧ tgtE s.data.toList = 0) := by
    rw [hE]
    cases em
    · cases z
      · by_cases h : (100 : Int) < s.size
        · exact .inr (.inr (.inl ⟨rfl, rfl, h, by rw [decide_eq_false (by omega)]; cases ok <;> rfl⟩))
        · cases ok
          · exact .inr (.inr (.inr (.inl ⟨rfl, rfl, h, rfl, rfl⟩)))
          · exact .inr (.inr (.inr (.inr ⟨rfl, rfl, h, rfl, by rw [decide_eq_true (by omega)]; rfl⟩)))
      · exact .inr (.inl ⟨rfl, rfl, rfl⟩)
    · exact .inl ⟨rfl, rfl⟩
  clear h2 h3 h4 hE hPs hR hl hok hhp hz hem2
  rcases hfirst with ⟨rfl, hnil⟩ | ⟨rfl, h0, hpx⟩
  · have he : tgtE s.data.toList = 2 := by
      rcases HC with ⟨_, h⟩ | ⟨h, _⟩ | ⟨h, _⟩ | ⟨h, _⟩ | ⟨h, _⟩
      · exact h
      all_goals cases h
    have HE := hide he
    clear he HC
    go_enter Tryd.func16, Tryd.ntmps16
    go_wp2_with fail
    go_ret3
    exact ⟨none, 0, 0, (by rw [HP.out.2, HE.out]; try rfl), by omega, by rw [HP.out.1, HE.out]; exact Own.nilS _ _ _, Ext.refl _⟩
  · have h0' : (0 : Int) < (s.size : Int) := by omega
    obtain ⟨x, hx⟩ : ∃ x : UInt8, s[0]'h0 = x := ⟨_, rfl⟩
    rw [hx] at hpx
    have hxb : ((x.toNat : Int) == 47) = hp := by
      rw [hpx]
      by_cases h : x = 47
      · subst h; rfl
      · rw [show (x == 47) = false from by simpa using h]
        simp
        intro e
        exact h (UInt8.toNat_inj.1 (by show x.toNat = 47; omega))
    clear hpx
    rcases HC with ⟨h, _⟩ | ⟨_, rfl, he⟩ | ⟨_, rfl, hgt, he⟩ | ⟨_, rfl, hgt, rfl, he⟩ | ⟨_, rfl, hgt, rfl, he⟩
    case inl => cases h
    all_goals
      have HE := hide he
      clear he
      go_enter Tryd.func16, Tryd.ntmps16
    case inr.inl =>
      go_wp2_with (go_at_call 24; refine (H2.out _).mono ?_; rintro e w' ⟨rfl, rfl⟩)
      go_ret3
      exact ⟨none, 0, 0, (by rw [HP.out.2, HE.out]; try rfl), by omega, by rw [HP.out.1, HE.out]; exact Own.nilS _ _ _, Ext.refl _⟩
    case inr.inr.inl =>
      go_wp2_with (go_at_call 24; refine (H2.out _).mono ?_; rintro e w' ⟨rfl, rfl⟩)
      go_ret3
      exact ⟨none, 0, 0, (by rw [HP.out.2, HE.out]; try rfl), by omega, by rw [HP.out.1, HE.out]; exact Own.nilS _ _ _, Ext.refl _⟩
    case inr.inr.inr.inl =>
      go_wp2_with (go_at_call 24; refine (H2.out _).mono ?_; rintro e w' ⟨rfl, rfl⟩)
      refine (H3.out _).mono ?_
      rintro e w1 ⟨A1, n1, c1, rfl, hn1, hO1, hE1⟩
      go_wp2_with (go_at_call 25; refine (H4.out _ _ _ _ hO1.sl).mono ?_; rintro e w' ⟨rfl, rfl⟩)
      go_ret3
      exact ⟨none, 0, 0, (by rw [HP.out.2, HE.out]; try rfl), by omega, by rw [HP.out.1, HE.out]; exact Own.nilS _ _ _, hE1⟩
    case inr.inr.inr.inr =>
      go_wp2_with (go_at_call 24; refine (H2.out _).mono ?_; rintro e w' ⟨rfl, rfl⟩)
      refine (H3.out _).mono ?_
      rintro e w1 ⟨A1, n1, c1, rfl, hn1, hO1, hE1⟩
      go_upto_region 5 with (go_at_call 25; refine (H4.out _ _ _ _ hO1.sl).mono ?_; rintro e w' ⟨rfl, rfl⟩)
      refine wp_region_held_drew (S := fun w' => True) (by kernel_rfl) trivial (fun hHeld => ?_)
      refine held_take 0 rfl (by kernel_rfl) (by kernel_rfl) (by kernel_rfl) (fun _ _ _ _ h => h) (by rfl) ?_ ?_ (by assumption) ?_
      rotate_left
      · (intro wx hSx; (try dsimp only at hSx); go_simp)
        all_goals with_reducible rfl
      (try simp only [Act.put, List.setIfInBounds_toArray, List.set_cons_zero, List.set_cons_succ])
      refine held_take 2 rfl (by kernel_rfl) (by kernel_rfl) (by kernel_rfl) (fun _ _ _ _ h => h) (by rfl) ?_ ?_ (by assumption) ?_
      rotate_left
      · (intro wx hSx; (try dsimp only at hSx); go_simp)
        all_goals with_reducible rfl
      (try simp only [Act.put, List.setIfInBounds_toArray, List.set_cons_zero, List.set_cons_succ])
      refine held_take 3 rfl (by kernel_rfl) (by kernel_rfl) (by kernel_rfl) (fun _ _ _ _ h => h) (by rfl) ?_ ?_ (by assumption) ?_
      rotate_left
      · (intro wx hSx; (try dsimp only at hSx); go_simp)
        all_goals with_reducible rfl
      (try simp only [Act.put, List.setIfInBounds_toArray, List.set_cons_zero, List.set_cons_succ])
      refine held_take 4 rfl (by kernel_rfl) (by kernel_rfl) (by kernel_rfl) (fun _ _ _ _ h => h) (by rfl) ?_ ?_ (by assumption) ?_
      rotate_left
      · (intro wx hSx; (try dsimp only at hSx); go_simp)
        all_goals with_reducible rfl
      (try simp only [Act.put, List.setIfInBounds_toArray, List.set_cons_zero, List.set_cons_succ])
      refine held_call 1 rfl (by kernel_rfl) (fun K hK => ?_)
      go_simp
      go_at_call 26
      refine (H3.out _).mono ?_
      rintro e w2 ⟨A2, n2, c2, rfl, hn2, hO2, hE2⟩
      go_wp2_with fail
      refine hK.out _ _ trivial (fun hHeld => ?_)
      clear hK K
      (try simp only [Act.put, List.setIfInBounds_toArray, List.set_cons_zero, List.set_cons_succ])
      refine held_take 5 rfl (by kernel_rfl) (by kernel_rfl) (by kernel_rfl) (fun _ _ _ _ h => h) (by rfl) ?_ ?_ (by assumption) ?_
      rotate_left
      · (intro wx hSx; (try dsimp only at hSx); go_simp)
        all_goals with_reducible rfl
      (try simp only [Act.put, List.setIfInBounds_toArray, List.set_cons_zero, List.set_cons_succ])
      refine held_take 6 rfl (by kernel_rfl) (by kernel_rfl) (by kernel_rfl) (fun _ _ _ _ h => h) (by rfl) ?_ ?_ (by assumption) ?_
      rotate_left
      · (intro wx hSx; (try dsimp only at hSx); go_simp)
        all_goals with_reducible rfl
      (try simp only [Act.put, List.setIfInBounds_toArray, List.set_cons_zero, List.set_cons_succ])
      refine held_take 7 rfl (by kernel_rfl) (by kernel_rfl) (by kernel_rfl) (fun _ _ _ _ h => h) (by rfl) ?_ ?_ (by assumption) ?_
      rotate_left
      · (intro wx hSx; (try dsimp only at hSx); go_simp)
        all_goals with_reducible rfl
      (try simp only [Act.put, List.setIfInBounds_toArray, List.set_cons_zero, List.set_cons_succ])
      refine wpAnyH_done (by kernel_rfl) ?_ _
      clear hHeld
      go_wp2_with fail
      go_ret3
      have hE2' := hE1.trans ((Ext.drew (Ext.refl _)).trans hE2)
      exact ⟨A2, n2, c2, (by rw [HP.out.2, HE.out]; first | done | rfl | (rw [if_pos rfl]; try rfl)), hn2, by rw [HP.out.1, HE.out, if_pos rfl]; exact hO2.low hE1.size, hE2'⟩
end Go.Proofs.YtngffmchjjpfbaaDoor
