/- Paths: what the program answers: Clean, Last, Target. -/
import Derived.Test.YtngffmchjjpfbaaDoorPthR
namespace Go.Proofs.YtngffmchjjpfbaaDoor
set_option linter.unusedVariables false
open Go.RowKit

def clnS (l : L8) : L8 := if splE l = 0 then joinL (cleanP (prt l)) else []
theorem cleanP_take {ps : List L8} {k : Nat} {x : L8} (h : ps[k]? = some x) : cleanP (ps.take (k + 1)) = stepC (cleanP (ps.take k)) x := by
  unfold cleanP
  rw [List.take_add_one, h, List.foldl_append]
  rfl
theorem mB_take (ps : List L8) (n : Nat) : mB (ps.take n) = (mB ps).take n := by simp [mB, List.map_take]
theorem clean_bound {l : L8} (h : l.length ≤ 1000000) : (joinL (cleanP (prt l))).length ≤ 100000000000000 := by
  have h1 : ∀ p ∈ cleanP (prt l), p.length ≤ 1000000 := fun p hp => by
    rcases cleanP_sub (prt l) [] p hp with h2 | h2
    · simp at h2
    · have := prt_plen l p h2.1; omega
  have h2 := joinL_len h1
  have h3 : (cleanP (prt l)).length ≤ 1000001 := by
    have h4 := cleanP_len (prt l) []
    have h5 := prt_len l
    unfold cleanP
    simp at h4
    omega
  have h4 : (cleanP (prt l)).length * (1000000 + 1) ≤ 1000001 * (1000000 + 1) := Nat.mul_le_mul_right _ h3
  omega
set_option maxHeartbeats 2000000 in
theorem path_Clean (s : ByteArray) (w : World) (hs : s.size ≤ 1000000) : Calls Tryd.prog 11 #[.string s] w fun e w' =>
    e = .returned (.tuple #[.string (toB (clnS s.data.toList)), .int .i64 (splE s.data.toList : Nat)]) ∧ Ext w w' := by
  have hS := fun w => path_Split s w hs
  have hb := clean_bound (l := s.data.toList) (by rw [← Lib.size_eq]; exact hs)
  have hc : clnS s.data.toList = if splE s.data.toList = 0 then joinL (cleanP (prt s.data.toList)) else [] := rfl
  have hp : splPs s.data.toList = if splE s.data.toList = 0 then prt s.data.toList else [] := rfl
  obtain ⟨E, hE⟩ : ∃ E, splE s.data.toList = E := ⟨_, rfl⟩
  obtain ⟨C, hC⟩ : ∃ C, clnS s.data.toList = C := ⟨_, rfl⟩
  obtain ⟨P, hP⟩ : ∃ P, splPs s.data.toList = P := ⟨_, rfl⟩
  rw [hE, hP] at hS
  rw [hE, hC] at hc
  rw [hE, hP] at hp
  rw [hE, hC]
  clear hE hC hP
  generalize prt s.data.toList = Q at *
  have HC := hide hc
  have HP := hide hp
  have HB := hide hb
  clear hc hp hb
  go_enter Tryd.func11, Tryd.ntmps11
  go_wp2_with fail
  go_step3
  go_wp2_with fail
  refine (hS _).mono ?_
  rintro e w1 ⟨A1, n1, c1, rfl, hn1, hO1, hE1⟩
  clear hS
  by_cases h0 : E = 0
  case neg =>
    have hE0 : ((E : Int) != 0) = true := by simp; omega
    have HN := hide (show C = [] by rw [HC.out, if_neg h0])
    clear h0
    go_wp2_with fail
    (try rw [Exit.noGoto_ret])
    go_ret2
    exact ⟨by rw [HN.out]; rfl, hE1⟩
  case pos =>
  subst h0
  have hQ : P = Q := HP.out
  subst hQ
  have hn : n1 = P.length := by have := hO1.len; rw [vT_len, mB_len] at this; exact this.symm
  subst hn
  have hJ := fun A n c w h => path_Join (cleanP P) A n c w h HB.out
  have HN := hide (show C = joinL (cleanP P) from HC.out)
  clear HC HP HB
  go_wp2_with fail
  go_step3
  go_wp2_with fail
  go_loopw [6, 19] (fun o j wr => ∃ (k n6 c6 : Nat) (A6 : Option Addr), k ≤ P.length ∧ j = .int .i64 k ∧ o = .slice A6 n6 c6 ∧ Hid ((cleanP (P.take k)).length = n6) ∧ n6 ≤ k ∧ Own wr w1.heap.size 9 A6 n6 c6 (vT (mB (cleanP (P.take k)))) ∧ Ext w1 wr) (fun _ j _ => P.length - (intOf j).toNat)
  case atStart => exact ⟨0, 0, 0, none, by omega, rfl, rfl, rfl, Nat.le_refl _, Own.nilS _ _ _, Ext.refl _⟩
  case round =>
    obtain ⟨k, n6, c6, A6, hk, rfl, rfl, hn6, hnk, hO, hE⟩ := hrel
    have hsz := hE.size
    have hnc := hO.sl.nc
    by_cases hlt : k < P.length
    · have hlt' : (k : Int) < (P.length : Int) := by omega
      obtain ⟨b, o, x, rfl, hx, hc⟩ := (hO1.sl.ext hE).atT hlt
      obtain ⟨p, hp⟩ : ∃ p, P[k]? = some p := ⟨_, List.getElem?_eq_getElem hlt⟩
      have hxp : x = toB p := by
        have := hx.out
        unfold mB at this
        rw [List.getElem?_map, hp] at this
        simpa using this.symm
      have hst := cleanP_take hp
      have hxl : x.toList = p := by rw [hxp, toB_list]
      have HX := hide (And.intro hxp hst)
      clear hxp hx hp hst
      cases h2 : (p == [46, 46])
      · have e2 : (x.toList == [46, 46]) = false := by rw [hxl]; exact h2
        have hs2 : stepC (cleanP (P.take k)) p = cleanP (P.take k) ++ [p] := by unfold stepC; rw [h2]; rfl
        have HS := hide (show cleanP (P.take (k + 1)) = cleanP (P.take k) ++ [p] by rw [HX.out.2, hs2])
        clear hxl h2 hs2
        go_wp2_with (at_builtin; refine appT rfl (.tmp 31) (.tmp 33) rfl w1.heap.size _ n6 c6 _ rfl (hO.ext ((Ext.refl _).alloc _)) _ 1 1 _ rfl (Sl.lit wr #[.string x] 9 1 rfl (by omega) (by simp [Value.oneCell'])) (by omega) (by simp; omega) ?_; intro A5 c5 w5 hO5 hG5)
        go_roundw
        case rel =>
          refine ⟨k + 1, n6 + 1, c5, A5, by omega, by go_num, rfl, ?_, by omega, ?_, (hE.alloc _).grown hG5 (fun q hq => (hO.block q hq).1)⟩
          · rw [HS.out]; show _ = _; rw [List.length_append, hn6.out]; rfl
          · rw [HS.out, mB_append, vT_append]
            have : vT (mB [p]) = [Value.string x] := by rw [HX.out.1]; rfl
            rw [this]
            exact hO5
        case measure => simp [intOf]; omega
      · have e2 : (x.toList == [46, 46]) = true := by rw [hxl]; exact h2
        have hs2 : stepC (cleanP (P.take k)) p = (cleanP (P.take k)).take (n6 - 1) := by unfold stepC; rw [h2, hn6.out]; rfl
        have HS := hide (show cleanP (P.take (k + 1)) = (cleanP (P.take k)).take (n6 - 1) by rw [HX.out.2, hs2])
        have hmx : max ((n6 : Int) - 1) 0 = ((n6 - 1 : Nat) : Int) := by omega
        have hb1 : ((n6 - 1 : Nat) : Int) ≤ (c6 : Int) := by omega
        have hb2 : (0 : Int) ≤ ((n6 - 1 : Nat) : Int) := by omega
        clear hxl h2 hs2
        go_wp2_with fail
        go_roundw
        case rel =>
          refine ⟨k + 1, n6 - 1, c6, A6, by omega, by go_num, rfl, ?_, by omega, ?_, hE⟩
          · rw [HS.out]; show _ = _; rw [List.length_take, hn6.out]; omega
          · rw [HS.out, mB_take, ← vT_take]; exact hO.pre (by omega)
        case measure => simp [intOf]; omega
    · obtain rfl : k = P.length := by omega
      rw [List.take_of_length_le (Nat.le_refl _)] at hO hn6
      go_wp2_with fail
      refine (hJ _ _ _ _ hO.sl).mono ?_
      rintro e w3 ⟨rfl, hE3⟩
      go_wp2_with fail
      (try rw [Exit.noGoto_ret])
      go_ret2
      exact ⟨by rw [HN.out]; rfl, hE1.trans (hE.trans hE3)⟩
end Go.Proofs.YtngffmchjjpfbaaDoor
