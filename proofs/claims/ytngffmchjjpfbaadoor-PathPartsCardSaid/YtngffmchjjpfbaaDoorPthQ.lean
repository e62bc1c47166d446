/- Paths: what the program answers. -/
import Derived.Test.YtngffmchjjpfbaaDoorPth
import Derived.Deep.DeepCutAuto
import Derived.Deep.RegionHeld3
import Derived.WalkMore
namespace Go.Proofs.YtngffmchjjpfbaaDoor
set_option linter.unusedVariables false
open Go.RowKit

theorem lng_take {P : List L8} {k : Nat} {p : L8} (h : P[k]? = some p) : (P.take (k + 1)).filter goodP = (P.take k).filter goodP ++ (if goodP p = true then [p] else []) := by
  rw [List.take_add_one, h, List.filter_append]
  congr 1
  simp only [Option.toList_some]
  cases hg : goodP p <;> simp [hg]
set_option maxHeartbeats 2000000 in
theorem path_parts (s : ByteArray) (w : World) (hs : s.size ≤ 1000000) : Calls Tryd.prog 23 #[.string s] w fun e w' =>
    ∃ A' n c vs, e = .returned (.tuple #[.slice A' n c, .bool (okPs s.data.toList)]) ∧ n ≤ 1000001 ∧ Own w' w.heap.size 9 A' n c vs ∧ (okPs s.data.toList = true → vs = vT (mB (prt s.data.toList))) ∧ Ext w w' := by
  have hspl := fun w => str_Split s w hs
  have hpl : (pcs s).length ≤ 1000001 := by unfold pcs; rw [mB_len]; have := spl_len s.data.toList; rw [← Lib.size_eq] at this; omega
  have hplen : ∀ p ∈ spl s.data.toList, p.length ≤ 1000000 := fun p hp => by have := spl_plen _ p hp; rw [← Lib.size_eq] at this; omega
  obtain ⟨P, hP⟩ : ∃ P, spl s.data.toList = P := ⟨_, rfl⟩
  have hpc : pcs s = mB P := by unfold pcs; rw [hP]
  have hprt : prt s.data.toList = P.filter goodP := by unfold prt; rw [hP]
  rw [hpc] at hspl hpl
  rw [hP] at hplen
  rw [mB_len] at hpl
  have hok : okPs s.data.toList = (!(lngP (P.filter goodP)) && decide ((P.filter goodP).length ≤ 20)) := by unfold okPs; rw [hprt]
  have HOK := hide hok
  have HPR := hide hprt
  have HPL := hide hplen
  clear hP hpc hprt hok hplen
  go_enter Tryd.func23, Tryd.ntmps23
  go_wp2_with fail
  go_step3
  go_wp2_with fail
  go_step3
  go_wp2_with fail
  refine (hspl _).mono ?_
  rintro e w1 ⟨rfl, hw1⟩
  have hE1 : Ext w w1 := by rw [hw1]; exact (Ext.refl w).alloc _
  have hS1 : Sl w1 (some ⟨w.heap.size, 0, none⟩) (mB P).length (mB P).length (vT (mB P)) := by
    rw [hw1]
    exact Sl.lit w (vT (mB P)).toArray 9 (mB P).length (by simp [vT_len]) (by rw [mB_len]; omega) (vT_one _)
  clear hw1 hspl
  have HML := hide (mB_len P)
  rw [HML.out] at hS1 ⊢
  go_wp2_with fail
  go_loopw [4, 10] (fun o j wr => ∃ (k n4 c4 : Nat) (A4 : Option Addr), k ≤ P.length ∧ j = .int .i64 k ∧ o = .slice A4 n4 c4 ∧ Hid (((P.take k).filter goodP).length = n4) ∧ n4 ≤ k ∧ Own wr w1.heap.size 9 A4 n4 c4 (vT (mB ((P.take k).filter goodP))) ∧ Hid (lngP ((P.take k).filter goodP) = false) ∧ Ext w1 wr) (fun _ j _ => P.length - (intOf j).toNat)
  case atStart => exact ⟨0, 0, 0, none, by omega, rfl, rfl, rfl, Nat.le_refl _, Own.nilS _ _ _, rfl, Ext.refl _⟩
  case round =>
    obtain ⟨k, n4, c4, A4, hk, rfl, rfl, hn4, hnk, hO, ha, hE⟩ := hrel
    have hsz := hE.size
    by_cases hlt : k < P.length
    · have hlt' : (k : Int) < (P.length : Int) := by omega
      obtain ⟨b, o, x, hA, hx, hc⟩ := (hS1.ext hE).atT hlt
      simp at hA
      obtain ⟨rfl, rfl⟩ := hA
      simp only [Nat.zero_add] at hc
      obtain ⟨p, hp⟩ : ∃ p, P[k]? = some p := ⟨_, List.getElem?_eq_getElem hlt⟩
      have hxp : x = toB p := by
        have := hx.out
        unfold mB at this
        rw [List.getElem?_map, hp] at this
        simpa using this.symm
      have hst := lng_take hp
      have hpl2 := HPL.out p (List.mem_of_getElem? hp)
      have hxs : x.size = p.length := by rw [hxp, toB_size]
      have hxl : x.toList = p := by rw [hxp, toB_list]
      have HX := hide (And.intro hxp hst)
      have hcl := fun w => str_Clone x w (by omega)
      have HCL := hide hcl
      clear hxp hx hp hst hcl
      have hcase : (p = [] ∧ goodP p = false) ∨ (p.isEmpty = false ∧ (p == [46]) = true ∧ goodP p = false) ∨ (p.isEmpty = false ∧ (p == [46]) = false ∧ goodP p = true ∧ (24 : Int) < x.size) ∨ (p.isEmpty = false ∧ (p == [46]) = false ∧ goodP p = true ∧ ¬ (24 : Int) < x.size) := by
        unfold goodP
        cases h1 : p.isEmpty
        · cases h2 : (p == [46])
          · by_cases h3 : (24 : Int) < x.size
            · exact .inr (.inr (.inl ⟨rfl, rfl, rfl, h3⟩))
            · exact .inr (.inr (.inr ⟨rfl, rfl, rfl, h3⟩))
          · exact .inr (.inl ⟨rfl, rfl, rfl⟩)
        · exact .inl ⟨by simpa using h1, rfl⟩
      rcases hcase with ⟨h1, hg⟩ | ⟨h1, h2, hg⟩ | ⟨h1, h2, hg, h3⟩ | ⟨h1, h2, hg, h3⟩
      · have e1 : x.toList = [] := by rw [hxl, h1]
        have e2 : x.toList.isEmpty = true := by rw [e1]; rfl
        have HN := hide (show (P.take (k + 1)).filter goodP = (P.take k).filter goodP by rw [HX.out.2, hg]; simp)
        clear hxl h1 hg hxs hpl2
        go_wp2_with fail
        go_roundw
        case rel => exact ⟨k + 1, n4, c4, A4, by omega, by go_num, rfl, by rw [HN.out]; exact hn4, by omega, by rw [HN.out]; exact hO, by rw [HN.out]; exact ha, hE⟩
        case measure => simp [intOf]; omega
      · have e1 : x.toList.isEmpty = false := by rw [hxl]; exact h1
        have e2 : (x.toList == [46]) = true := by rw [hxl]; exact h2
        have HN := hide (show (P.take (k + 1)).filter goodP = (P.take k).filter goodP by rw [HX.out.2, hg]; simp)
        clear hxl h1 h2 hg hxs hpl2
        go_wp2_with fail
        go_roundw
        case rel => exact ⟨k + 1, n4, c4, A4, by omega, by go_num, rfl, by rw [HN.out]; exact hn4, by omega, by rw [HN.out]; exact hO, by rw [HN.out]; exact ha, hE⟩
        case measure => simp [intOf]; omega
      · have e1 : x.toList.isEmpty = false := by rw [hxl]; exact h1
        have e2 : (x.toList == [46]) = false := by rw [hxl]; exact h2
        have hmem : p ∈ P.filter goodP := by
          have hq : p ∈ (P.take (k + 1)).filter goodP := by rw [HX.out.2, hg]; simp
          rw [List.mem_filter] at hq ⊢
          exact ⟨List.mem_of_mem_take hq.1, hq.2⟩
        have hl : lngP (P.filter goodP) = true := by
          unfold lngP
          rw [List.any_eq_true]
          exact ⟨p, hmem, decide_eq_true (by omega)⟩
        have HN := hide (show okPs s.data.toList = false by rw [HOK.out, hl]; rfl)
        clear hxl h1 h2 hg hxs hpl2 hmem hl
        go_wp2_with fail
        (try rw [Exit.noGoto_ret])
        go_ret2
        exact ⟨none, 0, 0, [], (by rw [HN.out]; try rfl), by omega, Own.nilS _ _ _, (fun h => by rw [HN.out] at h; cases h), hE1.trans hE⟩
      · have e1 : x.toList.isEmpty = false := by rw [hxl]; exact h1
        have e2 : (x.toList == [46]) = false := by rw [hxl]; exact h2
        have HN := hide (show (P.take (k + 1)).filter goodP = (P.take k).filter goodP ++ [p] by rw [HX.out.2, hg]; simp)
        have HP := hide (show decide (24 < p.length) = false from decide_eq_false (by omega))
        clear hxl h1 h2 hg hxs hpl2
        go_wp2_with (first
          | (go_at_call 32; (with_reducible refine (HCL.out _).mono ?_); rintro e w2 ⟨rfl, hE2⟩; have hsz2 := (hE.trans hE2).size)
          | (at_builtin; refine appT rfl (.tmp 25) (.tmp 28) rfl w1.heap.size _ n4 c4 _ rfl (hO.ext (hE2.trans ((Ext.refl _).alloc _))) _ 1 1 _ rfl (Sl.lit w2 #[.string x] 9 1 rfl (by omega) (by simp [Value.oneCell'])) (by omega) (by simp; omega) ?_; intro A5 c5 w5 hO5 hG5))
        go_roundw
        case rel =>
          refine ⟨k + 1, n4 + 1, c5, A5, by omega, by go_num, rfl, ?_, by omega, ?_, ?_, ((hE.trans hE2).alloc _).grown hG5 (fun q hq => (hO.block q hq).1)⟩
          · rw [HN.out]; show _ = _; rw [List.length_append, hn4.out]; rfl
          · rw [HN.out, mB_append, vT_append]
            have : vT (mB [p]) = [Value.string x] := by rw [HX.out.1]; rfl
            rw [this]
            exact hO5
          · rw [HN.out]
            show lngP _ = false
            unfold lngP
            rw [List.any_append]
            have := ha.out
            unfold lngP at this
            rw [this]
            simp [HP.out]
        case measure => simp [intOf]; omega
    · obtain rfl : k = P.length := by omega
      rw [List.take_of_length_le (Nat.le_refl _)] at hn4 hO ha
      have hcase : ((n4 : Int) ≤ 20 ∧ okPs s.data.toList = true) ∨ (¬ (n4 : Int) ≤ 20 ∧ okPs s.data.toList = false) := by
        rw [HOK.out, ha.out, hn4.out]
        by_cases h : (n4 : Int) ≤ 20
        · exact .inl ⟨h, by rw [decide_eq_true (by omega)]; rfl⟩
        · exact .inr ⟨h, by rw [decide_eq_false (by omega)]; rfl⟩
      rcases hcase with ⟨h, hb⟩ | ⟨h, hb⟩ <;>
        (have HB := hide hb
         clear hb
         go_wp2_with fail
         (try rw [Exit.noGoto_ret])
         go_ret2
         exact ⟨A4, n4, c4, _, (by rw [HB.out]; try rfl), by omega, hO.low hE1.size, (fun _ => by rw [HPR.out]), hE1.trans hE⟩)
end Go.Proofs.YtngffmchjjpfbaaDoor
