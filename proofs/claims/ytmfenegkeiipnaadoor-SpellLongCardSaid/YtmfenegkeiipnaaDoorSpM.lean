/- Lines of operations: what the program reads. -/
import Derived.Test.YtmfenegkeiipnaaDoorSpL
import Derived.Deep.DeepCutAuto
import Derived.Deep.CutBlock
namespace Go.Proofs.YtmfenegkeiipnaaDoor
set_option linter.unusedVariables false
set_option linter.unusedSimpArgs false
open Go.RowKit

/-- The fields so far. -/
def FieldAt (o0 : Opp) (ps : List L8) (o : Opp) (j : Nat) : Prop := foldS o0 ps = foldS o (ps.drop j)
theorem FieldAt.start (o0 : Opp) (ps : List L8) : FieldAt o0 ps o0 0 := rfl
theorem FieldAt.next {o0 : Opp} {ps : List L8} {o o' : Opp} {j : Nat} {p : L8} (h : FieldAt o0 ps o j) (hp : ps[j]? = some p) (hf : fieldS o p = some o') : FieldAt o0 ps o' (j + 1) := by
  unfold FieldAt at *
  obtain ⟨h1, h2⟩ := List.getElem?_eq_some_iff.1 hp
  rw [h, List.drop_eq_getElem_cons h1, h2, foldS_cons, hf]
theorem FieldAt.stop {o0 : Opp} {ps : List L8} {o : Opp} {j : Nat} {p : L8} (h : FieldAt o0 ps o j) (hp : ps[j]? = some p) (hf : fieldS o p = none) : foldS o0 ps = none := by
  unfold FieldAt at *
  obtain ⟨h1, h2⟩ := List.getElem?_eq_some_iff.1 hp
  rw [h, List.drop_eq_getElem_cons h1, h2, foldS_cons, hf]
theorem FieldAt.all {o0 : Opp} {ps : List L8} {o : Opp} (h : FieldAt o0 ps o ps.length) : foldS o0 ps = some o := by
  unfold FieldAt at h
  rw [h, List.drop_length]
  rfl
theorem readS_eq {l p0 : L8} {ps : List L8} (h : spb l = p0 :: ps) : readS l = match foldS (start l) ps with | some o => if l = [] ∨ sayL o ≠ l then none else some o | none => none := by
  unfold readS
  rw [h]
  rfl
theorem unhex_le : ∀ l : L8, (unhex l).length ≤ l.length
  | [] => Nat.le_refl _
  | [_] => by simp [unhex]
  | a :: b :: l => by
    have := unhex_le l
    simp only [unhex, List.length_cons]
    omega
theorem DatA.grown {w w' : World} {B : Nat} {A : Option Addr} {n c : Nat} {l : L8} (h : DatA w B A n c l) {b : Nat} (hG : w.grownBy w' (some b)) (hb : b < B) : DatA w' B A n c l := by
  rcases h with h | ⟨g, fz, cs, h1, h2, h3, h4⟩
  · exact Or.inl h
  · refine Or.inr ⟨g, fz, cs, h1, h2, ?_, h4⟩
    have hlt := (Array.getElem?_eq_some_iff.1 h3).1
    exact (hG.block g hlt (by intro e; cases e; omega)).trans h3
theorem start_sm (l : L8) : (start l).Sm := by
  unfold start noOp Opp.Sm
  simp
theorem fieldS_sm {o o' : Opp} {p : L8} (h : fieldS o p = some o') (ho : o.Sm) (hp : p.length ≤ 100000) : o'.Sm := by
  obtain ⟨h1, h2, h3⟩ := ho
  have hv : (unhex (valOf p)).length ≤ 1000000 := by
    have := unhex_le (valOf p)
    have := val_len p
    omega
  unfold fieldS at h
  split at h
  · injection h with h
    subst h
    unfold setB
    repeat' split
    · exact ⟨hv, h2, h3⟩
    · exact ⟨h1, hv, h3⟩
    · exact ⟨h1, h2, hv⟩
  · split at h
    · injection h with h
      subst h
      unfold setN
      repeat' split
      all_goals exact ⟨h1, h2, h3⟩
    · cases h
theorem fold_sm : ∀ {ps : List L8} {o o' : Opp}, (∀ p ∈ ps, p.length ≤ 100000) → o.Sm → foldS o ps = some o' → o'.Sm
  | [], o, o', _, ho, h => by
    injection h with h
    rw [← h]
    exact ho
  | p :: ps, o, o', hp, ho, h => by
    rw [foldS_cons] at h
    split at h
    · rename_i q hq
      exact fold_sm (fun x hx => hp x (by simp [hx])) (fieldS_sm hq ho (hp p (by simp))) h
    · cases h
theorem DatA.low {w : World} {B B' : Nat} {A : Option Addr} {n c : Nat} {l : L8} (h : DatA w B A n c l) (hB : B' ≤ B) : DatA w B' A n c l := by
  rcases h with h | ⟨g, fz, cs, h1, h2, h3⟩
  · exact Or.inl h
  · exact Or.inr ⟨g, fz, cs, h1, by omega, h3⟩
theorem info_words : (Tryd.prog.info? 39).map (·.size) = some 24 := by kernel_rfl
theorem ag_words {ops : Array Oper} {rest : List Oper} {o : Oper} {a : Act} {w : World} {Q : Exit → Act → World → Prop} (hgd : o.guard = none) (ho : o.op = .load 39 (.global 0)) (tw : TypeId) (fz : Nat × Nat)
    (hg : w.heap[0]? = some (.cells (vT (mB wordsL)).toArray tw fz)) (h : wpList Tryd.prog ops Q rest (a.put o.dst (.agg (vT (mB wordsL)).toArray)) w) : wpList Tryd.prog ops Q (o :: rest) a w :=
  wpList_load_row hgd 39 (.global 0) ho 0 rfl tw _ fz _ hg Tryd.underlying39 rfl info_words h
theorem words_idx (k : Nat) (h : k < 24) (w : World) : (Instr.index 39 (.agg (vT (mB wordsL)).toArray) (.int .i64 (k : Int))).run Tryd.prog w = .ok (.string (toB (word k))) w := by
  obtain ⟨i, hi, hs⟩ := Option.map_eq_some_iff.1 (show (Tryd.prog.info? 9).map (fun i => i.size) = some 1 by kernel_rfl)
  refine run_index_one (i := i) 39 9 24 Tryd.underlying39 (by kernel_rfl) hi hs _ k _ ?_ rfl w
  unfold word vT mB
  rw [List.getElem?_map, List.getElem?_map, List.getD_eq_getElem?_getD, List.getElem?_eq_getElem (show k < wordsL.length from h)]
  rfl
set_option maxRecDepth 100000 in
set_option maxHeartbeats 4000000 in
theorem f_Read (l : L8) (w : World) (hn : l.length ≤ 100000) (hL : Laid w) : Calls Tryd.prog 8 #[.string (toB l)] w fun e w' => ∃ (o : Opp) (A : Option Addr) (n c : Nat) (er : Int), e = .returned (.tuple #[.agg (opV o A n c), .int .i64 er]) ∧ Ext w w' ∧ DatA w' w.heap.size A n c o.da ∧ ((readS l = some o ∧ er = 0) ∨ (readS l = none ∧ er = 3 ∧ o = noOp ∧ A = none)) := by
  go_enter Tryd.func8, Tryd.ntmps8
  go_wp2_with (with_reducible refine ag_alloc (o := ⟨some 2, _, _, _, _, _⟩) rfl 24 rfl _ 8 zero_op (opL_len _ _ _ _) (by omega) (opL_one noOp none 0 0) w.heap.size (Nat.le_refl _) ?_; intro w1 hR1 hE1 hz1)
  go_step3
  go_wp2_with fail
  refine (f_Split l w1 (by omega)).mono ?_
  rintro e w2 ⟨gp, np, rfl, hP, hnp, hE2⟩
  have HNP := hide hnp
  clear hnp
  have hR2 := hR1.ext hE2
  have hL2 := hL.ext (hE1.trans hE2)
  obtain ⟨tw, fz, hwd⟩ := hL2.wrd
  obtain ⟨p0, ps, hsp⟩ : ∃ p0 ps, spb l = p0 :: ps := by
    cases h : spb l with
    | nil => exact absurd h (spb_ne l)
    | cons a b => exact ⟨a, b, rfl⟩
  have hpc : pcs l = mB (p0 :: ps) := by unfold pcs; rw [hsp]
  rw [hpc] at hP HNP
  have hnpl : np = ps.length + 1 := by rw [HNP.out, mB_len, List.length_cons]
  have hpl := spb_len l
  rw [hsp, List.length_cons] at hpl
  have HPL := hide (show ∀ p ∈ ps, p.length ≤ 100000 from fun p hp => by
    have := spb_plen l p (by rw [hsp]; simp [hp])
    omega)
  have HSP := hide hsp
  have hc0 := (hP.cell 0 (.string (toB p0)) (by simp [vT, mB]))
  obtain ⟨_, _, hA, hc0⟩ := hc0
  simp at hA
  obtain ⟨rfl, rfl⟩ := hA
  simp only [Nat.add_zero] at hc0
  have i0 : (0 : Int) < (np : Int) := by omega
  have i0' : 0 < np := by omega
  have HLL := hide hL2
  have HNPL := hide (And.intro hnpl hpl)
  clear hpc hsp hL hL2 hnpl hpl
  go_upto_region 3 with (first
    | (with_reducible refine ag_zero rfl 24 rfl _ (bld_op _) ?_)
    | (with_reducible refine ag_alloc (o := ⟨some 5, _, _, _, _, _⟩) rfl 24 rfl _ 8 zero_op (opL_len _ _ _ _) (by omega) (opL_one noOp none 0 0) w2.heap.size (Nat.le_refl _) ?_; intro w3 hO3 hE3 hz3)
    | (with_reducible refine ag_store (o := ⟨none, _, _, _, _, _⟩) rfl 24 (.tmp 5) (.tmp 17) rfl w2.heap.size 8 w2.heap.size 24 _ (opL noOp none 0 0) rfl rfl hO3 (opL_len _ _ _ _) (opL_one _ _ _ _) info_op ?_; intro w4 hO4 hG4))
  have hE4 : Ext w2 w4 := hE3.grown hG4 (fun k hk => by cases hk; exact Nat.le_refl _)
  have hwd4 := (hE4.block _ (Array.getElem?_eq_some_iff.1 hwd).1).trans hwd
  go_wp2_with (with_reducible refine ag_words rfl rfl tw fz hwd4 ?_)
  obtain ⟨b5, hb5⟩ : ∃ b, b = w2.heap.size := ⟨_, rfl⟩
  rw [← hb5] at hO4 ⊢
  have HB5 := hide hb5
  clear hb5 hO3 hE3 hz3 hG4 hwd hwd4
  go_loopw [19] (fun v wr => ∃ i : Nat, i ≤ 24 ∧ v = .int .i64 i ∧ Own wr b5 24 (some ⟨b5, 0, none⟩) 8 8 (opL { noOp with k := (kindTo p0 i : Nat) } none 0 0) ∧ Ext w2 wr) (fun v _ => 24 - (intOf v).toNat)
  case atStart => exact ⟨0, by omega, rfl, hO4, hE4⟩
  case round =>
    obtain ⟨i, hi, rfl, hO, hE⟩ := hrel
    by_cases hlt : i < 24
    · have i1 : (i : Int) < 24 := by omega
      have hx := words_idx i hlt
      have hc := hE.cell hc0
      have hck := hO.cellAt 0 (by omega)
      have hfk := hO.frozenAt 0
      simp only [opL, List.getElem?_cons_zero] at hck
      cases e1 : (word i == p0) with
      | true =>
        have e2 : ((toB (word i)).toList == (toB p0).toList) = true := by rw [toB_beq, e1]
        have HW := hide (show (kindTo p0 (i + 1) : Nat) = i by unfold kindTo; rw [if_pos (by simpa using e1)])
        have HO := hide (hO.store 0 (.int .i64 (i : Int)) rfl)
        have HE := hide (hE.setCell (p := ⟨b5, 0, none⟩) (Nat.le_of_eq HB5.out.symm) (.int .i64 (i : Int)))
        generalize word i = wi at *
        clear e1 hO hE
        go_wp2_with fail
        go_roundw
        case rel => exact ⟨i + 1, by omega, by go_num, by rw [HW.out]; exact HO.out, HE.out⟩
        case measure => simp [intOf] <;> omega
      | false =>
        have e2 : ((toB (word i)).toList == (toB p0).toList) = false := by rw [toB_beq, e1]
        have HW := hide (show (kindTo p0 (i + 1) : Nat) = kindTo p0 i from by conv => lhs; unfold kindTo; rw [if_neg (by simpa using e1)])
        generalize word i = wi at *
        clear e1
        go_wp2_with fail
        go_roundw
        case rel => exact ⟨i + 1, by omega, by go_num, by rw [HW.out]; exact hO, hE⟩
        case measure => simp [intOf] <;> omega
    · obtain rfl : i = 24 := by omega
      rw [show ((24 : Nat) : Int) = 24 from rfl]
      clear hc0 hO4 hE4 hR1 hz1 hlt
      go_wp2_with fail
      go_step3
      obtain ⟨wo, hwo⟩ : ∃ wo : World, wo = wr := ⟨_, rfl⟩
      rw [← hwo] at hO hE ⊢
      clear hwo
      have hPo := hP.cut (l := 1) (by omega)
      have hPd : (vT (mB (p0 :: ps))).drop 1 = vT (mB ps) := rfl
      rw [hPd] at hPo
      have HPO := hide hPo
      clear hPo hPd
      go_upto_region 9 with fail
      go_cut [32, 33, 34] from 31 to 34 (fun s v i wx => ∃ (X : Option Addr) (m c : Nat), s = .slice X m c ∧ v = .int .i64 m ∧ i = .int .i64 0 ∧ Hid (Sl w2 X m c (vT (mB ps))) ∧ wx = wo)
      case first =>
        have hnc := HPO.out.nc
        by_cases h1 : np = 1
        · subst h1
          go_wp2_with fail
          go_meet
          case rel =>
            have h := HPO.out
            simp only [if_true] at h
            exact ⟨_, _, _, rfl, rfl, rfl, h, rfl⟩
        · go_wp2_with fail
          go_meet
          case rel =>
            have h := HPO.out
            rw [if_neg h1] at h
            exact ⟨_, _, _, rfl, by simp, rfl, h, rfl⟩
      case rest =>
        obtain ⟨X, m, c, rfl, rfl, rfl, hT, hww⟩ := hcut
        subst hww
        have hm : m = ps.length := by have := hT.out.len; rw [vT_len, mB_len] at this; exact this.symm
        have hm2 := hT.out.cm
        have hm3 := hT.out.nc
        have HM := hide hm
        have HST := hide (show spb l = p0 :: ps ∧ start l = { noOp with k := (kindTo p0 24 : Nat) } from ⟨HSP.out, by unfold start; rw [HSP.out]; rfl⟩)
        clear hm
        go_wp2_with fail
        go_loopw [34] (fun v wr => ∃ (j : Nat) (o : Opp) (Ad : Option Addr) (nd cd : Nat), j ≤ m ∧ v = .int .i64 j ∧ Own wr b5 24 (some ⟨b5, 0, none⟩) 8 8 (opL o Ad nd cd) ∧ DatA wr (b5 + 1) Ad nd cd o.da ∧ Ext w2 wr ∧ Hid (FieldAt (start l) ps o j)) (fun v _ => m - (intOf v).toNat)
        case atStart => exact ⟨0, _, none, 0, 0, by omega, rfl, hO, DatA.nilS _ _, hE, by rw [HST.out.2]; exact FieldAt.start _ _⟩
        case round =>
          clear hO hE
          obtain ⟨j, o, Ad, nd, cd, hj, rfl, hO, hD, hE, HF⟩ := hrel
          by_cases hlt : j < m
          · have j1 : (j : Int) < (m : Int) := by omega
            obtain ⟨bx, ox, x, hA, hx, hcx⟩ := (hT.out.ext hE).atT hlt
            subst hA
            obtain ⟨p, hp⟩ : ∃ p, ps[j]? = some p := ⟨_, List.getElem?_eq_getElem (by rw [← HM.out]; exact hlt)⟩
            have hxp : x = toB p := by
              have := hx.out
              unfold mB at this
              rw [List.getElem?_map, hp] at this
              exact (Option.some.inj this).symm
            subst hxp
            have hpj := hide hp
            have hpl : p.length ≤ 100000 := HPL.out p (List.mem_of_getElem? hp)
            have HVL := hide (show (valOf p).length ≤ 1000000 from Nat.le_trans (val_len p) (by omega))
            clear hp hx
            go_wp2_with fail
            refine (f_cut p _ (by omega)).mono ?_
            rintro e wa ⟨bb, rfl, hEa⟩
            go_wp2_with fail
            refine (f_Atoi (valOf p) _ HVL.out ((HLL.out.ext hE).ext hEa)).mono ?_
            rintro e wb ⟨x, ev, rfl, hEb, hv⟩
            obtain ⟨kB, hkB⟩ : ∃ kB, kB = toB (keyOf p) := ⟨_, rfl⟩
            rw [← hkB]
            have HKB := hide hkB
            clear hkB
            by_cases hk0 : keyOf p = kPa
            · have HK0 := hide (show (keyOf p == [112, 97, 116, 104]) = true by rw [hk0]; decide)
              have HK0e := hide hk0
              clear hk0
              have g0 : (kB.toList == [112, 97, 116, 104]) = true := by rw [HKB.out, toB_list]; exact HK0.out
              have HN := hide (show FieldAt (start l) ps { o with pa := unhex (valOf p) } (j + 1) from HF.out.next hpj.out (by rw [fieldS_by (by rw [HK0e.out]; decide), HK0e.out]; rfl))
              clear HF
              go_wp2_with fail
              refine (f_heard (valOf p) _ HVL.out).mono ?_
              rintro e wc ⟨rfl, hEc⟩
              have hO2 := (hO.ext (hEa.trans hEb)).ext hEc
              have hD2 := (hD.ext (hEa.trans hEb)).ext hEc
              have hE2b := hE.trans ((hEa.trans hEb).trans hEc)
              have hck := hO2.cellAt 5 (by omega)
              have hfk := hO2.frozenAt 5
              simp only [opL, List.getElem?_cons_zero, List.getElem?_cons_succ] at hck
              have HO2 := hide (hO2.store 5 (.string (toB (unhex (valOf p)))) rfl)
              have HD2 := hide (hD2.setCell (b := b5) (i := 5) (by omega) (.string (toB (unhex (valOf p)))))
              have HE2 := hide (hE2b.setCell (p := ⟨b5, 5, none⟩) (Nat.le_of_eq HB5.out.symm) (.string (toB (unhex (valOf p)))))
              clear hO hD hE hO2 hD2 hE2b
              go_wp2_with fail
              (try go_step3)
              (try go_wp2_with fail)
              go_roundw
              case rel => exact ⟨j + 1, { o with pa := unhex (valOf p) }, _, _, _, by omega, by go_num, HO2.out, HD2.out, HE2.out, HN.out⟩
              case measure => simp [intOf] <;> omega
            have HK0 := hide (show (keyOf p == [112, 97, 116, 104]) = false by rw [beq_eq_false_iff_ne]; exact hk0)
            by_cases hk1 : keyOf p = kTo
            · have HK1 := hide (show (keyOf p == [116, 111]) = true by rw [hk1]; decide)
              have HK1e := hide hk1
              clear hk1
              have g0 : (kB.toList == [112, 97, 116, 104]) = false := by rw [HKB.out, toB_list]; exact HK0.out
              have g1 : (kB.toList == [116, 111]) = true := by rw [HKB.out, toB_list]; exact HK1.out
              have HN := hide (show FieldAt (start l) ps { o with «to» := unhex (valOf p) } (j + 1) from HF.out.next hpj.out (by rw [fieldS_by (by rw [HK1e.out]; decide), HK1e.out]; rfl))
              clear HF
              go_wp2_with fail
              refine (f_heard (valOf p) _ HVL.out).mono ?_
              rintro e wc ⟨rfl, hEc⟩
              have hO2 := (hO.ext (hEa.trans hEb)).ext hEc
              have hD2 := (hD.ext (hEa.trans hEb)).ext hEc
              have hE2b := hE.trans ((hEa.trans hEb).trans hEc)
              have hck := hO2.cellAt 6 (by omega)
              have hfk := hO2.frozenAt 6
              simp only [opL, List.getElem?_cons_zero, List.getElem?_cons_succ] at hck
              have HO2 := hide (hO2.store 6 (.string (toB (unhex (valOf p)))) rfl)
              have HD2 := hide (hD2.setCell (b := b5) (i := 6) (by omega) (.string (toB (unhex (valOf p)))))
              have HE2 := hide (hE2b.setCell (p := ⟨b5, 6, none⟩) (Nat.le_of_eq HB5.out.symm) (.string (toB (unhex (valOf p)))))
              clear hO hD hE hO2 hD2 hE2b
              go_wp2_with fail
              (try go_step3)
              (try go_wp2_with fail)
              go_roundw
              case rel => exact ⟨j + 1, { o with «to» := unhex (valOf p) }, _, _, _, by omega, by go_num, HO2.out, HD2.out, HE2.out, HN.out⟩
              case measure => simp [intOf] <;> omega
            have HK1 := hide (show (keyOf p == [116, 111]) = false by rw [beq_eq_false_iff_ne]; exact hk1)
            by_cases hk2 : keyOf p = kDa
            · have HK2 := hide (show (keyOf p == [100, 97, 116, 97]) = true by rw [hk2]; decide)
              have HK2e := hide hk2
              clear hk2
              have g0 : (kB.toList == [112, 97, 116, 104]) = false := by rw [HKB.out, toB_list]; exact HK0.out
              have g1 : (kB.toList == [116, 111]) = false := by rw [HKB.out, toB_list]; exact HK1.out
              have g2 : (kB.toList == [100, 97, 116, 97]) = true := by rw [HKB.out, toB_list]; exact HK2.out
              have HN := hide (show FieldAt (start l) ps { o with da := unhex (valOf p) } (j + 1) from HF.out.next hpj.out (by rw [fieldS_by (by rw [HK2e.out]; decide), HK2e.out]; rfl))
              clear HF
              go_wp2_with fail
              refine (f_heard (valOf p) _ HVL.out).mono ?_
              rintro e wc ⟨rfl, hEc⟩
              have hO2 := (hO.ext (hEa.trans hEb)).ext hEc
              have hD2 := (hD.ext (hEa.trans hEb)).ext hEc
              have hE2b := hE.trans ((hEa.trans hEb).trans hEc)
              obtain ⟨cd2, wd, hcv, hEd, hDd⟩ := conv_data (unhex (valOf p)) wc (Nat.le_trans (unhex_le _) HVL.out)
              have hO3 := hO2.ext hEd
              have hE3b := hE2b.trans hEd
              have hlow : b5 + 1 ≤ wc.heap.size := by
                have := (hO2.block b5 rfl).2
                omega
              have hck := hO3.cellAt 7 (by omega)
              have hfk := hO3.frozenAt 7
              simp only [opL, List.getElem?_cons_zero, List.getElem?_cons_succ] at hck
              obtain ⟨gd, hgd⟩ : ∃ gd, gd = wc.heap.size := ⟨_, rfl⟩
              obtain ⟨ld, hld⟩ : ∃ ld, ld = (unhex (valOf p)).length := ⟨_, rfl⟩
              rw [← hgd] at hcv hDd
              rw [← hld] at hcv hDd
              have HO2 := hide (hO3.store 7 (.slice (some ⟨gd, 0, none⟩) ld cd2) rfl)
              have HD2 := hide ((hDd.low (B' := b5 + 1) (by omega)).setCell (b := b5) (i := 7) (by omega) (.slice (some ⟨gd, 0, none⟩) ld cd2))
              have HE2 := hide (hE3b.setCell (p := ⟨b5, 7, none⟩) (Nat.le_of_eq HB5.out.symm) (.slice (some ⟨gd, 0, none⟩) ld cd2))
              clear hO hD hE hO2 hD2 hE2b hO3 hE3b hDd hgd hld hlow
              go_wp2_with fail
              (try go_step3)
              (try go_wp2_with fail)
              go_roundw
              case rel => exact ⟨j + 1, { o with da := unhex (valOf p) }, _, _, _, by omega, by go_num, HO2.out, HD2.out, HE2.out, HN.out⟩
              case measure => simp [intOf] <;> omega
            have HK2 := hide (show (keyOf p == [100, 97, 116, 97]) = false by rw [beq_eq_false_iff_ne]; exact hk2)
            by_cases hk3 : keyOf p = kFd
            · have HK3 := hide (show (keyOf p == [102, 100]) = true by rw [hk3]; decide)
              have HK3e := hide hk3
              clear hk3
              have g0 : (kB.toList == [112, 97, 116, 104]) = false := by rw [HKB.out, toB_list]; exact HK0.out
              have g1 : (kB.toList == [116, 111]) = false := by rw [HKB.out, toB_list]; exact HK1.out
              have g2 : (kB.toList == [100, 97, 116, 97]) = false := by rw [HKB.out, toB_list]; exact HK2.out
              have g3 : (kB.toList == [102, 100]) = true := by rw [HKB.out, toB_list]; exact HK3.out
              rcases hv with ⟨hv, rfl⟩ | ⟨hv, tt, aa, rfl⟩
              · have HN := hide (show FieldAt (start l) ps { o with fd := x } (j + 1) from HF.out.next hpj.out (by rw [fieldS_num (show isB (keyOf p) = false by rw [HK3e.out]; decide) hv, HK3e.out]; rfl))
                clear HF hv
                have hO2 := hO.ext (hEa.trans hEb)
                have hD2 := hD.ext (hEa.trans hEb)
                have hE2b := hE.trans (hEa.trans hEb)
                have hck := hO2.cellAt 1 (by omega)
                have hfk := hO2.frozenAt 1
                simp only [opL, List.getElem?_cons_zero, List.getElem?_cons_succ] at hck
                have HO2 := hide (hO2.store 1 (.int .i64 x) rfl)
                have HD2 := hide (hD2.setCell (b := b5) (i := 1) (by omega) (.int .i64 x))
                have HE2 := hide (hE2b.setCell (p := ⟨b5, 1, none⟩) (Nat.le_of_eq HB5.out.symm) (.int .i64 x))
                clear hO hD hE hO2 hD2 hE2b
                go_wp2_with fail
                go_roundw
                case rel => exact ⟨j + 1, { o with fd := x }, _, _, _, by omega, by go_num, HO2.out, HD2.out, HE2.out, HN.out⟩
                case measure => simp [intOf] <;> omega
              · have HN := hide (show foldS (start l) ps = none from HF.out.stop hpj.out (fieldS_no (show isB (keyOf p) = false by rw [HK3e.out]; decide) hv))
                clear HF hv
                have hO2 := hO.ext (hEa.trans hEb)
                have hD2 := hD.ext (hEa.trans hEb)
                have hE2b := hE.trans (hEa.trans hEb)
                have hck := hO2.cellAt 1 (by omega)
                have hfk := hO2.frozenAt 1
                simp only [opL, List.getElem?_cons_zero, List.getElem?_cons_succ] at hck
                have HO2 := hide (hO2.store 1 (.int .i64 x) rfl)
                have HD2 := hide (hD2.setCell (b := b5) (i := 1) (by omega) (.int .i64 x))
                have HE2 := hide (hE2b.setCell (p := ⟨b5, 1, none⟩) (Nat.le_of_eq HB5.out.symm) (.int .i64 x))
                clear hO hD hE hO2 hD2 hE2b
                have hR9 := hR2.ext HE2.out
                go_wp2_with (first
                  | (with_reducible refine ag_zero rfl 24 rfl _ (bld_op _) ?_)
                  | (with_reducible refine ag_store (o := ⟨none, _, _, _, _, _⟩) rfl 24 (.tmp 2) (.tmp 84) rfl w.heap.size 8 w.heap.size 24 _ (opL noOp none 0 0) rfl rfl hR9 (opL_len _ _ _ _) (opL_one _ _ _ _) info_op ?_; intro w9 hR10 hG9))
                have hE9 : Ext w w9 := ((hE1.trans hE2).trans HE2.out).grown hG9 (fun k hk => by cases hk; exact Nat.le_refl _)
                (try rw [Exit.noGoto_ret])
                exact bodyPost_ret (results_agg rfl _ rfl rfl hR10 agg_op info_op) rfl ⟨noOp, none, 0, 0, 3, rfl, hE9, DatA.nilS _ _, Or.inr ⟨by rw [readS_eq HST.out.1, HN.out], rfl, rfl, rfl⟩⟩
            have HK3 := hide (show (keyOf p == [102, 100]) = false by rw [beq_eq_false_iff_ne]; exact hk3)
            by_cases hk4 : keyOf p = kN
            · have HK4 := hide (show (keyOf p == [110]) = true by rw [hk4]; decide)
              have HK4e := hide hk4
              clear hk4
              have g0 : (kB.toList == [112, 97, 116, 104]) = false := by rw [HKB.out, toB_list]; exact HK0.out
              have g1 : (kB.toList == [116, 111]) = false := by rw [HKB.out, toB_list]; exact HK1.out
              have g2 : (kB.toList == [100, 97, 116, 97]) = false := by rw [HKB.out, toB_list]; exact HK2.out
              have g3 : (kB.toList == [102, 100]) = false := by rw [HKB.out, toB_list]; exact HK3.out
              have g4 : (kB.toList == [110]) = true := by rw [HKB.out, toB_list]; exact HK4.out
              rcases hv with ⟨hv, rfl⟩ | ⟨hv, tt, aa, rfl⟩
              · have HN := hide (show FieldAt (start l) ps { o with n := x } (j + 1) from HF.out.next hpj.out (by rw [fieldS_num (show isB (keyOf p) = false by rw [HK4e.out]; decide) hv, HK4e.out]; rfl))
                clear HF hv
                have hO2 := hO.ext (hEa.trans hEb)
                have hD2 := hD.ext (hEa.trans hEb)
                have hE2b := hE.trans (hEa.trans hEb)
                have hck := hO2.cellAt 2 (by omega)
                have hfk := hO2.frozenAt 2
                simp only [opL, List.getElem?_cons_zero, List.getElem?_cons_succ] at hck
                have HO2 := hide (hO2.store 2 (.int .i64 x) rfl)
                have HD2 := hide (hD2.setCell (b := b5) (i := 2) (by omega) (.int .i64 x))
                have HE2 := hide (hE2b.setCell (p := ⟨b5, 2, none⟩) (Nat.le_of_eq HB5.out.symm) (.int .i64 x))
                clear hO hD hE hO2 hD2 hE2b
                go_wp2_with fail
                go_roundw
                case rel => exact ⟨j + 1, { o with n := x }, _, _, _, by omega, by go_num, HO2.out, HD2.out, HE2.out, HN.out⟩
                case measure => simp [intOf] <;> omega
              · have HN := hide (show foldS (start l) ps = none from HF.out.stop hpj.out (fieldS_no (show isB (keyOf p) = false by rw [HK4e.out]; decide) hv))
                clear HF hv
                have hO2 := hO.ext (hEa.trans hEb)
                have hD2 := hD.ext (hEa.trans hEb)
                have hE2b := hE.trans (hEa.trans hEb)
                have hck := hO2.cellAt 2 (by omega)
                have hfk := hO2.frozenAt 2
                simp only [opL, List.getElem?_cons_zero, List.getElem?_cons_succ] at hck
                have HO2 := hide (hO2.store 2 (.int .i64 x) rfl)
                have HD2 := hide (hD2.setCell (b := b5) (i := 2) (by omega) (.int .i64 x))
                have HE2 := hide (hE2b.setCell (p := ⟨b5, 2, none⟩) (Nat.le_of_eq HB5.out.symm) (.int .i64 x))
                clear hO hD hE hO2 hD2 hE2b
                have hR9 := hR2.ext HE2.out
                go_wp2_with (first
                  | (with_reducible refine ag_zero rfl 24 rfl _ (bld_op _) ?_)
                  | (with_reducible refine ag_store (o := ⟨none, _, _, _, _, _⟩) rfl 24 (.tmp 2) (.tmp 84) rfl w.heap.size 8 w.heap.size 24 _ (opL noOp none 0 0) rfl rfl hR9 (opL_len _ _ _ _) (opL_one _ _ _ _) info_op ?_; intro w9 hR10 hG9))
                have hE9 : Ext w w9 := ((hE1.trans hE2).trans HE2.out).grown hG9 (fun k hk => by cases hk; exact Nat.le_refl _)
                (try rw [Exit.noGoto_ret])
                exact bodyPost_ret (results_agg rfl _ rfl rfl hR10 agg_op info_op) rfl ⟨noOp, none, 0, 0, 3, rfl, hE9, DatA.nilS _ _, Or.inr ⟨by rw [readS_eq HST.out.1, HN.out], rfl, rfl, rfl⟩⟩
            have HK4 := hide (show (keyOf p == [110]) = false by rw [beq_eq_false_iff_ne]; exact hk4)
            by_cases hk5 : keyOf p = kOff
            · have HK5 := hide (show (keyOf p == [111, 102, 102]) = true by rw [hk5]; decide)
              have HK5e := hide hk5
              clear hk5
              have g0 : (kB.toList == [112, 97, 116, 104]) = false := by rw [HKB.out, toB_list]; exact HK0.out
              have g1 : (kB.toList == [116, 111]) = false := by rw [HKB.out, toB_list]; exact HK1.out
              have g2 : (kB.toList == [100, 97, 116, 97]) = false := by rw [HKB.out, toB_list]; exact HK2.out
              have g3 : (kB.toList == [102, 100]) = false := by rw [HKB.out, toB_list]; exact HK3.out
              have g4 : (kB.toList == [110]) = false := by rw [HKB.out, toB_list]; exact HK4.out
              have g5 : (kB.toList == [111, 102, 102]) = true := by rw [HKB.out, toB_list]; exact HK5.out
              rcases hv with ⟨hv, rfl⟩ | ⟨hv, tt, aa, rfl⟩
              · have HN := hide (show FieldAt (start l) ps { o with off := x } (j + 1) from HF.out.next hpj.out (by rw [fieldS_num (show isB (keyOf p) = false by rw [HK5e.out]; decide) hv, HK5e.out]; rfl))
                clear HF hv
                have hO2 := hO.ext (hEa.trans hEb)
                have hD2 := hD.ext (hEa.trans hEb)
                have hE2b := hE.trans (hEa.trans hEb)
                have hck := hO2.cellAt 3 (by omega)
                have hfk := hO2.frozenAt 3
                simp only [opL, List.getElem?_cons_zero, List.getElem?_cons_succ] at hck
                have HO2 := hide (hO2.store 3 (.int .i64 x) rfl)
                have HD2 := hide (hD2.setCell (b := b5) (i := 3) (by omega) (.int .i64 x))
                have HE2 := hide (hE2b.setCell (p := ⟨b5, 3, none⟩) (Nat.le_of_eq HB5.out.symm) (.int .i64 x))
                clear hO hD hE hO2 hD2 hE2b
                go_wp2_with fail
                go_roundw
                case rel => exact ⟨j + 1, { o with off := x }, _, _, _, by omega, by go_num, HO2.out, HD2.out, HE2.out, HN.out⟩
                case measure => simp [intOf] <;> omega
              · have HN := hide (show foldS (start l) ps = none from HF.out.stop hpj.out (fieldS_no (show isB (keyOf p) = false by rw [HK5e.out]; decide) hv))
                clear HF hv
                have hO2 := hO.ext (hEa.trans hEb)
                have hD2 := hD.ext (hEa.trans hEb)
                have hE2b := hE.trans (hEa.trans hEb)
                have hck := hO2.cellAt 3 (by omega)
                have hfk := hO2.frozenAt 3
                simp only [opL, List.getElem?_cons_zero, List.getElem?_cons_succ] at hck
                have HO2 := hide (hO2.store 3 (.int .i64 x) rfl)
                have HD2 := hide (hD2.setCell (b := b5) (i := 3) (by omega) (.int .i64 x))
                have HE2 := hide (hE2b.setCell (p := ⟨b5, 3, none⟩) (Nat.le_of_eq HB5.out.symm) (.int .i64 x))
                clear hO hD hE hO2 hD2 hE2b
                have hR9 := hR2.ext HE2.out
                go_wp2_with (first
                  | (with_reducible refine ag_zero rfl 24 rfl _ (bld_op _) ?_)
                  | (with_reducible refine ag_store (o := ⟨none, _, _, _, _, _⟩) rfl 24 (.tmp 2) (.tmp 84) rfl w.heap.size 8 w.heap.size 24 _ (opL noOp none 0 0) rfl rfl hR9 (opL_len _ _ _ _) (opL_one _ _ _ _) info_op ?_; intro w9 hR10 hG9))
                have hE9 : Ext w w9 := ((hE1.trans hE2).trans HE2.out).grown hG9 (fun k hk => by cases hk; exact Nat.le_refl _)
                (try rw [Exit.noGoto_ret])
                exact bodyPost_ret (results_agg rfl _ rfl rfl hR10 agg_op info_op) rfl ⟨noOp, none, 0, 0, 3, rfl, hE9, DatA.nilS _ _, Or.inr ⟨by rw [readS_eq HST.out.1, HN.out], rfl, rfl, rfl⟩⟩
            have HK5 := hide (show (keyOf p == [111, 102, 102]) = false by rw [beq_eq_false_iff_ne]; exact hk5)
            by_cases hk6 : keyOf p = kFl
            · have HK6 := hide (show (keyOf p == [102, 108, 97, 103, 115]) = true by rw [hk6]; decide)
              have HK6e := hide hk6
              clear hk6
              have g0 : (kB.toList == [112, 97, 116, 104]) = false := by rw [HKB.out, toB_list]; exact HK0.out
              have g1 : (kB.toList == [116, 111]) = false := by rw [HKB.out, toB_list]; exact HK1.out
              have g2 : (kB.toList == [100, 97, 116, 97]) = false := by rw [HKB.out, toB_list]; exact HK2.out
              have g3 : (kB.toList == [102, 100]) = false := by rw [HKB.out, toB_list]; exact HK3.out
              have g4 : (kB.toList == [110]) = false := by rw [HKB.out, toB_list]; exact HK4.out
              have g5 : (kB.toList == [111, 102, 102]) = false := by rw [HKB.out, toB_list]; exact HK5.out
              have g6 : (kB.toList == [102, 108, 97, 103, 115]) = true := by rw [HKB.out, toB_list]; exact HK6.out
              rcases hv with ⟨hv, rfl⟩ | ⟨hv, tt, aa, rfl⟩
              · have HN := hide (show FieldAt (start l) ps { o with fl := x } (j + 1) from HF.out.next hpj.out (by rw [fieldS_num (show isB (keyOf p) = false by rw [HK6e.out]; decide) hv, HK6e.out]; rfl))
                clear HF hv
                have hO2 := hO.ext (hEa.trans hEb)
                have hD2 := hD.ext (hEa.trans hEb)
                have hE2b := hE.trans (hEa.trans hEb)
                have hck := hO2.cellAt 4 (by omega)
                have hfk := hO2.frozenAt 4
                simp only [opL, List.getElem?_cons_zero, List.getElem?_cons_succ] at hck
                have HO2 := hide (hO2.store 4 (.int .i64 x) rfl)
                have HD2 := hide (hD2.setCell (b := b5) (i := 4) (by omega) (.int .i64 x))
                have HE2 := hide (hE2b.setCell (p := ⟨b5, 4, none⟩) (Nat.le_of_eq HB5.out.symm) (.int .i64 x))
                clear hO hD hE hO2 hD2 hE2b
                go_wp2_with fail
                go_roundw
                case rel => exact ⟨j + 1, { o with fl := x }, _, _, _, by omega, by go_num, HO2.out, HD2.out, HE2.out, HN.out⟩
                case measure => simp [intOf] <;> omega
              · have HN := hide (show foldS (start l) ps = none from HF.out.stop hpj.out (fieldS_no (show isB (keyOf p) = false by rw [HK6e.out]; decide) hv))
                clear HF hv
                have hO2 := hO.ext (hEa.trans hEb)
                have hD2 := hD.ext (hEa.trans hEb)
                have hE2b := hE.trans (hEa.trans hEb)
                have hck := hO2.cellAt 4 (by omega)
                have hfk := hO2.frozenAt 4
                simp only [opL, List.getElem?_cons_zero, List.getElem?_cons_succ] at hck
                have HO2 := hide (hO2.store 4 (.int .i64 x) rfl)
                have HD2 := hide (hD2.setCell (b := b5) (i := 4) (by omega) (.int .i64 x))
                have HE2 := hide (hE2b.setCell (p := ⟨b5, 4, none⟩) (Nat.le_of_eq HB5.out.symm) (.int .i64 x))
                clear hO hD hE hO2 hD2 hE2b
                have hR9 := hR2.ext HE2.out
                go_wp2_with (first
                  | (with_reducible refine ag_zero rfl 24 rfl _ (bld_op _) ?_)
                  | (with_reducible refine ag_store (o := ⟨none, _, _, _, _, _⟩) rfl 24 (.tmp 2) (.tmp 84) rfl w.heap.size 8 w.heap.size 24 _ (opL noOp none 0 0) rfl rfl hR9 (opL_len _ _ _ _) (opL_one _ _ _ _) info_op ?_; intro w9 hR10 hG9))
                have hE9 : Ext w w9 := ((hE1.trans hE2).trans HE2.out).grown hG9 (fun k hk => by cases hk; exact Nat.le_refl _)
                (try rw [Exit.noGoto_ret])
                exact bodyPost_ret (results_agg rfl _ rfl rfl hR10 agg_op info_op) rfl ⟨noOp, none, 0, 0, 3, rfl, hE9, DatA.nilS _ _, Or.inr ⟨by rw [readS_eq HST.out.1, HN.out], rfl, rfl, rfl⟩⟩
            have HK6 := hide (show (keyOf p == [102, 108, 97, 103, 115]) = false by rw [beq_eq_false_iff_ne]; exact hk6)
            have HKO := hide (show isB (keyOf p) = false by unfold isB; rw [Bool.or_eq_false_iff, Bool.or_eq_false_iff]; exact ⟨⟨HK0.out, HK1.out⟩, HK2.out⟩)
            have HKS := hide (show ∀ x, setN o (keyOf p) x = o by intro x; unfold setN; rw [if_neg hk3, if_neg hk4, if_neg hk5, if_neg hk6])
            clear hk0 hk1 hk2 hk3 hk4 hk5 hk6
            have g0 : (kB.toList == [112, 97, 116, 104]) = false := by rw [HKB.out, toB_list]; exact HK0.out
            have g1 : (kB.toList == [116, 111]) = false := by rw [HKB.out, toB_list]; exact HK1.out
            have g2 : (kB.toList == [100, 97, 116, 97]) = false := by rw [HKB.out, toB_list]; exact HK2.out
            have g3 : (kB.toList == [102, 100]) = false := by rw [HKB.out, toB_list]; exact HK3.out
            have g4 : (kB.toList == [110]) = false := by rw [HKB.out, toB_list]; exact HK4.out
            have g5 : (kB.toList == [111, 102, 102]) = false := by rw [HKB.out, toB_list]; exact HK5.out
            have g6 : (kB.toList == [102, 108, 97, 103, 115]) = false := by rw [HKB.out, toB_list]; exact HK6.out
            rcases hv with ⟨hv, rfl⟩ | ⟨hv, tt, aa, rfl⟩
            · have HN := hide (show FieldAt (start l) ps o (j + 1) from HF.out.next hpj.out (by rw [fieldS_num HKO.out hv, HKS.out x]))
              clear HF hv
              have HO2 := hide (hO.ext (hEa.trans hEb))
              have HD2 := hide (hD.ext (hEa.trans hEb))
              have HE2 := hide (hE.trans (hEa.trans hEb))
              clear hO hD hE
              go_wp2_with fail
              go_roundw
              case rel => exact ⟨j + 1, o, _, _, _, by omega, by go_num, HO2.out, HD2.out, HE2.out, HN.out⟩
              case measure => simp [intOf] <;> omega
            · have HN := hide (show foldS (start l) ps = none from HF.out.stop hpj.out (fieldS_no HKO.out hv))
              clear HF hv
              have HO2 := hide (hO.ext (hEa.trans hEb))
              have HD2 := hide (hD.ext (hEa.trans hEb))
              have HE2 := hide (hE.trans (hEa.trans hEb))
              clear hO hD hE
              have hR9 := hR2.ext HE2.out
              go_wp2_with (first
                | (with_reducible refine ag_zero rfl 24 rfl _ (bld_op _) ?_)
                | (with_reducible refine ag_store (o := ⟨none, _, _, _, _, _⟩) rfl 24 (.tmp 2) (.tmp 84) rfl w.heap.size 8 w.heap.size 24 _ (opL noOp none 0 0) rfl rfl hR9 (opL_len _ _ _ _) (opL_one _ _ _ _) info_op ?_; intro w9 hR10 hG9))
              have hE9 : Ext w w9 := ((hE1.trans hE2).trans HE2.out).grown hG9 (fun k hk => by cases hk; exact Nat.le_refl _)
              (try rw [Exit.noGoto_ret])
              exact bodyPost_ret (results_agg rfl _ rfl rfl hR10 agg_op info_op) rfl ⟨noOp, none, 0, 0, 3, rfl, hE9, DatA.nilS _ _, Or.inr ⟨by rw [readS_eq HST.out.1, HN.out], rfl, rfl, rfl⟩⟩
          · obtain rfl : j = m := by omega
            have HFS := hide (show foldS (start l) ps = some o from FieldAt.all (by have := HF.out; rw [HM.out] at this; exact this))
            have HSM := hide (fold_sm HPL.out (start_sm l) HFS.out)
            have HOK := hide (show o.Ok by rw [← foldS_R _ _ _ HFS.out]; exact foldR_ok _ _ (start_ok l))
            have HKK := hide (show InR o.k by
              rw [← foldS_R _ _ _ HFS.out, foldR_k]
              have := start_k l
              unfold InR
              omega)
            have HR9 := hide (hR2.ext hE)
            have HEw := hide ((hE1.trans hE2).trans hE)
            have HLr := hide (HLL.out.ext hE)
            have HD := hide hD
            clear hE HF
            by_cases hl0 : l = []
            · subst hl0
              have e1 : (toB []).toList.isEmpty = true := by rw [toB_list]; rfl
              have HN := hide (show readS [] = none by rw [readS_eq HST.out.1, HFS.out]; simp)
              have hR9 := HR9.out
              go_wp2_with (first
                | (with_reducible refine ag_zero rfl 24 rfl _ (bld_op _) ?_)
                | (with_reducible refine ag_store (o := ⟨none, _, _, _, _, _⟩) rfl 24 (.tmp 2) (.tmp 94) rfl w.heap.size 8 w.heap.size 24 _ (opL noOp none 0 0) rfl rfl hR9 (opL_len _ _ _ _) (opL_one _ _ _ _) info_op ?_; intro w9 hR10 hG9))
              have hE9 : Ext w w9 := HEw.out.grown hG9 (fun k hk => by cases hk; exact Nat.le_refl _)
              (try rw [Exit.noGoto_ret])
              exact bodyPost_ret (results_agg rfl _ rfl rfl hR10 agg_op info_op) rfl ⟨noOp, none, 0, 0, 3, rfl, hE9, DatA.nilS _ _, Or.inr ⟨HN.out, rfl, rfl, rfl⟩⟩
            · have e1 : (toB l).toList.isEmpty = false := by rw [toB_list]; cases l with | nil => exact absurd rfl hl0 | cons => rfl
              have hSay := hide (f_Say o Ad nd cd wr HLr.out HOK.out HKK.out HSM.out HD.out.sl)
              have HL0 := hide hl0
              clear hl0
              go_wp2_with (with_reducible refine ag_load rfl 24 (.tmp 5) rfl b5 8 b5 24 _ rfl hO agg_op info_op ?_)
              refine hSay.out.mono ?_
              rintro e ws ⟨rfl, hEs⟩
              have hR8 := HR9.out.ext hEs
              have hO8 := hO.ext hEs
              have hbq : ((toB (sayL o)).toList == (toB l).toList) = (sayL o == l) := toB_beq _ _
              have HE8 := hide (HEw.out.trans hEs)
              have HD8 := hide (HD.out.ext hEs)
              have HL8 := hide (show w.heap.size < b5 from by
                have h1 := (hR2.block w.heap.size rfl).2
                have h2 := HB5.out
                omega)
              generalize toB (sayL o) = sy at *
              clear hSay hO
              cases hq : (sayL o == l) with
              | true =>
                rw [hq] at hbq
                have HN := hide (show readS l = some o by rw [readS_eq HST.out.1, HFS.out]; simp only; rw [if_neg]; intro h; rcases h with h | h; exact HL0.out h; exact h (by simpa using hq))
                clear hq
                go_wp2_with (first
                  | (with_reducible refine ag_load rfl 24 (.tmp 5) rfl b5 8 b5 24 _ rfl hO8 agg_op info_op ?_)
                  | (with_reducible refine ag_store (o := ⟨none, _, _, _, _, _⟩) rfl 24 (.tmp 2) (.tmp 95) rfl w.heap.size 8 w.heap.size 24 _ (opL o Ad nd cd) rfl rfl hR8 (opL_len _ _ _ _) (opL_one _ _ _ _) info_op ?_; intro w9 hR10 hG9))
                have hE9 : Ext w w9 := HE8.out.grown hG9 (fun k hk => by cases hk; exact Nat.le_refl _)
                have hD9 := (HD8.out.grown hG9 (by have := HL8.out; omega)).low (B' := w.heap.size) (by have := HL8.out; omega)
                (try rw [Exit.noGoto_ret])
                exact bodyPost_ret (results_agg rfl _ rfl rfl hR10 agg_op info_op) rfl ⟨o, Ad, nd, cd, 0, rfl, hE9, hD9, Or.inl ⟨HN.out, rfl⟩⟩
              | false =>
                rw [hq] at hbq
                have HN := hide (show readS l = none by rw [readS_eq HST.out.1, HFS.out]; simp only; rw [if_pos]; exact Or.inr (by simpa using hq))
                clear hq
                go_wp2_with (first
                  | (with_reducible refine ag_zero rfl 24 rfl _ (bld_op _) ?_)
                  | (with_reducible refine ag_store (o := ⟨none, _, _, _, _, _⟩) rfl 24 (.tmp 2) (.tmp 94) rfl w.heap.size 8 w.heap.size 24 _ (opL noOp none 0 0) rfl rfl hR8 (opL_len _ _ _ _) (opL_one _ _ _ _) info_op ?_; intro w9 hR10 hG9))
                have hE9 : Ext w w9 := HE8.out.grown hG9 (fun k hk => by cases hk; exact Nat.le_refl _)
                (try rw [Exit.noGoto_ret])
                exact bodyPost_ret (results_agg rfl _ rfl rfl hR10 agg_op info_op) rfl ⟨noOp, none, 0, 0, 3, rfl, hE9, DatA.nilS _ _, Or.inr ⟨HN.out, rfl, rfl, rfl⟩⟩
end Go.Proofs.YtmfenegkeiipnaaDoor
