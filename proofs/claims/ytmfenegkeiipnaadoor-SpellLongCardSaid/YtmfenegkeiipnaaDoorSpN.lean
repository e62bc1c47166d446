/- Lines of operations: what the document reads. -/
import Derived.Test.YtmfenegkeiipnaaDoorSpM
namespace Go.Proofs.YtmfenegkeiipnaaDoor
set_option linter.unusedVariables false
set_option linter.unusedSimpArgs false
open Go.RowKit

/-- The fields so far, leniently. -/
def FoldAt (o0 : Opp) (ps : List L8) (o : Opp) (j : Nat) : Prop := ps.foldl fieldR o0 = (ps.drop j).foldl fieldR o
theorem FoldAt.start (o0 : Opp) (ps : List L8) : FoldAt o0 ps o0 0 := rfl
theorem FoldAt.next {o0 : Opp} {ps : List L8} {o o' : Opp} {j : Nat} {p : L8} (h : FoldAt o0 ps o j) (hp : ps[j]? = some p) (hf : fieldR o p = o') : FoldAt o0 ps o' (j + 1) := by
  unfold FoldAt at *
  obtain ⟨h1, h2⟩ := List.getElem?_eq_some_iff.1 hp
  rw [h, List.drop_eq_getElem_cons h1, h2, List.foldl_cons, hf]
theorem FoldAt.all {o0 : Opp} {ps : List L8} {o : Opp} (h : FoldAt o0 ps o ps.length) : ps.foldl fieldR o0 = o := by
  unfold FoldAt at h
  rw [h, List.drop_length]
  rfl
theorem readR_eq {l p0 : L8} {ps : List L8} {o : Opp} (h : spb l = p0 :: ps) (ho : ps.foldl fieldR (start l) = o) : readR l = if o.k = 0 ∨ sayL o ≠ l then none else some o := by
  unfold readR
  rw [h]
  subst ho
  rfl
theorem own_setCell {w : World} {B e : Nat} {A : Option Addr} {n c : Nat} {vs : List Value} (h : Own w B e A n c vs) {b i : Nat} (hb : b < B) (u : Value) : Own (w.setCell ⟨b, i, none⟩ u) B e A n c vs := by
  refine h.kept (row := some b) ⟨rfl, rfl, rfl, by simp [World.setCell], fun k _ hk => ?_⟩ (fun a ha he => ?_)
  · have : b ≠ k := fun e => hk (by rw [e])
    simp [World.setCell, Array.getElem?_modify, this]
  · subst ha
    have := (h.block a.block rfl).1
    injection he with he
    omega
theorem key_le (p : L8) (k : Nat) (h1 : k ≤ p.length) (h2 : ∀ j, j < k → p[j]? ≠ some 61) (h3 : k = p.length ∨ p[k]? = some 61) : keyOf p = p.take k ∧ valOf p = p.drop (min (k + 1) p.length) := by
  rcases h3 with h3 | h3
  · subst h3
    have : (61 : UInt8) ∉ p := fun hm => by
      obtain ⟨j, hj, e⟩ := List.getElem_of_mem hm
      exact h2 j hj (by rw [List.getElem?_eq_getElem hj, e])
    obtain ⟨a, b⟩ := key_none this
    rw [a, b, List.take_length, List.drop_of_length_le (by omega)]
    exact ⟨rfl, rfl⟩
  · obtain ⟨a, b⟩ := key_at h3 h2
    have := (List.getElem?_eq_some_iff.1 h3).1
    rw [a, b, Nat.min_eq_left (by omega)]
    exact ⟨rfl, rfl⟩
theorem fieldR_sm {o : Opp} {p : L8} (ho : o.Sm) (hp : p.length ≤ 100000) : (fieldR o p).Sm := by
  obtain ⟨h1, h2, h3⟩ := ho
  have hv : (unhex (valOf p)).length ≤ 1000000 := by
    have := unhex_le (valOf p)
    have := val_len p
    omega
  unfold fieldR setB setN
  repeat' split
  · exact ⟨hv, h2, h3⟩
  · exact ⟨h1, hv, h3⟩
  · exact ⟨h1, h2, hv⟩
  all_goals exact ⟨h1, h2, h3⟩
theorem foldR_sm : ∀ {ps : List L8} {o : Opp}, (∀ p ∈ ps, p.length ≤ 100000) → o.Sm → (ps.foldl fieldR o).Sm
  | [], o, _, ho => ho
  | p :: ps, o, hp, ho => by
    rw [List.foldl_cons]
    exact foldR_sm (fun x hx => hp x (by simp [hx])) (fieldR_sm ho (hp p (by simp)))
set_option maxRecDepth 100000 in
set_option maxHeartbeats 4000000 in
theorem q_Read (l : L8) (w : World) (hn : l.length ≤ 100000) : Calls Tryd.prog 9 #[.string (toB l)] w fun e w' => ∃ (o : Opp) (A : Option Addr) (n c : Nat) (er : Int), e = .returned (.tuple #[.agg (opV o A n c), .int .i64 er]) ∧ Ext w w' ∧ Sl w' A n c (by8 (nat8 o.da)) ∧ ((readR l = some o ∧ er = 0) ∨ (readR l = none ∧ er = 3 ∧ o = noOp)) := by
  go_enter Tryd.func9, Tryd.ntmps9
  go_wp2_with (with_reducible refine ag_alloc (o := ⟨some 2, _, _, _, _, _⟩) rfl 24 rfl _ 8 zero_op (opL_len _ _ _ _) (by omega) (opL_one noOp none 0 0) w.heap.size (Nat.le_refl _) ?_; intro w1 hR1 hE1 hz1)
  refine (q_parts l w1 (by omega)).mono ?_
  rintro e w2 ⟨AP, np, cp, rfl, hOP, hE2⟩
  have hR2 := hR1.ext hE2
  obtain ⟨p0, ps, hsp⟩ : ∃ p0 ps, spb l = p0 :: ps := by
    cases h : spb l with
    | nil => exact absurd h (spb_ne l)
    | cons a b => exact ⟨a, b, rfl⟩
  have hpc : pcs l = mB (p0 :: ps) := by unfold pcs; rw [hsp]
  rw [hpc] at hOP
  have hnpl : np = ps.length + 1 := by have := hOP.len; rw [vT_len, mB_len, List.length_cons] at this; exact this.symm
  have hcp := hOP.sl.nc
  have hcm := hOP.sl.cm
  obtain ⟨gp, rfl, _, hgp2⟩ := hOP.head (by omega)
  have hP := hOP.sl
  have hpl := spb_len l
  rw [hsp, List.length_cons] at hpl
  have HPL := hide (show ∀ p ∈ ps, p.length ≤ 100000 from fun p hp => by
    have := spb_plen l p (by rw [hsp]; simp [hp])
    omega)
  have HSP := hide hsp
  have hc0 := (hP.cell 0 (.string (toB p0)) (by simp [vT, mB]))
  obtain ⟨_, _, hA, hc0⟩ := hc0
  simp at hA
  obtain ⟨rfl, rfl⟩ := hA
  simp only [Nat.add_zero] at hc0
  have i0 : (0 : Int) < (np : Int) := by omega
  have i0' : 0 < np := by omega
  have HNPL := hide (And.intro hnpl hpl)
  clear hpc hsp hnpl hpl hOP hgp2
  go_upto_region 3 with (first
    | (with_reducible refine ag_zero rfl 24 rfl _ (bld_op _) ?_)
    | (with_reducible refine ag_alloc (o := ⟨some 5, _, _, _, _, _⟩) rfl 24 rfl _ 8 zero_op (opL_len _ _ _ _) (by omega) (opL_one noOp none 0 0) w2.heap.size (Nat.le_refl _) ?_; intro w3 hO3 hE3 hz3)
    | (with_reducible refine ag_store (o := ⟨none, _, _, _, _, _⟩) rfl 24 (.tmp 5) (.tmp 12) rfl w2.heap.size 8 w2.heap.size 24 _ (opL noOp none 0 0) rfl rfl hO3 (opL_len _ _ _ _) (opL_one _ _ _ _) info_op ?_; intro w4 hO4 hG4))
  have hE4 : Ext w2 w4 := hE3.grown hG4 (fun k hk => by cases hk; exact Nat.le_refl _)
  obtain ⟨b5, hb5⟩ : ∃ b, b = w2.heap.size := ⟨_, rfl⟩
  rw [← hb5] at hO4 ⊢
  have HB5 := hide hb5
  clear hb5 hO3 hE3 hz3 hG4
  go_wp2_with fail
  go_loopw [6] (fun v wr => ∃ i : Nat, 1 ≤ i ∧ i ≤ 24 ∧ v = .int .i64 i ∧ Own wr b5 24 (some ⟨b5, 0, none⟩) 8 8 (opL { noOp with k := (kindTo p0 i : Nat) } none 0 0) ∧ Ext w2 wr) (fun v _ => 24 - (intOf v).toNat)
  case atStart => exact ⟨1, by omega, by omega, rfl, by
    have : kindTo p0 1 = 0 := by unfold kindTo; split <;> rfl
    rw [this]
    exact hO4, hE4⟩
  case round =>
    obtain ⟨i, hi1, hi, rfl, hO, hE⟩ := hrel
    by_cases hlt : i < 24
    · have i1 : (i : Int) < 24 := by omega
      have i3 : (0 : Int) ≤ i := by omega
      have hck := hO.cellAt 0 (by omega)
      have hfk := hO.frozenAt 0
      simp only [opL, List.getElem?_cons_zero] at hck
      have HC := hide (show ∀ w', Ext wr w' → (w'.cell? ⟨gp, 0, none⟩ = some (.string (toB p0)) ∧ Ext wr w') from fun w' h => ⟨h.cell (hE.cell hc0), h⟩)
      have e2 := toB_beq (word i) p0
      have HKT := hide (show (kindTo p0 (i + 1) : Nat) = if word i = p0 then i else kindTo p0 i from rfl)
      go_wp2_with fail
      refine wp_region_held_drew (S := (fun w' => w'.cell? ⟨gp, 0, none⟩ = some (.string (toB p0)) ∧ Ext wr w')) (by kernel_rfl) (HC.out _ (Ext.refl wr).drew) (fun hHeld => ?_)
      refine held_take 1 rfl (by kernel_rfl) (by kernel_rfl) (by kernel_rfl) (fun _ _ _ _ h => h) (by rfl) ?_ ?_ (by assumption) ?_
      rotate_left
      · (intro wx hSx; (try dsimp only at hSx); go_simp)
        all_goals with_reducible rfl
      (try simp only [Act.put, List.setIfInBounds_toArray, List.set_cons_zero, List.set_cons_succ])
      refine held_take 4 rfl (by kernel_rfl) (by kernel_rfl) (by kernel_rfl) (fun _ _ _ _ h => h) (by rfl) ?_ ?_ (by assumption) ?_
      rotate_left
      · (intro wx hSx; (try dsimp only at hSx); go_simp)
        all_goals with_reducible rfl
      (try simp only [Act.put, List.setIfInBounds_toArray, List.set_cons_zero, List.set_cons_succ])
      refine held_take 5 rfl (by kernel_rfl) (by kernel_rfl) (by kernel_rfl) (fun _ _ _ _ h => h) (by rfl) ?_ ?_ (by assumption) ?_
      rotate_left
      · (intro wx hSx; (try dsimp only at hSx); go_simp)
        all_goals with_reducible rfl
      (try simp only [Act.put, List.setIfInBounds_toArray, List.set_cons_zero, List.set_cons_succ])
      refine held_take 6 rfl (by kernel_rfl) (by kernel_rfl) (by kernel_rfl) (fun _ _ _ _ h => h) (by rfl) ?_ ?_ (by assumption) ?_
      rotate_left
      · (intro wx hSx; (try dsimp only at hSx); go_simp)
        all_goals with_reducible rfl
      (try simp only [Act.put, List.setIfInBounds_toArray, List.set_cons_zero, List.set_cons_succ])
      refine held_call 0 rfl (by kernel_rfl) (fun K hK => ?_)
      go_simp
      go_at_call 21
      refine (q_words _).mono ?_
      rintro e wx ⟨rfl, hS2, hEx⟩
      have hEx2 : Ext wr wx := ((Ext.refl wr).drew).trans hEx
      obtain ⟨_, _, x, hA, hx, hcx⟩ := hS2.atT hlt
      simp at hA
      obtain ⟨rfl, rfl⟩ := hA
      have hxw : x = toB (word i) := by
        have := hx.out
        unfold mB at this
        rw [List.getElem?_map] at this
        unfold word
        rw [List.getD_eq_getElem?_getD]
        rw [List.getElem?_eq_getElem (show i < wordsL.length from hlt)] at this ⊢
        exact (Option.some.inj this).symm
      rw [hxw, Nat.zero_add] at hcx
      clear hxw hx hS2
      go_wp2_with fail
      refine hK.out _ _ (HC.out _ hEx2) (fun hHeld => ?_)
      clear hK K
      (try simp only [Act.put, List.setIfInBounds_toArray, List.set_cons_zero, List.set_cons_succ])
      refine held_take 2 rfl (by kernel_rfl) (by kernel_rfl) (by kernel_rfl) (fun _ _ _ _ h => h) (by rfl) ?_ ?_ (by assumption) ?_
      rotate_left
      · (intro wx hSx; (try dsimp only at hSx); go_simp)
        all_goals with_reducible rfl
      (try simp only [Act.put, List.setIfInBounds_toArray, List.set_cons_zero, List.set_cons_succ])
      refine held_call 3 rfl (by kernel_rfl) (fun K hK => ?_)
      go_simp
      refine hK.out _ _ (HC.out _ hEx2) (fun hHeld => ?_)
      clear hK K
      (try simp only [Act.put, List.setIfInBounds_toArray, List.set_cons_zero, List.set_cons_succ])
      have hO2 := hO.ext hEx2
      have hE2x := hE.trans hEx2
      have hck := hO2.cellAt 0 (by omega)
      have hfk := hO2.frozenAt 0
      simp only [opL, List.getElem?_cons_zero] at hck
      cases e1 : (word i == p0) with
      | true =>
        rw [e1] at e2
        have HW := hide (show (kindTo p0 (i + 1) : Nat) = i by rw [HKT.out, if_pos (by simpa using e1)])
        have HO := hide (hO2.store 0 (.int .i64 (i : Int)) rfl)
        have HE := hide (hE2x.setCell (p := ⟨b5, 0, none⟩) (Nat.le_of_eq HB5.out.symm) (.int .i64 (i : Int)))
        generalize word i = wi at *
        clear e1 hO hE hO2 hE2x HKT
        refine held_take 7 rfl (by kernel_rfl) (by kernel_rfl) (by kernel_rfl) (fun _ _ _ _ h => h) (by rfl) ?_ ?_ (by assumption) ?_
        rotate_left
        · (intro wx hSx; (try dsimp only at hSx); go_simp)
          all_goals with_reducible rfl
        (try simp only [Act.put, List.setIfInBounds_toArray, List.set_cons_zero, List.set_cons_succ])
        refine wpAnyH_done (by kernel_rfl) ?_ _
        go_wp2_with fail
        go_roundw
        case rel => exact ⟨i + 1, by omega, by omega, by go_num, by rw [HW.out]; exact HO.out, HE.out⟩
        case measure => simp [intOf] <;> omega
      | false =>
        rw [e1] at e2
        have HW := hide (show (kindTo p0 (i + 1) : Nat) = kindTo p0 i by rw [HKT.out, if_neg (by simpa using e1)])
        generalize word i = wi at *
        clear e1 hO hE HKT
        refine held_take 7 rfl (by kernel_rfl) (by kernel_rfl) (by kernel_rfl) (fun _ _ _ _ h => h) (by rfl) ?_ ?_ (by assumption) ?_
        rotate_left
        · (intro wx hSx; (try dsimp only at hSx); go_simp)
          all_goals with_reducible rfl
        (try simp only [Act.put, List.setIfInBounds_toArray, List.set_cons_zero, List.set_cons_succ])
        refine wpAnyH_done (by kernel_rfl) ?_ _
        go_wp2_with fail
        go_roundw
        case rel => exact ⟨i + 1, by omega, by omega, by go_num, by rw [HW.out]; exact hO2, hE2x⟩
        case measure => simp [intOf] <;> omega
    · obtain rfl : i = 24 := by omega
      rw [show ((24 : Nat) : Int) = 24 from rfl]
      have HST := hide (show spb l = p0 :: ps ∧ start l = { noOp with k := (kindTo p0 24 : Nat) } from ⟨HSP.out, by unfold start; rw [HSP.out]; rfl⟩)
      clear hc0 hO4 hE4 hR1 hz1 hlt hi1
      go_wp2_with fail
      go_loopw [7] (fun v wr => ∃ (j : Nat) (o : Opp) (Ad : Option Addr) (nd cd : Nat), j + 1 ≤ np ∧ v = .int .i64 ((j + 1 : Nat) : Int) ∧ Own wr b5 24 (some ⟨b5, 0, none⟩) 8 8 (opL o Ad nd cd) ∧ Own wr (b5 + 1) 5 Ad nd cd (by8 (nat8 o.da)) ∧ Ext w2 wr ∧ Hid (FoldAt (start l) ps o j)) (fun v _ => np - (intOf v).toNat)
      case atStart => exact ⟨0, _, none, 0, 0, by omega, rfl, hO, Own.nilS _ _ _, hE, by rw [HST.out.2]; exact FoldAt.start _ _⟩
      case round =>
        clear hO hE
        obtain ⟨j, o, Ad, nd, cd, hj, rfl, hO, hD, hE, HF⟩ := hrel
        obtain ⟨jj, hjj⟩ : ∃ jj, jj = j + 1 := ⟨_, rfl⟩
        rw [← hjj] at hj ⊢
        have HJJ := hide hjj
        by_cases hlt : jj < np
        · have j1 : (jj : Int) < (np : Int) := by omega
          obtain ⟨p, hp⟩ : ∃ p, ps[j]? = some p := ⟨_, List.getElem?_eq_getElem (by have := HNPL.out.1; omega)⟩
          obtain ⟨_, _, hA, hcx⟩ := (hP.ext hE).cell jj (.string (toB p)) (by
            rw [hjj]
            simp only [vT, mB, List.map_cons, List.getElem?_cons_succ, List.getElem?_map, hp, Option.map_some])
          simp at hA
          obtain ⟨rfl, rfl⟩ := hA
          simp only [Nat.zero_add] at hcx
          have hpj := hide hp
          have hpl : p.length ≤ 100000 := HPL.out p (List.mem_of_getElem? hp)
          have HVL := hide (show (valOf p).length ≤ 1000000 from Nat.le_trans (val_len p) (by omega))
          clear hp hjj
          have hsz := toB_size p
          obtain ⟨n, hnl⟩ : ∃ n, n = p.length := ⟨_, rfl⟩
          rw [← hnl] at hsz hpl
          obtain ⟨s, hs⟩ : ∃ s, s = toB p := ⟨_, rfl⟩
          rw [← hs] at hsz hcx
          have HS := hide hs
          have HL := hide hnl
          clear hs hnl
          go_upto_block 4 with fail
          obtain ⟨wq, hwq⟩ : ∃ wq : World, wq = wr := ⟨_, rfl⟩
          rw [← hwq] at hO hD hE hcx ⊢
          clear hwq
          go_cut [8] from 33 to 50 (fun v wx => ∃ k : Nat, v = .int .i64 k ∧ k ≤ n ∧ wx = wq ∧ Hid (keyOf p = p.take k ∧ valOf p = p.drop (min (k + 1) p.length)))
          case first =>
            go_wp2_with fail
            go_loopw [8] (fun v wr => ∃ k : Nat, v = .int .i64 k ∧ k ≤ n ∧ wr = wq ∧ Hid (∀ j, j < k → p[j]? ≠ some 61)) (fun v _ => n - (intOf v).toNat)
            case atStart => exact ⟨0, rfl, by omega, rfl, fun j hj => by omega⟩
            case round =>
              obtain ⟨k, rfl, hk, rfl, hK0⟩ := hrel
              have W1 : IntKind.i64.wrap ((k : Int) + 1) = (k : Int) + 1 := IntWalk.i64_in _ (by omega)
              by_cases hkn : k < n
              · have k1 : (k : Int) < (n : Int) := by omega
                obtain ⟨b, hb⟩ : ∃ b, p[k]? = some b := ⟨_, List.getElem?_eq_getElem (by rw [← HL.out]; exact hkn)⟩
                have hat : ∀ h : k < s.size, s[k]'h = b := by
                  have := HS.out
                  subst this
                  exact fun h => toB_at hb h
                by_cases hb61 : b = 61
                · subst hb61
                  have HX := hide (key_le p k (by rw [← HL.out]; omega) hK0.out (Or.inr hb))
                  clear hb hK0
                  go_wp2_with fail
                  go_meet
                  case rel => exact ⟨k, rfl, by omega, rfl, HX.out⟩
                · have HX := hide (show ∀ j, j < k + 1 → p[j]? ≠ some 61 from fun j hj => by
                    rcases Nat.lt_or_eq_of_le (Nat.le_of_lt_succ hj) with h | h
                    · exact hK0.out j h
                    · rw [h, hb]; simpa using hb61)
                  have hne : ((b.toNat : Int) == 61) = false := by
                    rw [beq_eq_false_iff_ne]
                    intro e
                    exact hb61 (UInt8.toNat.inj (by have : b.toNat = 61 := by omega
                                                    exact this))
                  have hne2 : ((b.toNat : Int) != 61) = true := by unfold bne; rw [hne]; rfl
                  clear hb hb61 hK0
                  go_wp2_with fail
                  go_roundw
                  case rel => exact ⟨k + 1, by go_num, by omega, by trivial, HX.out⟩
                  case measure => simp [intOf] <;> omega
              · obtain rfl : k = n := by omega
                have HX := hide (key_le p k (by rw [← HL.out]; omega) hK0.out (Or.inl HL.out))
                go_wp2_with fail
                go_meet
                case rel => exact ⟨k, rfl, by omega, rfl, HX.out⟩
          case rest =>
          obtain ⟨k, rfl, hkn, hww, HKV⟩ := hcut
          subst hww
          rename World => wq
          obtain ⟨q, hq⟩ : ∃ q, q = min (k + 1) p.length := ⟨_, rfl⟩
          have hmin : min ((k : Int) + 1) (n : Int) = (q : Int) := by have := HL.out; omega
          have hqn : q ≤ n := by have := HL.out; omega
          have W1 : IntKind.i64.wrap ((k : Int) + 1) = (k : Int) + 1 := IntWalk.i64_in _ (by omega)
          have x1 : s.extract q n = toB (valOf p) := by
            rw [HKV.out.2, ← hq, HS.out, HL.out]
            apply ByteArray.ext
            apply Array.ext'
            simp [toB]
            exact List.take_of_length_le (by simp)
          have x2 : s.extract 0 k = toB (keyOf p) := by
            rw [HKV.out.1, HS.out]
            apply ByteArray.ext
            apply Array.ext'
            simp [toB]
          have j2 : (q : Int) ≤ (n : Int) := by omega
          have j3 : (k : Int) ≤ (n : Int) := by omega
          clear hq HKV
          obtain ⟨kB, hkB⟩ : ∃ kB, kB = toB (keyOf p) := ⟨_, rfl⟩
          rw [← hkB] at x2
          have HKB := hide hkB
          clear hkB
          go_wp2_with fail
          refine wp_region_held_drew (S := (fun w' => w'.cell? ⟨gp, jj, none⟩ = some (.string s) ∧ Ext wq w')) (by kernel_rfl) ⟨((Ext.refl wq).drew).cell hcx, (Ext.refl wq).drew⟩ (fun hHeld => ?_)
          refine held_take 0 rfl (by kernel_rfl) (by kernel_rfl) (by kernel_rfl) (fun _ _ _ _ h => h) (by rfl) ?_ ?_ (by assumption) ?_
          rotate_left
          · (intro wx hSx; (try dsimp only at hSx); go_simp)
            all_goals with_reducible rfl
          (try simp only [Act.put, List.setIfInBounds_toArray, List.set_cons_zero, List.set_cons_succ])
          refine held_take 1 rfl (by kernel_rfl) (by kernel_rfl) (by kernel_rfl) (fun _ _ _ _ h => h) (by rfl) ?_ ?_ (by assumption) ?_
          rotate_left
          · (intro wx hSx; (try dsimp only at hSx); go_simp)
            all_goals with_reducible rfl
          (try simp only [Act.put, List.setIfInBounds_toArray, List.set_cons_zero, List.set_cons_succ])
          refine held_take 2 rfl (by kernel_rfl) (by kernel_rfl) (by kernel_rfl) (fun _ _ _ _ h => h) (by rfl) ?_ ?_ (by assumption) ?_
          rotate_left
          · (intro wx hSx; (try dsimp only at hSx); go_simp)
            all_goals with_reducible rfl
          (try simp only [Act.put, List.setIfInBounds_toArray, List.set_cons_zero, List.set_cons_succ])
          refine held_take 3 rfl (by kernel_rfl) (by kernel_rfl) (by kernel_rfl) (fun _ _ _ _ h => h) (by rfl) ?_ ?_ (by assumption) ?_
          rotate_left
          · (intro wx hSx; (try dsimp only at hSx); go_simp)
            all_goals with_reducible rfl
          (try simp only [Act.put, List.setIfInBounds_toArray, List.set_cons_zero, List.set_cons_succ])
          refine held_take 4 rfl (by kernel_rfl) (by kernel_rfl) (by kernel_rfl) (fun _ _ _ _ h => h) (by rfl) ?_ ?_ (by assumption) ?_
          rotate_left
          · (intro wx hSx; (try dsimp only at hSx); go_simp)
            all_goals with_reducible rfl
          (try simp only [Act.put, List.setIfInBounds_toArray, List.set_cons_zero, List.set_cons_succ])
          refine held_take 5 rfl (by kernel_rfl) (by kernel_rfl) (by kernel_rfl) (fun _ _ _ _ h => h) (by rfl) ?_ ?_ (by assumption) ?_
          rotate_left
          · (intro wx hSx; (try dsimp only at hSx); go_simp)
            all_goals with_reducible rfl
          (try simp only [Act.put, List.setIfInBounds_toArray, List.set_cons_zero, List.set_cons_succ])
          refine held_take 6 rfl (by kernel_rfl) (by kernel_rfl) (by kernel_rfl) (fun _ _ _ _ h => h) (by rfl) ?_ ?_ (by assumption) ?_
          rotate_left
          · (intro wx hSx; (try dsimp only at hSx); go_simp)
            all_goals with_reducible rfl
          (try simp only [Act.put, List.setIfInBounds_toArray, List.set_cons_zero, List.set_cons_succ])
          refine held_take 7 rfl (by kernel_rfl) (by kernel_rfl) (by kernel_rfl) (fun _ _ _ _ h => h) (by rfl) ?_ ?_ (by assumption) ?_
          rotate_left
          · (intro wx hSx; (try dsimp only at hSx); go_simp)
            all_goals with_reducible rfl
          (try simp only [Act.put, List.setIfInBounds_toArray, List.set_cons_zero, List.set_cons_succ])
          refine held_take 8 rfl (by kernel_rfl) (by kernel_rfl) (by kernel_rfl) (fun _ _ _ _ h => h) (by rfl) ?_ ?_ (by assumption) ?_
          rotate_left
          · (intro wx hSx; (try dsimp only at hSx); go_simp)
            all_goals with_reducible rfl
          (try simp only [Act.put, List.setIfInBounds_toArray, List.set_cons_zero, List.set_cons_succ])
          refine held_take 9 rfl (by kernel_rfl) (by kernel_rfl) (by kernel_rfl) (fun _ _ _ _ h => h) (by rfl) ?_ ?_ (by assumption) ?_
          rotate_left
          · (intro wx hSx; (try dsimp only at hSx); go_simp)
            all_goals with_reducible rfl
          (try simp only [Act.put, List.setIfInBounds_toArray, List.set_cons_zero, List.set_cons_succ])
          refine held_take 10 rfl (by kernel_rfl) (by kernel_rfl) (by kernel_rfl) (fun _ _ _ _ h => h) (by rfl) ?_ ?_ (by assumption) ?_
          rotate_left
          · (intro wx hSx; (try dsimp only at hSx); go_simp)
            all_goals with_reducible rfl
          (try simp only [Act.put, List.setIfInBounds_toArray, List.set_cons_zero, List.set_cons_succ])
          refine held_take 11 rfl (by kernel_rfl) (by kernel_rfl) (by kernel_rfl) (fun _ _ _ _ h => h) (by rfl) ?_ ?_ (by assumption) ?_
          rotate_left
          · (intro wx hSx; (try dsimp only at hSx); go_simp)
            all_goals with_reducible rfl
          (try simp only [Act.put, List.setIfInBounds_toArray, List.set_cons_zero, List.set_cons_succ])
          refine held_take 12 rfl (by kernel_rfl) (by kernel_rfl) (by kernel_rfl) (fun _ _ _ _ h => h) (by rfl) ?_ ?_ (by assumption) ?_
          rotate_left
          · (intro wx hSx; (try dsimp only at hSx); go_simp)
            all_goals with_reducible rfl
          (try simp only [Act.put, List.setIfInBounds_toArray, List.set_cons_zero, List.set_cons_succ])
          refine held_take 13 rfl (by kernel_rfl) (by kernel_rfl) (by kernel_rfl) (fun _ _ _ _ h => h) (by rfl) ?_ ?_ (by assumption) ?_
          rotate_left
          · (intro wx hSx; (try dsimp only at hSx); go_simp)
            all_goals with_reducible rfl
          (try simp only [Act.put, List.setIfInBounds_toArray, List.set_cons_zero, List.set_cons_succ])
          refine wpAnyH_done (by kernel_rfl) ?_ _
          have hEd : Ext wq wq.drew := (Ext.refl wq).drew
          have hO := hO.ext hEd
          have hD := hD.ext hEd
          have hE := hE.trans hEd
          have hcx := hEd.cell hcx
          clear hEd
          have W9 : IntKind.i64.wrap ((jj : Int) + 1) = (jj : Int) + 1 := IntWalk.i64_in _ (by omega)
          by_cases hk0 : keyOf p = kFd
          · have HK0 := hide (show (keyOf p == [102, 100]) = true by rw [hk0]; decide)
            have HK0e := hide hk0
            clear hk0
            have g0 : (kB.toList == [102, 100]) = true := by rw [HKB.out, toB_list]; exact HK0.out
            have HN := hide (show FoldAt (start l) ps { o with fd := lenI (valOf p) } (j + 1) from HF.out.next hpj.out (by unfold fieldR; rw [HK0e.out]; rfl))
            clear HF
            go_wp2_with fail
            refine (q_read (valOf p) _ HVL.out).mono ?_
            rintro e wc ⟨rfl, rfl⟩
            have hO2 := hO
            have hD2 := hD
            have hE2b := hE
            have hck := hO2.cellAt 1 (by omega)
            have hfk := hO2.frozenAt 1
            simp only [opL, List.getElem?_cons_zero, List.getElem?_cons_succ] at hck
            have HO2 := hide (hO2.store 1 (.int .i64 (lenI (valOf p))) rfl)
            have HD2 := hide (own_setCell hD2 (b := b5) (i := 1) (by omega) (.int .i64 (lenI (valOf p))))
            have HE2 := hide (hE2b.setCell (p := ⟨b5, 1, none⟩) (Nat.le_of_eq HB5.out.symm) (.int .i64 (lenI (valOf p))))
            clear hO hD hE hO2 hD2 hE2b
            generalize lenI (valOf p) = xv at *
            go_wp2_with fail
            go_roundw
            case rel => exact ⟨j + 1, { o with fd := xv }, Ad, nd, cd, (by have := HJJ.out; omega), (by have := HJJ.out; rw [show ((j + 1 + 1 : Nat) : Int) = (jj : Int) + 1 by omega]), HO2.out, HD2.out, HE2.out, HN.out⟩
            case measure => simp [intOf] <;> omega
          have HK0 := hide (show (keyOf p == [102, 100]) = false by rw [beq_eq_false_iff_ne]; exact hk0)
          by_cases hk1 : keyOf p = kN
          · have HK1 := hide (show (keyOf p == [110]) = true by rw [hk1]; decide)
            have HK1e := hide hk1
            clear hk1
            have g0 : (kB.toList == [102, 100]) = false := by rw [HKB.out, toB_list]; exact HK0.out
            have g1 : (kB.toList == [110]) = true := by rw [HKB.out, toB_list]; exact HK1.out
            have HN := hide (show FoldAt (start l) ps { o with n := lenI (valOf p) } (j + 1) from HF.out.next hpj.out (by unfold fieldR; rw [HK1e.out]; rfl))
            clear HF
            go_wp2_with fail
            refine (q_read (valOf p) _ HVL.out).mono ?_
            rintro e wc ⟨rfl, rfl⟩
            have hO2 := hO
            have hD2 := hD
            have hE2b := hE
            have hck := hO2.cellAt 2 (by omega)
            have hfk := hO2.frozenAt 2
            simp only [opL, List.getElem?_cons_zero, List.getElem?_cons_succ] at hck
            have HO2 := hide (hO2.store 2 (.int .i64 (lenI (valOf p))) rfl)
            have HD2 := hide (own_setCell hD2 (b := b5) (i := 2) (by omega) (.int .i64 (lenI (valOf p))))
            have HE2 := hide (hE2b.setCell (p := ⟨b5, 2, none⟩) (Nat.le_of_eq HB5.out.symm) (.int .i64 (lenI (valOf p))))
            clear hO hD hE hO2 hD2 hE2b
            generalize lenI (valOf p) = xv at *
            go_wp2_with fail
            go_roundw
            case rel => exact ⟨j + 1, { o with n := xv }, Ad, nd, cd, (by have := HJJ.out; omega), (by have := HJJ.out; rw [show ((j + 1 + 1 : Nat) : Int) = (jj : Int) + 1 by omega]), HO2.out, HD2.out, HE2.out, HN.out⟩
            case measure => simp [intOf] <;> omega
          have HK1 := hide (show (keyOf p == [110]) = false by rw [beq_eq_false_iff_ne]; exact hk1)
          by_cases hk2 : keyOf p = kOff
          · have HK2 := hide (show (keyOf p == [111, 102, 102]) = true by rw [hk2]; decide)
            have HK2e := hide hk2
            clear hk2
            have g0 : (kB.toList == [102, 100]) = false := by rw [HKB.out, toB_list]; exact HK0.out
            have g1 : (kB.toList == [110]) = false := by rw [HKB.out, toB_list]; exact HK1.out
            have g2 : (kB.toList == [111, 102, 102]) = true := by rw [HKB.out, toB_list]; exact HK2.out
            have HN := hide (show FoldAt (start l) ps { o with off := lenI (valOf p) } (j + 1) from HF.out.next hpj.out (by unfold fieldR; rw [HK2e.out]; rfl))
            clear HF
            go_wp2_with fail
            refine (q_read (valOf p) _ HVL.out).mono ?_
            rintro e wc ⟨rfl, rfl⟩
            have hO2 := hO
            have hD2 := hD
            have hE2b := hE
            have hck := hO2.cellAt 3 (by omega)
            have hfk := hO2.frozenAt 3
            simp only [opL, List.getElem?_cons_zero, List.getElem?_cons_succ] at hck
            have HO2 := hide (hO2.store 3 (.int .i64 (lenI (valOf p))) rfl)
            have HD2 := hide (own_setCell hD2 (b := b5) (i := 3) (by omega) (.int .i64 (lenI (valOf p))))
            have HE2 := hide (hE2b.setCell (p := ⟨b5, 3, none⟩) (Nat.le_of_eq HB5.out.symm) (.int .i64 (lenI (valOf p))))
            clear hO hD hE hO2 hD2 hE2b
            generalize lenI (valOf p) = xv at *
            go_wp2_with fail
            go_roundw
            case rel => exact ⟨j + 1, { o with off := xv }, Ad, nd, cd, (by have := HJJ.out; omega), (by have := HJJ.out; rw [show ((j + 1 + 1 : Nat) : Int) = (jj : Int) + 1 by omega]), HO2.out, HD2.out, HE2.out, HN.out⟩
            case measure => simp [intOf] <;> omega
          have HK2 := hide (show (keyOf p == [111, 102, 102]) = false by rw [beq_eq_false_iff_ne]; exact hk2)
          by_cases hk3 : keyOf p = kFl
          · have HK3 := hide (show (keyOf p == [102, 108, 97, 103, 115]) = true by rw [hk3]; decide)
            have HK3e := hide hk3
            clear hk3
            have g0 : (kB.toList == [102, 100]) = false := by rw [HKB.out, toB_list]; exact HK0.out
            have g1 : (kB.toList == [110]) = false := by rw [HKB.out, toB_list]; exact HK1.out
            have g2 : (kB.toList == [111, 102, 102]) = false := by rw [HKB.out, toB_list]; exact HK2.out
            have g3 : (kB.toList == [102, 108, 97, 103, 115]) = true := by rw [HKB.out, toB_list]; exact HK3.out
            have HN := hide (show FoldAt (start l) ps { o with fl := lenI (valOf p) } (j + 1) from HF.out.next hpj.out (by unfold fieldR; rw [HK3e.out]; rfl))
            clear HF
            go_wp2_with fail
            refine (q_read (valOf p) _ HVL.out).mono ?_
            rintro e wc ⟨rfl, rfl⟩
            have hO2 := hO
            have hD2 := hD
            have hE2b := hE
            have hck := hO2.cellAt 4 (by omega)
            have hfk := hO2.frozenAt 4
            simp only [opL, List.getElem?_cons_zero, List.getElem?_cons_succ] at hck
            have HO2 := hide (hO2.store 4 (.int .i64 (lenI (valOf p))) rfl)
            have HD2 := hide (own_setCell hD2 (b := b5) (i := 4) (by omega) (.int .i64 (lenI (valOf p))))
            have HE2 := hide (hE2b.setCell (p := ⟨b5, 4, none⟩) (Nat.le_of_eq HB5.out.symm) (.int .i64 (lenI (valOf p))))
            clear hO hD hE hO2 hD2 hE2b
            generalize lenI (valOf p) = xv at *
            go_wp2_with fail
            go_roundw
            case rel => exact ⟨j + 1, { o with fl := xv }, Ad, nd, cd, (by have := HJJ.out; omega), (by have := HJJ.out; rw [show ((j + 1 + 1 : Nat) : Int) = (jj : Int) + 1 by omega]), HO2.out, HD2.out, HE2.out, HN.out⟩
            case measure => simp [intOf] <;> omega
          have HK3 := hide (show (keyOf p == [102, 108, 97, 103, 115]) = false by rw [beq_eq_false_iff_ne]; exact hk3)
          by_cases hk4 : keyOf p = kPa
          · have HK4 := hide (show (keyOf p == [112, 97, 116, 104]) = true by rw [hk4]; decide)
            have HK4e := hide hk4
            clear hk4
            have g0 : (kB.toList == [102, 100]) = false := by rw [HKB.out, toB_list]; exact HK0.out
            have g1 : (kB.toList == [110]) = false := by rw [HKB.out, toB_list]; exact HK1.out
            have g2 : (kB.toList == [111, 102, 102]) = false := by rw [HKB.out, toB_list]; exact HK2.out
            have g3 : (kB.toList == [102, 108, 97, 103, 115]) = false := by rw [HKB.out, toB_list]; exact HK3.out
            have g4 : (kB.toList == [112, 97, 116, 104]) = true := by rw [HKB.out, toB_list]; exact HK4.out
            have HN := hide (show FoldAt (start l) ps { o with pa := unhex (valOf p) } (j + 1) from HF.out.next hpj.out (by unfold fieldR; rw [HK4e.out]; rfl))
            clear HF
            go_wp2_with fail
            refine (q_bytes (valOf p) _ HVL.out).mono ?_
            rintro e wc ⟨Ab, mb, cb, rfl, hOb, hEc⟩
            have hO2 := hO.ext hEc
            have hD2 := hD.ext hEc
            have hE2b := hE.trans hEc
            have hcv := str8 hOb.sl
            rw [strN_nat8] at hcv
            have hck := hO2.cellAt 5 (by omega)
            have hfk := hO2.frozenAt 5
            simp only [opL, List.getElem?_cons_zero, List.getElem?_cons_succ] at hck
            have HO2 := hide (hO2.store 5 (.string (toB (unhex (valOf p)))) rfl)
            have HD2 := hide (own_setCell hD2 (b := b5) (i := 5) (by omega) (.string (toB (unhex (valOf p)))))
            have HE2 := hide (hE2b.setCell (p := ⟨b5, 5, none⟩) (Nat.le_of_eq HB5.out.symm) (.string (toB (unhex (valOf p)))))
            clear hO hD hE hO2 hD2 hE2b hOb
            go_wp2_with fail
            go_roundw
            case rel => exact ⟨j + 1, { o with pa := unhex (valOf p) }, Ad, nd, cd, (by have := HJJ.out; omega), (by have := HJJ.out; rw [show ((j + 1 + 1 : Nat) : Int) = (jj : Int) + 1 by omega]), HO2.out, HD2.out, HE2.out, HN.out⟩
            case measure => simp [intOf] <;> omega
          have HK4 := hide (show (keyOf p == [112, 97, 116, 104]) = false by rw [beq_eq_false_iff_ne]; exact hk4)
          by_cases hk5 : keyOf p = kTo
          · have HK5 := hide (show (keyOf p == [116, 111]) = true by rw [hk5]; decide)
            have HK5e := hide hk5
            clear hk5
            have g0 : (kB.toList == [102, 100]) = false := by rw [HKB.out, toB_list]; exact HK0.out
            have g1 : (kB.toList == [110]) = false := by rw [HKB.out, toB_list]; exact HK1.out
            have g2 : (kB.toList == [111, 102, 102]) = false := by rw [HKB.out, toB_list]; exact HK2.out
            have g3 : (kB.toList == [102, 108, 97, 103, 115]) = false := by rw [HKB.out, toB_list]; exact HK3.out
            have g4 : (kB.toList == [112, 97, 116, 104]) = false := by rw [HKB.out, toB_list]; exact HK4.out
            have g5 : (kB.toList == [116, 111]) = true := by rw [HKB.out, toB_list]; exact HK5.out
            have HN := hide (show FoldAt (start l) ps { o with «to» := unhex (valOf p) } (j + 1) from HF.out.next hpj.out (by unfold fieldR; rw [HK5e.out]; rfl))
            clear HF
            go_wp2_with fail
            refine (q_bytes (valOf p) _ HVL.out).mono ?_
            rintro e wc ⟨Ab, mb, cb, rfl, hOb, hEc⟩
            have hO2 := hO.ext hEc
            have hD2 := hD.ext hEc
            have hE2b := hE.trans hEc
            have hcv := str8 hOb.sl
            rw [strN_nat8] at hcv
            have hck := hO2.cellAt 6 (by omega)
            have hfk := hO2.frozenAt 6
            simp only [opL, List.getElem?_cons_zero, List.getElem?_cons_succ] at hck
            have HO2 := hide (hO2.store 6 (.string (toB (unhex (valOf p)))) rfl)
            have HD2 := hide (own_setCell hD2 (b := b5) (i := 6) (by omega) (.string (toB (unhex (valOf p)))))
            have HE2 := hide (hE2b.setCell (p := ⟨b5, 6, none⟩) (Nat.le_of_eq HB5.out.symm) (.string (toB (unhex (valOf p)))))
            clear hO hD hE hO2 hD2 hE2b hOb
            go_wp2_with fail
            go_roundw
            case rel => exact ⟨j + 1, { o with «to» := unhex (valOf p) }, Ad, nd, cd, (by have := HJJ.out; omega), (by have := HJJ.out; rw [show ((j + 1 + 1 : Nat) : Int) = (jj : Int) + 1 by omega]), HO2.out, HD2.out, HE2.out, HN.out⟩
            case measure => simp [intOf] <;> omega
          have HK5 := hide (show (keyOf p == [116, 111]) = false by rw [beq_eq_false_iff_ne]; exact hk5)
          by_cases hk6 : keyOf p = kDa
          · have HK6 := hide (show (keyOf p == [100, 97, 116, 97]) = true by rw [hk6]; decide)
            have HK6e := hide hk6
            clear hk6
            have g0 : (kB.toList == [102, 100]) = false := by rw [HKB.out, toB_list]; exact HK0.out
            have g1 : (kB.toList == [110]) = false := by rw [HKB.out, toB_list]; exact HK1.out
            have g2 : (kB.toList == [111, 102, 102]) = false := by rw [HKB.out, toB_list]; exact HK2.out
            have g3 : (kB.toList == [102, 108, 97, 103, 115]) = false := by rw [HKB.out, toB_list]; exact HK3.out
            have g4 : (kB.toList == [112, 97, 116, 104]) = false := by rw [HKB.out, toB_list]; exact HK4.out
            have g5 : (kB.toList == [116, 111]) = false := by rw [HKB.out, toB_list]; exact HK5.out
            have g6 : (kB.toList == [100, 97, 116, 97]) = true := by rw [HKB.out, toB_list]; exact HK6.out
            have HN := hide (show FoldAt (start l) ps { o with da := unhex (valOf p) } (j + 1) from HF.out.next hpj.out (by unfold fieldR; rw [HK6e.out]; rfl))
            clear HF
            go_wp2_with fail
            refine (q_bytes (valOf p) _ HVL.out).mono ?_
            rintro e wc ⟨Ab, mb, cb, rfl, hOb, hEc⟩
            have hO2 := hO.ext hEc
            have hD2 := hOb.low (B' := b5 + 1) (by have := (hO.block b5 rfl).2; omega)
            have hE2b := hE.trans hEc
            have hck := hO2.cellAt 7 (by omega)
            have hfk := hO2.frozenAt 7
            simp only [opL, List.getElem?_cons_zero, List.getElem?_cons_succ] at hck
            have HO2 := hide (hO2.store 7 (.slice Ab mb cb) rfl)
            have HD2 := hide (own_setCell hD2 (b := b5) (i := 7) (by omega) (.slice Ab mb cb))
            have HE2 := hide (hE2b.setCell (p := ⟨b5, 7, none⟩) (Nat.le_of_eq HB5.out.symm) (.slice Ab mb cb))
            clear hO hD hE hO2 hD2 hE2b hOb
            go_wp2_with fail
            go_roundw
            case rel => exact ⟨j + 1, { o with da := unhex (valOf p) }, Ab, mb, cb, (by have := HJJ.out; omega), (by have := HJJ.out; rw [show ((j + 1 + 1 : Nat) : Int) = (jj : Int) + 1 by omega]), HO2.out, HD2.out, HE2.out, HN.out⟩
            case measure => simp [intOf] <;> omega
          have HK6 := hide (show (keyOf p == [100, 97, 116, 97]) = false by rw [beq_eq_false_iff_ne]; exact hk6)
          have HN := hide (show FoldAt (start l) ps o (j + 1) from HF.out.next hpj.out (by
            unfold fieldR isB setN
            rw [if_neg (by rw [Bool.or_eq_true, Bool.or_eq_true]; intro h; rcases h with (h | h) | h; exact hk4 (by simpa using h); exact hk5 (by simpa using h); exact hk6 (by simpa using h))]
            rw [if_neg hk0, if_neg hk1, if_neg hk2, if_neg hk3]))
          clear HF hk0 hk1 hk2 hk3 hk4 hk5 hk6
          have g0 : (kB.toList == [102, 100]) = false := by rw [HKB.out, toB_list]; exact HK0.out
          have g1 : (kB.toList == [110]) = false := by rw [HKB.out, toB_list]; exact HK1.out
          have g2 : (kB.toList == [111, 102, 102]) = false := by rw [HKB.out, toB_list]; exact HK2.out
          have g3 : (kB.toList == [102, 108, 97, 103, 115]) = false := by rw [HKB.out, toB_list]; exact HK3.out
          have g4 : (kB.toList == [112, 97, 116, 104]) = false := by rw [HKB.out, toB_list]; exact HK4.out
          have g5 : (kB.toList == [116, 111]) = false := by rw [HKB.out, toB_list]; exact HK5.out
          have g6 : (kB.toList == [100, 97, 116, 97]) = false := by rw [HKB.out, toB_list]; exact HK6.out
          have HO2 := hide hO
          have HD2 := hide hD
          have HE2 := hide hE
          clear hO hD hE
          go_wp2_with fail
          go_roundw
          case rel => exact ⟨j + 1, o, Ad, nd, cd, (by have := HJJ.out; omega), (by have := HJJ.out; rw [show ((j + 1 + 1 : Nat) : Int) = (jj : Int) + 1 by omega]), HO2.out, HD2.out, HE2.out, HN.out⟩
          case measure => simp [intOf] <;> omega
        · obtain rfl : jj = np := by omega
          have HFS := hide (show ps.foldl fieldR (start l) = o from FoldAt.all (by have := HF.out; have h2 := HNPL.out.1; rw [show j = ps.length by omega] at this; exact this))
          have HSM := hide (show o.Sm by rw [← HFS.out]; exact foldR_sm HPL.out (start_sm l))
          have HOK := hide (show o.Ok by rw [← HFS.out]; exact foldR_ok _ _ (start_ok l))
          have HKK := hide (show InR o.k by
            rw [← HFS.out, foldR_k]
            have := start_k l
            unfold InR
            omega)
          have HR9 := hide (hR2.ext hE)
          have HEw := hide ((hE1.trans hE2).trans hE)
          have HD := hide hD
          have HRE := hide (readR_eq HST.out.1 HFS.out)
          clear hE HF hD hjj
          have hck := hO.cellAt 0 (by omega)
          simp only [opL, List.getElem?_cons_zero] at hck
          by_cases hk0 : o.k = 0
          · have e1 : (o.k == 0) = true := by simpa using hk0
            have HN := hide (show readR l = none by rw [HRE.out, if_pos (Or.inl hk0)])
            clear hk0
            have hR9 := HR9.out
            go_wp2_with (first
              | (with_reducible refine ag_zero rfl 24 rfl _ (bld_op _) ?_)
              | (with_reducible refine ag_store (o := ⟨none, _, _, _, _, _⟩) rfl 24 (.tmp 2) (.tmp 116) rfl w.heap.size 8 w.heap.size 24 _ (opL noOp none 0 0) rfl rfl hR9 (opL_len _ _ _ _) (opL_one _ _ _ _) info_op ?_; intro w9 hR10 hG9))
            have hE9 : Ext w w9 := HEw.out.grown hG9 (fun k hk => by cases hk; exact Nat.le_refl _)
            exact bodyPost_ret (results_agg rfl _ rfl rfl hR10 agg_op info_op) rfl ⟨noOp, none, 0, 0, 3, rfl, hE9, Sl.nilS _, Or.inr ⟨HN.out, rfl, rfl⟩⟩
          · have e1 : (o.k == 0) = false := by simpa using hk0
            have hSay := hide (q_Say o Ad nd cd wr HOK.out HKK.out HSM.out HD.out.sl)
            have HK0 := hide hk0
            clear hk0
            go_wp2_with (with_reducible refine ag_load rfl 24 (.tmp 5) rfl b5 8 b5 24 _ rfl hO agg_op info_op ?_)
            refine hSay.out.mono ?_
            rintro e ws ⟨rfl, hEs⟩
            have hR8 := HR9.out.ext hEs
            have hO8 := hO.ext hEs
            have hbq : ((toB (sayL o)).toList == (toB l).toList) = (sayL o == l) := toB_beq _ _
            have HE8 := hide (HEw.out.trans hEs)
            have HD8 := hide (HD.out.ext hEs)
            have HL8 := hide (show w.heap.size < b5 from by
              have h1 := (hR2.block w.heap.size rfl).2
              have h2 := HB5.out
              omega)
            generalize toB (sayL o) = sy at *
            clear hSay hO
            cases hq : (sayL o == l) with
            | true =>
              rw [hq] at hbq
              have HN := hide (show readR l = some o by rw [HRE.out, if_neg]; intro h; rcases h with h | h; exact HK0.out h; exact h (by simpa using hq))
              clear hq
              go_wp2_with (first
                | (with_reducible refine ag_load rfl 24 (.tmp 5) rfl b5 8 b5 24 _ rfl hO8 agg_op info_op ?_)
                | (with_reducible refine ag_store (o := ⟨none, _, _, _, _, _⟩) rfl 24 (.tmp 2) (.tmp 117) rfl w.heap.size 8 w.heap.size 24 _ (opL o Ad nd cd) rfl rfl hR8 (opL_len _ _ _ _) (opL_one _ _ _ _) info_op ?_; intro w9 hR10 hG9))
              have hE9 : Ext w w9 := HE8.out.grown hG9 (fun k hk => by cases hk; exact Nat.le_refl _)
              have hD9 := (HD8.out.kept hG9 (fun a ha he => by
                subst ha
                have h1 := (HD8.out.block a.block rfl).1
                have h2 := HL8.out
                injection he with he
                omega)).sl
              exact bodyPost_ret (results_agg rfl _ rfl rfl hR10 agg_op info_op) rfl ⟨o, Ad, nd, cd, 0, rfl, hE9, hD9, Or.inl ⟨HN.out, rfl⟩⟩
            | false =>
              rw [hq] at hbq
              have HN := hide (show readR l = none by rw [HRE.out, if_pos]; exact Or.inr (by simpa using hq))
              clear hq
              go_wp2_with (first
                | (with_reducible refine ag_zero rfl 24 rfl _ (bld_op _) ?_)
                | (with_reducible refine ag_store (o := ⟨none, _, _, _, _, _⟩) rfl 24 (.tmp 2) (.tmp 116) rfl w.heap.size 8 w.heap.size 24 _ (opL noOp none 0 0) rfl rfl hR8 (opL_len _ _ _ _) (opL_one _ _ _ _) info_op ?_; intro w9 hR10 hG9))
              have hE9 : Ext w w9 := HE8.out.grown hG9 (fun k hk => by cases hk; exact Nat.le_refl _)
              exact bodyPost_ret (results_agg rfl _ rfl rfl hR10 agg_op info_op) rfl ⟨noOp, none, 0, 0, 3, rfl, hE9, Sl.nilS _, Or.inr ⟨HN.out, rfl, rfl⟩⟩
end Go.Proofs.YtmfenegkeiipnaaDoor
