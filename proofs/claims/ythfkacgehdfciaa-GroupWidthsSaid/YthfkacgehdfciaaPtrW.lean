/- Contracts of blocks of pointers, and of their reference. -/
import Derived.Test.YthfkacgehdfciaaSealW
import Derived.Test.YthfkacgehdfciaaPtr
import Derived.Test.YthfkacgehdfciaaAgg
namespace Go.Proofs.Ythfkacgehdfciaa
open Go.RowKit

theorem info_int : (Try.prog.info? 3).map (fun i => (i.zero, i.size, i.bytes)) = some (some (.int .i64 0), 1, 8) := by kernel_rfl
theorem plain_int : Try.prog.plainKey 3 = true := by kernel_rfl
theorem info_fan : (Try.prog.info? 38).map (·.size) = some 12 := by kernel_rfl
theorem agg_fan (w : World) : (isAgg 38).run Try.prog w = .ok true w := by kernel_rfl
theorem zero_fan : (Try.prog.info? 38).map (·.zero) = some (some (.agg (i64s (z12)).toArray)) := by kernel_rfl
theorem bld_fan (w : World) : (Instr.build 38 #[]).run Try.prog w = .ok (.agg (i64s (z12)).toArray) w := by kernel_rfl
theorem idx_fan (ps : List Int) (hl : ps.length = 12) (k : Nat) (p : Int) (h : ps[k]? = some p) (w : World) : (Instr.index 38 (.agg (i64s ps).toArray) (.int .i64 (k : Int))).run Try.prog w = .ok (.int .i64 p) w := by
  obtain ⟨i0, hi0, hz0, hz1, hz2⟩ := info_parts info_int
  exact run_index_one 38 3 12 Try.underlying38 plain_int hi0 hz1 (i64s ps) k _ (i64s_get h) (by rw [i64s_len, hl]) w

theorem step8 {w : World} {ops : Array Oper} {o : Oper} {a : Act} {K : Act → World → Prop} {Q : Exit → Act → World → Prop} {E : Prop} (hgd : o.guard = none) (s x : Operand)
    (ho : o.op = .call { callee := .builtin .append, args := #[s, x], argTypes := #[22, 22] })
    (B : Nat) (A : Option Addr) (n c : Nat) (xs : List Value) (hs : a.eval s = .slice A n c) (hown : Own w B 5 A n c xs)
    (A2 : Option Addr) (m c2 : Nat) (ys : List Value) (hx : a.eval x = .slice A2 m c2) (hsl : Sl w A2 m c2 ys) (hbytes : n + m ≤ 140737488355328) (hB : B ≤ w.heap.size)
    (h : ∀ A' c' w', Own w' B 5 A' (n + m) c' (xs ++ ys) → w.grownBy w' (Value.slice A n c).ownBlock → K (a.put o.dst (.slice A' (n + m) c')) w') :
    if Region.wanted o (yielded ops a.tmps) = true then Oper.wp Try.prog o a w K Q else E := by
  obtain ⟨i0, hi0, hz0, hz1, hz2⟩ := info_parts info_u8
  exact step_app hgd s x 22 ho B 5 i0 _ 1 Try.underlying22 hi0 hz0 hz1 hz2 rfl A n c xs hs hown A2 m c2 ys hx hsl (by omega) (by omega) hB h

set_option maxHeartbeats 1000000 in
theorem ptr_Lay (ps : List Int) (hl : ps.length = 12) (w : World) :
    Calls Try.prog 30 #[.agg (i64s ps).toArray] w fun e w' => ∃ A' n' c', e = .returned (.tuple #[.slice A' n' c', .int .i64 (layPE ps : Nat)]) ∧ n' ≤ 128 ∧
      Own w' w.heap.size 5 A' n' c' (by8 (layPL ps)) ∧ Ext w w' := by
  have HL := hide hl
  clear hl
  go_enter Try.func30, Try.ntmps30
  go_wp2_with (first
    | (with_reducible refine ag_box (o := ⟨some 1, _, _, _, _, _⟩) rfl 38 _ rfl _ 12 rfl (by rw [i64s_len]; exact HL.out) (by omega) (i64s_one ps) w.heap.size (Nat.le_refl _) ?_; intro w1 hB1 hE1 hz1)
    | (with_reducible refine ag_load (o := ⟨some 7, _, _, _, _, _⟩) rfl 38 (.tmp 1) rfl w.heap.size 12 w.heap.size 38 _ rfl hB1 agg_fan info_fan ?_))
  go_loopw [4, 8] (fun v i wr => ∃ (k : Nat) (A : Option Addr) (c : Nat), k ≤ 12 ∧ i = .int .i64 k ∧ v = .slice A (2 * k) c ∧ Own wr w.heap.size 5 A (2 * k) c (by8 (ptrB (ps.take k))) ∧ Hid ((ps.take k).all word = true) ∧ Ext w wr) (fun _ i _ => 12 - (intOf i).toNat)
  case atStart => exact ⟨0, none, 0, by omega, rfl, rfl, Own.nilS _ _ _, rfl, hE1⟩
  case round =>
    obtain ⟨k, A, c, hk, rfl, rfl, hO, hall, hE⟩ := hrel
    by_cases hlt : k < 12
    · obtain ⟨p, hp⟩ : ∃ p, ps[k]? = some p := ⟨_, List.getElem?_eq_getElem (by rw [HL.out]; exact hlt)⟩
      have hix := idx_fan ps HL.out k p hp
      have HP := hide hp
      clear hp
      by_cases hw1 : p < 0
      · have hno : ¬ ps.all word = true := all_no HP.out (by simp [word]; omega)
        have HN := hide hno
        clear hno
        go_wp2
        go_ret2
        refine ⟨none, 0, 0, ?_, by omega, ?_, hE⟩
        · unfold layPE; rw [if_neg HN.out]; rfl
        · unfold layPL; rw [if_neg HN.out]; exact Own.nilS _ _ _
      by_cases hw2 : 65535 < p
      · have hno : ¬ ps.all word = true := all_no HP.out (by simp [word]; omega)
        have HN := hide hno
        clear hno
        go_wp2
        go_ret2
        refine ⟨none, 0, 0, ?_, by omega, ?_, hE⟩
        · unfold layPE; rw [if_neg HN.out]; rfl
        · unfold layPL; rw [if_neg HN.out]; exact Own.nilS _ _ _
      obtain ⟨q, rfl⟩ := Int.eq_ofNat_of_zero_le (show 0 ≤ p by omega)
      have hsz := hE.size
      go_wp2_with (at_builtin; refine app8 rfl (.tmp 17) (.tmp 23) rfl w.heap.size A (2 * k) c _ rfl (hO.ext ((Ext.refl wr).alloc _)) _ 2 2 _ rfl (Sl.lit wr _ 5 2 rfl (by omega) (by simp [Value.oneCell'])) (by omega) (by simp; omega) ?_; intro A2 c2 w2 hO2 hG2)
      go_roundw
      case rel =>
        refine ⟨k + 1, A2, c2, by omega, by go_num, by rw [Nat.mul_add], ?_, ?_, ?_⟩
        · rw [ptrB_succ HP.out, by8_append, Nat.mul_add]
          rw [by8_wd2 (by omega)]
          exact hO2
        · exact all_succ HP.out hall.out (by simp [word]; omega)
        · exact (hE.alloc _).grown hG2 (fun q hq => (hO.block q hq).1)
      case measure => simp [intOf]; omega
    · obtain rfl : k = 12 := by omega
      have hps : ps.take 12 = ps := List.take_of_length_le (by rw [HL.out]; omega)
      rw [hps] at hO hall
      go_wp2_with fail
      refine (seal_Seal 80 _ _ _ _ _ hO.sl (Bytes.ptrB ps) (by omega) (by omega) (by omega)).mono ?_
      rintro e w2 ⟨g2, c2, rfl, hO2, hE2⟩
      go_wp2_with fail
      go_ret2
      refine ⟨some ⟨g2, 0, none⟩, 128, c2, ?_, by omega, ?_, hE.trans hE2⟩
      · unfold layPE; rw [if_pos hall.out]; rfl
      · unfold layPL; rw [if_pos hall.out]; exact hO2.low hE.size
set_option maxHeartbeats 1000000 in
theorem refptr_Lay (ps : List Int) (hl : ps.length = 12) (w : World) :
    Calls Try.prog 31 #[.agg (i64s ps).toArray] w fun e w' => ∃ A' n' c', e = .returned (.tuple #[.slice A' n' c', .int .i64 (layPE ps : Nat)]) ∧ n' ≤ 128 ∧
      Own w' w.heap.size 5 A' n' c' (by8 (layPL ps)) ∧ Ext w w' := by
  have HL := hide hl
  clear hl
  go_enter Try.func31, Try.ntmps31
  go_wp2_with (first
    | (with_reducible refine ag_box (o := ⟨some 1, _, _, _, _, _⟩) rfl 38 _ rfl _ 12 rfl (by rw [i64s_len]; exact HL.out) (by omega) (i64s_one ps) w.heap.size (Nat.le_refl _) ?_; intro w1 hB1 hE1 hz1))
  go_loopw [4, 5] (fun v i wr => ∃ (k : Nat) (A : Option Addr) (c : Nat), k ≤ 12 ∧ i = .int .i64 k ∧ v = .slice A (2 * k) c ∧ Own wr w1.heap.size 5 A (2 * k) c (by8 (ptrB (ps.take k))) ∧ Hid ((ps.take k).all word = true) ∧ Ext w1 wr) (fun _ i _ => 12 - (intOf i).toNat)
  case atStart => exact ⟨0, none, 0, by omega, rfl, rfl, Own.nilS _ _ _, rfl, Ext.refl _⟩
  case round =>
    obtain ⟨k, A, c, hk, rfl, rfl, hO, hall, hE⟩ := hrel
    by_cases hlt : k < 12
    · obtain ⟨p, hp⟩ : ∃ p, ps[k]? = some p := ⟨_, List.getElem?_eq_getElem (by rw [HL.out]; exact hlt)⟩
      have hcp : wr.cell? ⟨w.heap.size, k, none⟩ = some (.int .i64 p) := by
        have := (hB1.ext hE).cellAt k hlt
        rw [this, i64s_get hp]
      have hI1 : (0 : Int) ≤ (k : Int) := by omega
      have hI2 : (k : Int) < 12 := by omega
      have HP := hide hp
      clear hp
      by_cases hw1 : p < 0
      · have hno : ¬ ps.all word = true := all_no HP.out (by simp [word]; omega)
        have HN := hide hno
        clear hno
        go_wp2
        go_ret2
        refine ⟨none, 0, 0, ?_, by omega, ?_, hE1.trans hE⟩
        · unfold layPE; rw [if_neg HN.out]; rfl
        · unfold layPL; rw [if_neg HN.out]; exact Own.nilS _ _ _
      by_cases hw2 : 65535 < p
      · have hno : ¬ ps.all word = true := all_no HP.out (by simp [word]; omega)
        have HN := hide hno
        clear hno
        go_wp2
        go_ret2
        refine ⟨none, 0, 0, ?_, by omega, ?_, hE1.trans hE⟩
        · unfold layPE; rw [if_neg HN.out]; rfl
        · unfold layPL; rw [if_neg HN.out]; exact Own.nilS _ _ _
      obtain ⟨q, rfl⟩ := Int.eq_ofNat_of_zero_le (show 0 ≤ p by omega)
      have hsz := hE.size
      go_wp2_with fail
      go_region_held3 (fun w' => w'.cell? ⟨w.heap.size, k, none⟩ = some (.int .i64 q)) (first | go_keep | (rw [hG2.cell_far _ (by simp; omega) (fun he => by have := (hO.block _ he.symm).1; simp at this; omega)]; first | assumption | go_keep))
        ((refine step8 (by rfl) (.tmp 20) (.tmp 30) (by rfl) w1.heap.size A (2 * k) c _ (by rfl) (hO.ext ((Ext.refl wr).drew.alloc _)) _ 2 2 _ (by rfl) (Sl.lit wr.drew _ 5 2 rfl (by omega) (by simp [Value.oneCell'])) (by omega) (by simp; omega) ?_; intro A2 c2 w2 hO2 hG2))
      go_wp2
      go_roundw
      case rel =>
        refine ⟨k + 1, A2, c2, by omega, by go_num, by rw [Nat.mul_add], ?_, ?_, ?_⟩
        · rw [ptrB_succ HP.out, by8_append, Nat.mul_add]
          rw [by8_wd2' (by omega)]
          exact hO2
        · exact all_succ HP.out hall.out (by simp [word]; omega)
        · exact (hE.drew.alloc _).grown hG2 (fun q hq => (hO.block q hq).1)
      case measure => simp [intOf]; omega
    · obtain rfl : k = 12 := by omega
      have hps : ps.take 12 = ps := List.take_of_length_le (by rw [HL.out]; omega)
      rw [hps] at hO hall
      go_wp2_with fail
      refine (ref_Seal 80 _ _ _ _ _ hO.sl (Bytes.ptrB ps) (by omega) (by omega) (by omega)).mono ?_
      rintro e w2 ⟨g2, c2, rfl, hO2, hE2⟩
      go_wp2_with fail
      go_ret2
      refine ⟨some ⟨g2, 0, none⟩, 128, c2, ?_, by omega, ?_, hE1.trans (hE.trans hE2)⟩
      · unfold layPE; rw [if_pos hall.out]; rfl
      · unfold layPL; rw [if_pos hall.out]; exact hO2.low (hE1.trans hE).size
set_option maxHeartbeats 1000000 in
theorem ptr_Read (A : Option Addr) (n c : Nat) (xs : List Nat) (w : World) (h : Sl w A n c (by8 xs)) (hb : Bytes xs) :
    Calls Try.prog 32 #[.slice A n c] w fun e w' => e = .returned (.tuple #[.agg (i64s (readPL xs)).toArray, .int .i64 (readPE xs : Nat)]) ∧ Ext w w' := by
  by_cases hk : kindOf xs = 80
  · have hl := kind_len (xs := xs) (by omega)
    have hbl : (bodyOf xs).length = 123 := bodyOf_len hl
    have hbb : Bytes (bodyOf xs) := (hb.drop 1).take 123
    have HK := hide hk
    have HBL := hide hbl
    clear hk hl hbl
    go_enter Try.func32, Try.ntmps32
    go_wp2_with (with_reducible refine ag_alloc (o := ⟨some 2, _, _, _, _, _⟩) rfl 38 rfl _ 12 zero_fan rfl (by omega) (i64s_one _) w.heap.size (Nat.le_refl _) ?_; intro w1 hR1 hE1 hz1)
    refine (seal_Open 80 _ _ _ xs _ (h.ext hE1) hb (by omega) HK.out).mono ?_
    rintro e w2 ⟨g2, c2, rfl, hO2, hE2⟩
    have hz2 := hE2.size
    go_wp2_with (with_reducible refine ag_alloc (o := ⟨some 6, _, _, _, _, _⟩) rfl 38 rfl _ 12 zero_fan rfl (by omega) (i64s_one _) w2.heap.size (Nat.le_refl _) ?_; intro w3 hP3 hE3 hz3)
    go_loopw [18] (fun i wr => ∃ k : Nat, k ≤ 12 ∧ i = .int .i64 k ∧ Own wr w2.heap.size 38 (some ⟨w2.heap.size, 0, none⟩) 12 12 (i64s ((ptrsOf (bodyOf xs)).take k ++ List.replicate (12 - k) 0)) ∧ Ext w2 wr) (fun i _ => 12 - (intOf i).toNat)
    case atStart => exact ⟨0, by omega, rfl, by simpa [z12] using hP3, hE3⟩
    case round =>
      obtain ⟨k, hk, rfl, hP, hE⟩ := hrel
      by_cases hlt : k < 12
      · obtain ⟨_, _, x, hA1, hx, hcx, hx2⟩ := (hO2.ext hE).sl.at8 hbb (k := 2 * k) (by omega)
        simp at hA1
        obtain ⟨rfl, rfl⟩ := hA1
        obtain ⟨_, _, y, hA1, hy, hcy, hy2⟩ := (hO2.ext hE).sl.at8 hbb (k := 2 * k + 1) (by omega)
        simp at hA1
        obtain ⟨rfl, rfl⟩ := hA1
        simp only [Nat.zero_add] at hcx hcy
        obtain ⟨u, hu, hcu⟩ := hP.elem hlt
        have hf := hP.frozenAt k
        go_wp2_with fail
        go_region
        rw [or_bytes hx2 hy2]
        have hst := hP.store k (.int .i64 ((x * 256 + y : Nat) : Int)) rfl
        rw [i64s_set, fill_step (ptrsOf (bodyOf xs)) 0 12 k _ (by simp [ptrsOf]) hlt (ptrsOf_get hlt hx.out hy.out)] at hst
        have hE' : Ext w2 (wr.setCell ⟨w2.heap.size, k, none⟩ (.int .i64 ((x * 256 + y : Nat) : Int))).drew := (hE.setCell (Nat.le_refl _) _).drew
        go_wp2
        go_roundw
        case rel => exact ⟨k + 1, by omega, by go_num, hst.ext (Ext.drew (Ext.refl _)), hE'⟩
        case measure => simp [intOf]; omega
      · obtain rfl : k = 12 := by omega
        have hps : (ptrsOf (bodyOf xs)).take 12 ++ List.replicate (12 - 12) 0 = ptrsOf (bodyOf xs) := by
          rw [List.take_of_length_le (by simp [ptrsOf])]; simp
        rw [hps] at hP
        have hok := ptrsOf_ok hbb
        have hle : layPE (ptrsOf (bodyOf xs)) = 0 := by unfold layPE; rw [if_pos hok]
        have hll : layPL (ptrsOf (bodyOf xs)) = sealOf 80 ((bodyOf xs).take 24) := by unfold layPL; rw [if_pos hok, ptrB_ptrsOf hbb HBL.out]
        have hb24 : Bytes (sealOf 80 ((bodyOf xs).take 24)) := Bytes.sealOf (by omega) (hbb.take 24)
        have hpl : (ptrsOf (bodyOf xs)).length = 12 := by simp [ptrsOf]
        have HLE := hide hle
        have HLL := hide hll
        clear hps hok hle hll hP3
        go_wp2_with (with_reducible refine ag_load (o := ⟨some 40, _, _, _, _, _⟩) rfl 38 (.tmp 6) rfl w2.heap.size 12 w2.heap.size 38 _ rfl hP agg_fan info_fan ?_)
        refine (ptr_Lay _ hpl _).mono ?_
        rintro e w4 ⟨A4, n4, c4, rfl, hn4, hO4, hE4⟩
        rw [HLE.out]
        rw [HLL.out] at hO4
        go_wp2_with fail
        have hF4 : Ext w1 w4 := hE2.trans (hE.trans hE4)
        refine (BEqual _ _ _ _ _ _ _ _ _ hO4.sl (h.ext (hE1.trans hF4)) hb24 hb).mono ?_
        rintro e w5 ⟨rfl, rfl⟩
        have hR4 := hR1.ext hF4
        have hP4 := hP.ext hE4
        by_cases hs : sealOf 80 ((bodyOf xs).take 24) = xs
        · rw [decide_eq_true hs]
          have hro : readPOk xs := ⟨HK.out, hs⟩
          have HR := hide hro
          clear hs hro
          go_wp2_with (first
            | (with_reducible refine ag_load (o := ⟨some 49, _, _, _, _, _⟩) rfl 38 (.tmp 6) rfl w2.heap.size 12 w2.heap.size 38 _ rfl hP4 agg_fan info_fan ?_)
            | (with_reducible refine ag_store (o := ⟨none, _, _, _, _, _⟩) rfl 38 (.tmp 2) (.tmp 49) rfl w.heap.size 12 w.heap.size 38 _ _ rfl rfl hR4 (by rw [i64s_len, hpl]) (i64s_one _) info_fan ?_; intro w6 hR6 hG6))
          have e1 : readPL xs = ptrsOf (bodyOf xs) := by unfold readPL; rw [if_pos HR.out]
          have e2 : readPE xs = 0 := by unfold readPE; rw [if_pos HR.out]
          rw [e1, e2]
          exact bodyPost_ret (results_agg rfl _ rfl rfl hR6 agg_fan info_fan) rfl ⟨rfl, (hE1.trans hF4).grown hG6 (by simp)⟩
        · rw [decide_eq_false hs]
          have hro : ¬ readPOk xs := fun h => hs h.2
          have HR := hide hro
          clear hs hro
          go_wp2_with (first
            | (with_reducible refine ag_zero (o := ⟨some 48, _, _, _, _, _⟩) rfl 38 rfl _ (bld_fan _) ?_)
            | (with_reducible refine ag_store (o := ⟨none, _, _, _, _, _⟩) rfl 38 (.tmp 2) (.tmp 48) rfl w.heap.size 12 w.heap.size 38 _ _ rfl rfl hR4 (by rw [i64s_len, z12_len]) (i64s_one _) info_fan ?_; intro w6 hR6 hG6))
          have e1 : readPL xs = z12 := by unfold readPL; rw [if_neg HR.out]
          have e2 : readPE xs = 3 := by unfold readPE; rw [if_neg HR.out]
          rw [e1, e2]
          exact bodyPost_ret (results_agg rfl _ rfl rfl hR6 agg_fan info_fan) rfl ⟨rfl, (hE1.trans hF4).grown hG6 (by simp)⟩
  · have hro : ¬ readPOk xs := fun h => hk h.1
    have HR := hide hro
    have HK := hide hk
    clear hro hk
    go_enter Try.func32, Try.ntmps32
    go_wp2_with (with_reducible refine ag_alloc (o := ⟨some 2, _, _, _, _, _⟩) rfl 38 rfl _ 12 zero_fan rfl (by omega) (i64s_one _) w.heap.size (Nat.le_refl _) ?_; intro w1 hR1 hE1 hz1)
    refine (seal_Open_no 80 _ _ _ xs _ (h.ext hE1) hb (Or.inr HK.out)).mono ?_
    rintro e w2 ⟨rfl, hE2⟩
    have hR2 := hR1.ext hE2
    go_wp2_with (first
      | (with_reducible refine ag_zero (o := ⟨some 17, _, _, _, _, _⟩) rfl 38 rfl _ (bld_fan _) ?_)
      | (with_reducible refine ag_store (o := ⟨none, _, _, _, _, _⟩) rfl 38 (.tmp 2) (.tmp 17) rfl w.heap.size 12 w.heap.size 38 _ _ rfl rfl hR2 (by rw [i64s_len, z12_len]) (i64s_one _) info_fan ?_; intro w6 hR6 hG6))
    have e1 : readPL xs = z12 := by unfold readPL; rw [if_neg HR.out]
    have e2 : readPE xs = 3 := by unfold readPE; rw [if_neg HR.out]
    rw [e1, e2]
    exact bodyPost_ret (results_agg rfl _ rfl rfl hR6 agg_fan info_fan) rfl ⟨rfl, (hE1.trans hE2).grown hG6 (by simp)⟩

set_option maxHeartbeats 1000000 in
theorem refptr_Read (A : Option Addr) (n c : Nat) (xs : List Nat) (w : World) (h : Sl w A n c (by8 xs)) (hb : Bytes xs) :
    Calls Try.prog 33 #[.slice A n c] w fun e w' => e = .returned (.tuple #[.agg (i64s (readPL xs)).toArray, .int .i64 (readPE xs : Nat)]) ∧ Ext w w' := by
  by_cases hk : kindOf xs = 80
  · have hl := kind_len (xs := xs) (by omega)
    have hbl : (bodyOf xs).length = 123 := bodyOf_len hl
    have hbb : Bytes (bodyOf xs) := (hb.drop 1).take 123
    have HK := hide hk
    have HBL := hide hbl
    clear hk hl hbl
    go_enter Try.func33, Try.ntmps33
    go_wp2_with (first
      | (with_reducible refine ag_alloc (o := ⟨some 2, _, _, _, _, _⟩) rfl 38 rfl _ 12 zero_fan rfl (by omega) (i64s_one _) w.heap.size (Nat.le_refl _) ?_; intro w1 hR1 hE1 hz1)
      | (with_reducible refine ag_alloc (o := ⟨some 4, _, _, _, _, _⟩) rfl 38 rfl _ 12 zero_fan rfl (by omega) (i64s_one _) w1.heap.size (Nat.le_refl _) ?_; intro w2 hP2 hE2 hz2))
    refine (ref_Open 80 _ _ _ xs _ (h.ext (hE1.trans hE2)) hb (by omega) HK.out).mono ?_
    rintro e w3 ⟨g3, c3, rfl, hO3, hE3⟩
    have hP3 := hP2.ext hE3
    have hz3 := hE3.size
    go_wp2
    go_loopw [7] (fun i wr => ∃ k : Nat, k ≤ 12 ∧ i = .int .i64 k ∧ Own wr w1.heap.size 38 (some ⟨w1.heap.size, 0, none⟩) 12 12 (i64s ((ptrsOf (bodyOf xs)).take k ++ List.replicate (12 - k) 0)) ∧ Own wr w2.heap.size 5 (some ⟨g3, 0, none⟩) 123 c3 (by8 (bodyOf xs)) ∧ Ext w1 wr) (fun i _ => 12 - (intOf i).toNat)
    case atStart => exact ⟨0, by omega, rfl, by simpa [z12] using hP3, hO3, hE2.trans hE3⟩
    case round =>
      obtain ⟨k, hk, rfl, hP, hO3', hE⟩ := hrel
      by_cases hlt : k < 12
      · obtain ⟨_, _, x, hA1, hx, hcx, hx2⟩ := hO3'.sl.at8 hbb (k := 2 * k) (by omega)
        simp at hA1
        obtain ⟨rfl, rfl⟩ := hA1
        obtain ⟨_, _, y, hA1, hy, hcy, hy2⟩ := hO3'.sl.at8 hbb (k := 2 * k + 1) (by omega)
        simp at hA1
        obtain ⟨rfl, rfl⟩ := hA1
        simp only [Nat.zero_add] at hcx hcy
        obtain ⟨u, hu, hcu⟩ := hP.elem hlt
        have hf := hP.frozenAt k
        go_wp2_with fail
        go_region
        rw [or_bytes hx2 hy2]
        have hst := hP.store k (.int .i64 ((x * 256 + y : Nat) : Int)) rfl
        rw [i64s_set, fill_step (ptrsOf (bodyOf xs)) 0 12 k _ (by simp [ptrsOf]) hlt (ptrsOf_get hlt hx.out hy.out)] at hst
        have hgr := (hP.1.stored k (.int .i64 ((x * 256 + y : Nat) : Int))).2
        have hO3s := hO3'.kept hgr (by
          intro a ha he
          simp at ha
          subst ha
          have h1 := (hO3'.block g3 rfl).1
          simp at he
          omega)
        have hE' : Ext w1 (wr.setCell ⟨w1.heap.size, k, none⟩ (.int .i64 ((x * 256 + y : Nat) : Int))).drew := (hE.setCell (Nat.le_refl _) _).drew
        go_wp2
        go_roundw
        case rel => exact ⟨k + 1, by omega, by go_num, hst.ext (Ext.drew (Ext.refl _)), hO3s.ext (Ext.drew (Ext.refl _)), hE'⟩
        case measure => simp [intOf]; omega
      · obtain rfl : k = 12 := by omega
        have hps : (ptrsOf (bodyOf xs)).take 12 ++ List.replicate (12 - 12) 0 = ptrsOf (bodyOf xs) := by
          rw [List.take_of_length_le (by simp [ptrsOf])]; simp
        rw [hps] at hP
        have hok := ptrsOf_ok hbb
        have hle : layPE (ptrsOf (bodyOf xs)) = 0 := by unfold layPE; rw [if_pos hok]
        have hll : layPL (ptrsOf (bodyOf xs)) = sealOf 80 ((bodyOf xs).take 24) := by unfold layPL; rw [if_pos hok, ptrB_ptrsOf hbb HBL.out]
        have hb24 : Bytes (sealOf 80 ((bodyOf xs).take 24)) := Bytes.sealOf (by omega) (hbb.take 24)
        have hpl : (ptrsOf (bodyOf xs)).length = 12 := by simp [ptrsOf]
        have HLE := hide hle
        have HLL := hide hll
        clear hps hok hle hll hP3 hP2
        go_wp2_with (with_reducible refine ag_load (o := ⟨some 39, _, _, _, _, _⟩) rfl 38 (.tmp 4) rfl w1.heap.size 12 w1.heap.size 38 _ rfl hP agg_fan info_fan ?_)
        refine (refptr_Lay _ hpl _).mono ?_
        rintro e w4 ⟨A4, n4, c4, rfl, hn4, hO4, hE4⟩
        rw [HLE.out]
        rw [HLL.out] at hO4
        have hF4 : Ext w1 w4 := hE.trans hE4
        have hcv1 := str8 hO4.sl
        have hcv2 := str8 (h.ext (hE1.trans hF4))
        have hR4 := hR1.ext hF4
        have hP4 := hP.ext hE4
        by_cases hs : sealOf 80 ((bodyOf xs).take 24) = xs
        · have e1 : ((strN (sealOf 80 ((bodyOf xs).take 24))).toList == (strN xs).toList) = true := by rw [strN_eq hb24 hb]; simpa using hs
          have hro : readPOk xs := ⟨HK.out, hs⟩
          have HR := hide hro
          clear hs hro
          go_wp2_with (first
            | (with_reducible refine ag_load (o := ⟨some 53, _, _, _, _, _⟩) rfl 38 (.tmp 4) rfl w1.heap.size 12 w1.heap.size 38 _ rfl hP4 agg_fan info_fan ?_)
            | (with_reducible refine ag_store (o := ⟨none, _, _, _, _, _⟩) rfl 38 (.tmp 2) (.tmp 53) rfl w.heap.size 12 w.heap.size 38 _ _ rfl rfl hR4 (by rw [i64s_len, hpl]) (i64s_one _) info_fan ?_; intro w6 hR6 hG6))
          have e1 : readPL xs = ptrsOf (bodyOf xs) := by unfold readPL; rw [if_pos HR.out]
          have e2 : readPE xs = 0 := by unfold readPE; rw [if_pos HR.out]
          rw [e1, e2]
          exact bodyPost_ret (results_agg rfl _ rfl rfl hR6 agg_fan info_fan) rfl ⟨rfl, (hE1.trans hF4).grown hG6 (by simp)⟩
        · have e1 : ((strN (sealOf 80 ((bodyOf xs).take 24))).toList == (strN xs).toList) = false := by rw [strN_eq hb24 hb]; simpa using hs
          have hro : ¬ readPOk xs := fun h => hs h.2
          have HR := hide hro
          clear hs hro
          go_wp2_with (first
            | (with_reducible refine ag_zero (o := ⟨some 52, _, _, _, _, _⟩) rfl 38 rfl _ (bld_fan _) ?_)
            | (with_reducible refine ag_store (o := ⟨none, _, _, _, _, _⟩) rfl 38 (.tmp 2) (.tmp 52) rfl w.heap.size 12 w.heap.size 38 _ _ rfl rfl hR4 (by rw [i64s_len, z12_len]) (i64s_one _) info_fan ?_; intro w6 hR6 hG6))
          have e1 : readPL xs = z12 := by unfold readPL; rw [if_neg HR.out]
          have e2 : readPE xs = 3 := by unfold readPE; rw [if_neg HR.out]
          rw [e1, e2]
          exact bodyPost_ret (results_agg rfl _ rfl rfl hR6 agg_fan info_fan) rfl ⟨rfl, (hE1.trans hF4).grown hG6 (by simp)⟩
  · have hro : ¬ readPOk xs := fun h => hk h.1
    have HR := hide hro
    have HK := hide hk
    clear hro hk
    go_enter Try.func33, Try.ntmps33
    go_wp2_with (first
      | (with_reducible refine ag_alloc (o := ⟨some 2, _, _, _, _, _⟩) rfl 38 rfl _ 12 zero_fan rfl (by omega) (i64s_one _) w.heap.size (Nat.le_refl _) ?_; intro w1 hR1 hE1 hz1)
      | (with_reducible refine ag_alloc (o := ⟨some 4, _, _, _, _, _⟩) rfl 38 rfl _ 12 zero_fan rfl (by omega) (i64s_one _) w1.heap.size (Nat.le_refl _) ?_; intro w2 hP2 hE2 hz2))
    refine (ref_Open_no 80 _ _ _ xs _ (h.ext (hE1.trans hE2)) hb (Or.inr HK.out)).mono ?_
    rintro e w3 ⟨rfl, hE3⟩
    have hR3 := hR1.ext (hE2.trans hE3)
    have hP3 := hP2.ext hE3
    go_wp2_with (first
      | (with_reducible refine ag_load (o := ⟨some 16, _, _, _, _, _⟩) rfl 38 (.tmp 4) rfl w1.heap.size 12 w1.heap.size 38 _ rfl hP3 agg_fan info_fan ?_)
      | (with_reducible refine ag_store (o := ⟨none, _, _, _, _, _⟩) rfl 38 (.tmp 2) (.tmp 16) rfl w.heap.size 12 w.heap.size 38 _ _ rfl rfl hR3 (by rw [i64s_len, z12_len]) (i64s_one _) info_fan ?_; intro w6 hR6 hG6))
    have e1 : readPL xs = z12 := by unfold readPL; rw [if_neg HR.out]
    have e2 : readPE xs = 3 := by unfold readPE; rw [if_neg HR.out]
    rw [e1, e2]
    exact bodyPost_ret (results_agg rfl _ rfl rfl hR6 agg_fan info_fan) rfl ⟨rfl, (hE1.trans (hE2.trans hE3)).grown hG6 (by simp)⟩

theorem eq_fan (ps qs : List Int) (hp : ps.length = 12) (hq : qs.length = 12) (w : World) :
    (Op.equalIn 10000 38 (.agg (i64s ps).toArray) (.agg (i64s qs).toArray)).run Try.prog w = .ok (decide (ps = qs)) w := by
  obtain ⟨i0, hi0, hz0, hz1, hz2⟩ := info_parts info_int
  exact run_eql_ints (P := Try.prog) w 38 Try.underlying38 Try.underlying3 hi0 hz1 ps qs hp hq

set_option maxHeartbeats 1000000 in
theorem ptr_Empty (ps : List Int) (hl : ps.length = 12) (w : World) :
    Calls Try.prog 34 #[.agg (i64s ps).toArray] w fun e w' => e = .returned (.bool (decide (ps = z12))) ∧ Ext w w' := by
  have HL := hide hl
  have heq := fun w1 => eq_fan ps z12 hl z12_len w1
  clear hl
  go_enter Try.func34, Try.ntmps34
  go_wp2_with (first
    | (with_reducible refine ag_box (o := ⟨some 1, _, _, _, _, _⟩) rfl 38 _ rfl _ 12 rfl (by rw [i64s_len]; exact HL.out) (by omega) (i64s_one ps) w.heap.size (Nat.le_refl _) ?_; intro w1 hB1 hE1 hz1)
    | (with_reducible refine ag_load (o := ⟨some 3, _, _, _, _, _⟩) rfl 38 (.tmp 1) rfl w.heap.size 12 w.heap.size 38 _ rfl hB1 agg_fan info_fan ?_)
    | (with_reducible refine ag_zero (o := ⟨some 4, _, _, _, _, _⟩) rfl 38 rfl _ (bld_fan _) ?_))
  go_ret
  exact ⟨rfl, hE1⟩
end Go.Proofs.Ythfkacgehdfciaa
