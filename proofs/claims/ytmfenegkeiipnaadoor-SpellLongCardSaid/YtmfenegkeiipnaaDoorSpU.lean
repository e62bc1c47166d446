/- The statement SpellBack: the walk. -/
import Derived.Test.YtmfenegkeiipnaaDoorSpS
import Derived.Test.YtmfenegkeiipnaaDoorPiv
namespace Go.Proofs.YtmfenegkeiipnaaDoor
set_option linter.unusedVariables false
set_option linter.unusedSimpArgs false
open Go.RowKit

theorem own_other {w : World} {B e : Nat} {A : Option Addr} {n c : Nat} {vs : List Value} (h : Own w B e A n c vs) {b i : Nat} (hb : ∀ a, A = some a → a.block ≠ b) (u : Value) : Own (w.setCell ⟨b, i, none⟩ u) B e A n c vs := by
  refine h.kept (row := some b) ⟨rfl, rfl, rfl, by simp [World.setCell], fun k _ hk => ?_⟩ (fun a ha he => ?_)
  · have : b ≠ k := fun e => hk (by rw [e])
    simp [World.setCell, Array.getElem?_modify, this]
  · injection he with he
    exact hb a ha he
theorem by_len2 {key x : L8} (hk : key.length ≤ 4) : (joinB (byF key x)).length ≤ 6 + 2 * x.length := by
  by_cases h : x = []
  · subst h; rw [byF_no]; simp
  · rw [byF_yes h]
    simp [hexL_len]
    omega
theorem say_len {o : Opp} (ho : o.Ok) (h1 : 1 ≤ o.k) (h2 : o.k < 24) : (sayL o).length ≤ 200 + 2 * (o.pa.length + o.to.length + o.da.length) := by
  rw [← lineB_say h1 h2]
  have a := lineN_len ho 4 (by omega)
  have b1 := lineB_step (o := o) (i := 0) (key := kPa) (x := o.pa) rfl rfl
  have b2 := lineB_step (o := o) (i := 1) (key := kTo) (x := o.to) rfl rfl
  have b3 := lineB_step (o := o) (i := 2) (key := kDa) (x := o.da) rfl rfl
  have c1 := by_len2 (key := kPa) (x := o.pa) (by decide)
  have c2 := by_len2 (key := kTo) (x := o.to) (by decide)
  have c3 := by_len2 (key := kDa) (x := o.da) (by decide)
  rw [b3, b2, b1, lineB_zero]
  simp only [List.length_append]
  omega
/-- An operation that there is. -/
def kd (x : Int) : Int := 1 + (low x 23 : Nat)
theorem kd_in (x : Int) : 1 ≤ kd x ∧ kd x < 24 := by
  have := low_lt x (n := 23) (by omega)
  unfold kd
  omega
def Opp.kinded (o : Opp) : Opp := { o with k := kd o.k }
theorem same_say {o p : Opp} (ho : o.Ok) (hp : p.Ok) : (sayL o.kinded == sayL p.kinded) = sameB o.kinded p.kinded := by
  have h1 := kd_in o.k
  have h2 := kd_in p.k
  rw [Bool.eq_iff_iff, sameB_iff, beq_iff_eq]
  constructor
  · intro h
    exact say_inj (o := o.kinded) (p := p.kinded) ho hp h1.1 h1.2 h2.1 h2.2 h
  · intro h; rw [h]
section
variable {P : Program} {o : Oper} {a : Act} {w : World} {K : Act → World → Prop} {Q : Exit → Act → World → Prop}
theorem piv_world {md : Region.Mode} {ops : Array Oper} {S : World → Prop} {p fuel : Nat} {listed : Array Bool} (h : ∀ w1, w1 = w → wpAnyP P md ops Q S p fuel listed a w1) : wpAnyP P md ops Q S p fuel listed a w := h w rfl
theorem piv_two {md : Region.Mode} {ops : Array Oper} {S : World → Prop} {p fuel : Nat} {listed : Array Bool} {oi oj : Oper} {rest rest2 : List Oper} (i j : Nat) (hi : ops.toList.drop i = oi :: rest) (hj : ops.toList.drop j = oj :: rest2) (hr : Region.ready md ops listed = [i, j])
    (h1 : ∀ K' : Act → World → Prop, Shut (∀ a w, S w → (S w → wpAnyP P md ops Q S p fuel (listed.setIfInBounds i true) a w) → K' a w) → if Region.wanted oi (yielded ops a.tmps) = true then Oper.wp P oi a w K' Q else K' (a.put oi.dst undef) w)
    (h2 : ∀ K' : Act → World → Prop, Shut (∀ a w, S w → (S w → wpAnyP P md ops Q S p fuel (listed.setIfInBounds j true) a w) → K' a w) → if Region.wanted oj (yielded ops a.tmps) = true then Oper.wp P oj a w K' Q else K' (a.put oj.dst undef) w) :
    wpAnyP P md ops Q S p (fuel + 1) listed a w :=
  ⟨fun h0 => (by rw [hr] at h0; cases h0), fun k hk => by
    rw [hr] at hk
    rcases List.mem_cons.1 hk with rfl | hk
    · exact wpOp_step (piv_get hi) (fun K' hK => h1 K' (fun a w hS hW => hK a w ⟨fun _ => hS, hW hS⟩))
    · rw [List.mem_singleton] at hk
      subst hk
      exact wpOp_step (piv_get hj) (fun K' hK => h2 K' (fun a w hS hW => hK a w ⟨fun _ => hS, hW hS⟩))⟩
theorem op_value {v : Value} {w' : World} (hrun : (execOp a.eval o).run P w = .ok (.value v) w') (h : K (a.put o.dst v) w') : Oper.wp P o a w K Q := by
  unfold Oper.wp
  rw [hrun]
  exact h
end
theorem step_alloc {P : Program} {w : World} {ops : Array Oper} {o : Oper} {a : Act} {K : Act → World → Prop} {Q : Exit → Act → World → Prop} {E : Prop} (hgd : o.guard = none) (t : TypeId) (ho : o.op = .alloc t) (vs : List Value) (n : Nat)
    (hz : (P.info? t).map (·.zero) = some (some (.agg vs.toArray))) (hn : vs.length = n) (hm : n ≤ 9223372036854775807) (h1 : ∀ u ∈ vs, u.oneCell' = true) (B : Nat) (hB : B ≤ w.heap.size)
    (h : ∀ w', Own w' B t (some ⟨w.heap.size, 0, none⟩) n n vs → Ext w w' → K (a.put o.dst (.pointer (some ⟨w.heap.size, 0, none⟩))) w') :
    if Region.wanted o (yielded ops a.tmps) = true then Oper.wp P o a w K Q else E := by
  rw [if_pos (by simp [Region.wanted, hgd])]
  refine op_value (v := .pointer (some ⟨w.heap.size, 0, none⟩)) (w' := w.alloc (.cells vs.toArray t)) ?_ (h _ ?_ ((Ext.refl w).alloc _))
  · obtain ⟨i, hi, hz'⟩ := Option.map_eq_some_iff.1 hz
    simp [execOp, ho, Instr.alloc, zeroValue, typeInfo, hi, hz', newVar, newRow, Value.cells]
  · have := Own.made (w := w) (B := B) (e := t) (n := n) hB vs.toArray n (by simp only [maxLen]; omega) (Nat.le_refl _) (by simp [hn]) (by simpa [List.take_of_length_le, hn] using h1)
    simpa [List.take_of_length_le, hn] using this
theorem step_store {P : Program} {w : World} {ops : Array Oper} {o : Oper} {a : Act} {K : Act → World → Prop} {Q : Exit → Act → World → Prop} {E : Prop} (hgd : o.guard = none) (t : TypeId) (x y : Operand) (ho : o.op = .store t x y) (g n B e : Nat) (old vs : List Value)
    (hx : a.eval x = .pointer (some ⟨g, 0, none⟩)) (hy : a.eval y = .agg vs.toArray) (hO : Own w B e (some ⟨g, 0, none⟩) n n old) (hn : vs.length = n) (h1 : ∀ u ∈ vs, u.oneCell' = true)
    (hi : (P.info? t).map (·.size) = some n)
    (h : ∀ w', Own w' B e (some ⟨g, 0, none⟩) n n vs → w.grownBy w' (some g) → K (a.put o.dst undef) w') : if Region.wanted o (yielded ops a.tmps) = true then Oper.wp P o a w K Q else E := by
  rw [if_pos (by simp [Region.wanted, hgd])]
  have hol := hO.len
  rcases hO.1.2 with ⟨hv, _⟩ | ⟨g', cap, cur, hv, hB, hh, hnc, hcm, hss, htk⟩
  · simp at hv
  · simp at hv
    obtain ⟨rfl, rfl⟩ := hv
    have hst := run_storeCells_at P g 0 e vs 0 cur w hh (by omega) h1
    simp only [Nat.add_zero, Nat.zero_add, List.take_zero, List.nil_append, hn] at hst
    have hd : cur.toList.drop n = [] := List.drop_eq_nil_of_le (by simp; omega)
    rw [hd, List.append_nil] at hst
    obtain ⟨i, hi', hs⟩ := Option.map_eq_some_iff.1 hi
    have hrun : (execOp a.eval o).run P w = .ok .skip (w.setRow g vs.toArray) := by
      simp [execOp, ho, hx, hy, Instr.storeAt, Instr.sureAddr, storeVar, Value.cells, sizeOf, typeInfo, hi', hs, hn, hst]
    unfold Oper.wp
    rw [hrun]
    exact h _ ⟨⟨by omega, .inr ⟨g, n, _, rfl, hB, setRow_heap w g cur _ e _ hh, Nat.le_refl _, hcm, by simp; omega, by rw [List.take_of_length_le (by simp; omega)]⟩⟩, h1⟩
      ⟨rfl, rfl, rfl, by simp, fun k _ hk => setRow_other w g k _ (fun e => hk (by rw [e]))⟩
set_option maxRecDepth 100000 in
set_option maxHeartbeats 1000000 in
theorem walk_SpellBack (w : World) (hL : Laid w) (o : Opp) (A : Option Addr) (n c : Nat) (hk : InR o.k) (ho : o.Ok) (hD : Sl w A n c (by8 (nat8 o.da))) (p : Opp) (A2 : Option Addr) (n2 c2 : Nat) (hk2 : InR p.k) (ho2 : p.Ok) (hD2 : Sl w A2 n2 c2 (by8 (nat8 p.da))) (at_ : Int) (ha : InR at_) :
    Calls Tryd.prog 4 #[.agg (opV o A n c), .agg (opV p A2 n2 c2), .int .i64 at_] w fun e w' => e = .returned (.bool true) ∧ Ext w w' := by
  have hGr := hide (fun w => f_Great o A n c w (op_fit (w' := w) hD))
  have hGr2 := hide (fun w => f_Great p A2 n2 c2 w (op_fit (w' := w) hD2))
  rw [← opL_arr, ← opL_arr]
  go_enter Tryd.func4, Tryd.ntmps4
  go_upto_region 1 with (first
    | (with_reducible refine ag_box (o := ⟨some 3, _, _, _, _, _⟩) rfl 24 (.tmp 0) rfl _ 8 rfl (opL_len _ _ _ _) (by omega) (opL_one _ _ _ _) w.heap.size (Nat.le_refl _) ?_; intro w1 hB1 hE1 hz1)
    | (with_reducible refine ag_box (o := ⟨some 4, _, _, _, _, _⟩) rfl 24 (.tmp 1) rfl _ 8 rfl (opL_len _ _ _ _) (by omega) (opL_one _ _ _ _) w1.heap.size (Nat.le_refl _) ?_; intro w2 hP2 hE2 hz2))
  have hO2 := hB1.ext hE2
  have hne : w.heap.size < w1.heap.size := hz1
  go_wp2_with (with_reducible refine ag_load rfl 24 (.tmp 3) rfl w.heap.size 8 w.heap.size 24 _ rfl hO2 agg_op info_op ?_)
  refine (hGr.out w2).mono ?_
  rintro e w3 ⟨rfl, hE3⟩
  have hE03 := hE1.trans (hE2.trans hE3)
  have hL3 := hL.ext hE03
  clear hGr
  cases hg : greatB o with
  | true =>
    go_wp2_with fail
    refine (law25_awake _ hL3).mono ?_
    rintro e w4 ⟨rfl, hE4⟩
    go_wp2_with fail
    go_ret
    exact ⟨rfl, hE03.trans hE4⟩
  | false =>
  have hP3 := hP2.ext hE3
  go_wp2_with (with_reducible refine ag_load rfl 24 (.tmp 4) rfl w1.heap.size 8 w1.heap.size 24 _ rfl hP3 agg_op info_op ?_)
  refine (hGr2.out w3).mono ?_
  rintro e w4 ⟨rfl, hE4⟩
  have hE04 := hE03.trans hE4
  have hL4 := hL.ext hE04
  clear hGr2
  cases hg2 : greatB p with
  | true =>
    go_wp2_with fail
    refine (law25_awake _ hL4).mono ?_
    rintro e w5 ⟨rfl, hE5⟩
    go_wp2_with fail
    go_ret
    exact ⟨rfl, hE04.trans hE5⟩
  | false =>
  have hsm := (great_sm hg)
  have hsm2 := (great_sm hg2)
  have HG := hide (And.intro hsm hsm2)
  clear hsm hsm2 hg hg2
  have hO4 := hO2.ext (hE3.trans hE4)
  have hP4 := hP3.ext hE4
  go_upto_region 3 with fail
  have LL1 := hide (fun w => Low o.k 23 23 w rfl (by omega) (by omega))
  have LL2 := hide (fun w => Low p.k 23 23 w rfl (by omega) (by omega))
  have hk1 := kd_in o.k
  have hk2 := kd_in p.k
  have W1 : IntKind.i64.wrap (1 + ((low o.k 23 : Nat) : Int)) = kd o.k := by unfold kd; have := low_lt o.k (n := 23) (by omega); exact IntWalk.i64_in _ (by omega)
  have W2 : IntKind.i64.wrap (1 + ((low p.k 23 : Nat) : Int)) = kd p.k := by unfold kd; have := low_lt p.k (n := 23) (by omega); exact IntWalk.i64_in _ (by omega)
  have ck1 := hO4.cellAt 0 (by omega)
  have ck2 := hP4.cellAt 0 (by omega)
  simp only [opL, List.getElem?_cons_zero] at ck1 ck2
  have HNE := hide hne
  generalize low o.k 23 = l1 at *
  generalize low p.k 23 = l2 at *
  go_cut [22] from 19 to 28 (fun s wx => Own wx w.heap.size 24 (some ⟨w.heap.size, 0, none⟩) 8 8 (opL o.kinded A n c) ∧ Own wx w1.heap.size 24 (some ⟨w1.heap.size, 0, none⟩) 8 8 (opL p.kinded A2 n2 c2) ∧ Ext w wx)
  case first =>
    refine piv_begin 9 (fun w' => w'.cell? ⟨w.heap.size, 0, none⟩ = some (.int .i64 o.k) ∧ w'.cell? ⟨w1.heap.size, 0, none⟩ = some (.int .i64 p.k)) (by kernel_rfl) ⟨(Ext.refl w4).drew.cell ck1, (Ext.refl w4).drew.cell ck2⟩ (fun hHeld => ?_)
    refine piv_take 0 rfl (by kernel_rfl) (by kernel_rfl) (by kernel_rfl) (by kernel_rfl) (by kernel_rfl) (fun _ _ _ _ h => h) (by rfl) ?_ ?_ (by assumption) ?_
    rotate_left
    · (intro wx hSx; (try dsimp only at hSx); go_simp)
      all_goals with_reducible rfl
    (try simp only [Act.put, List.setIfInBounds_toArray, List.set_cons_zero, List.set_cons_succ])
    refine piv_take 1 rfl (by kernel_rfl) (by kernel_rfl) (by kernel_rfl) (by kernel_rfl) (by kernel_rfl) (fun _ _ _ _ h => h) (by rfl) ?_ ?_ (by assumption) ?_
    rotate_left
    · (intro wx hSx; (try dsimp only at hSx); go_simp)
      all_goals with_reducible rfl
    (try simp only [Act.put, List.setIfInBounds_toArray, List.set_cons_zero, List.set_cons_succ])
    refine piv_pure 4 rfl (by kernel_rfl) (by kernel_rfl) (by kernel_rfl) (by kernel_rfl) (fun _ _ _ _ h => h) (by rfl) ?_ ?_ (by assumption) ?_
    rotate_left
    · (intro wx _; go_simp)
      all_goals with_reducible rfl
    (try simp only [Act.put, List.setIfInBounds_toArray, List.set_cons_zero, List.set_cons_succ])
    refine piv_two 2 5 rfl rfl (by kernel_rfl) (fun K hK => ?_) (fun K hK => ?_)
    · go_simp
      go_at_call 14
      refine (LL1.out _).mono ?_
      rintro e w5 ⟨rfl, rfl⟩
      go_wp2_with fail
      refine hK.out _ _ hHeld (fun hHeld => ?_)
      clear hK K
      (try simp only [Act.put, List.setIfInBounds_toArray, List.set_cons_zero, List.set_cons_succ])
      refine piv_pure 3 rfl (by kernel_rfl) (by kernel_rfl) (by kernel_rfl) (by kernel_rfl) (fun _ _ _ _ h => h) (by rfl) ?_ ?_ (by assumption) ?_
      rotate_left
      · (intro wx _; go_simp)
        all_goals with_reducible rfl
      (try simp only [Act.put, List.setIfInBounds_toArray, List.set_cons_zero, List.set_cons_succ])
      refine piv_pure 8 rfl (by kernel_rfl) (by kernel_rfl) (by kernel_rfl) (by kernel_rfl) (fun _ _ _ _ h => h) (by rfl) ?_ ?_ (by assumption) ?_
      rotate_left
      · (intro wx _; go_simp)
        all_goals with_reducible rfl
      (try simp only [Act.put, List.setIfInBounds_toArray, List.set_cons_zero, List.set_cons_succ])
      refine piv_one 5 rfl (by kernel_rfl) (fun K hK => ?_)
      go_simp
      refine hK.out _ _ hHeld (fun hHeld => ?_)
      clear hK K
      (try simp only [Act.put, List.setIfInBounds_toArray, List.set_cons_zero, List.set_cons_succ])
      refine piv_one 6 rfl (by kernel_rfl) (fun K hK => ?_)
      go_simp
      go_at_call 14
      refine (LL2.out _).mono ?_
      rintro e w5 ⟨rfl, rfl⟩
      go_wp2_with fail
      refine hK.out _ _ hHeld (fun hHeld => ?_)
      clear hK K
      (try simp only [Act.put, List.setIfInBounds_toArray, List.set_cons_zero, List.set_cons_succ])
      refine piv_pure 7 rfl (by kernel_rfl) (by kernel_rfl) (by kernel_rfl) (by kernel_rfl) (fun _ _ _ _ h => h) (by rfl) ?_ ?_ (by assumption) ?_
      rotate_left
      · (intro wx _; go_simp)
        all_goals with_reducible rfl
      (try simp only [Act.put, List.setIfInBounds_toArray, List.set_cons_zero, List.set_cons_succ])
      have hOd := hO4.ext (Ext.refl w4).drew
      have hPd := hP4.ext (Ext.refl w4).drew
      have kd1 := hOd.cellAt 0 (by omega)
      have fd1 := hOd.frozenAt 0
      simp only [opL, List.getElem?_cons_zero] at kd1
      refine piv_late 9 rfl (by kernel_rfl) (by kernel_rfl) (fun K hK => ?_)
      go_simp
      refine hK.out _ _ ?_
      clear hK K kd1 fd1
      (try simp only [Act.put, List.setIfInBounds_toArray, List.set_cons_zero, List.set_cons_succ])
      refine piv_world (fun w6 hw6 => ?_)
      have hO6 : Own w6 w.heap.size 24 (some ⟨w.heap.size, 0, none⟩) 8 8 (opL o.kinded A n c) := by rw [hw6]; exact hOd.store 0 (.int .i64 (kd o.k)) rfl
      have hP6 : Own w6 w1.heap.size 24 (some ⟨w1.heap.size, 0, none⟩) 8 8 (opL p A2 n2 c2) := by rw [hw6]; exact own_setCell hPd HNE.out _
      have hE6 : Ext w w6 := by rw [hw6]; exact (hE04.drew).setCell (p := ⟨w.heap.size, 0, none⟩) (Nat.le_refl _) _
      clear hw6 hOd hPd
      have kd2 := hP6.cellAt 0 (by omega)
      have fd2 := hP6.frozenAt 0
      simp only [opL, List.getElem?_cons_zero] at kd2
      refine piv_late 10 rfl (by kernel_rfl) (by kernel_rfl) (fun K hK => ?_)
      go_simp
      refine hK.out _ _ ?_
      clear hK K
      (try simp only [Act.put, List.setIfInBounds_toArray, List.set_cons_zero, List.set_cons_succ])
      refine piv_late 11 rfl (by kernel_rfl) (by kernel_rfl) (fun K hK => ?_)
      go_simp
      refine hK.out _ _ ?_
      clear hK K kd2 fd2
      (try simp only [Act.put, List.setIfInBounds_toArray, List.set_cons_zero, List.set_cons_succ])
      refine piv_world (fun w7 hw7 => ?_)
      have hO7 : Own w7 w.heap.size 24 (some ⟨w.heap.size, 0, none⟩) 8 8 (opL o.kinded A n c) := by rw [hw7]; exact own_other hO6 (fun a ha => by cases ha; have := HNE.out; simp only; omega) _
      have hP7 : Own w7 w1.heap.size 24 (some ⟨w1.heap.size, 0, none⟩) 8 8 (opL p.kinded A2 n2 c2) := by rw [hw7]; exact hP6.store 0 (.int .i64 (kd p.k)) rfl
      have hE7 : Ext w w7 := by rw [hw7]; exact hE6.setCell (p := ⟨w1.heap.size, 0, none⟩) (Nat.le_of_lt HNE.out) _
      refine piv_done (by kernel_rfl) ?_ _
      clear hw7
      go_wp2_with fail
      go_meet
      case rel => exact ⟨hO7, hP7, hE7⟩
    · go_simp
      refine hK.out _ _ hHeld (fun hHeld => ?_)
      clear hK K
      (try simp only [Act.put, List.setIfInBounds_toArray, List.set_cons_zero, List.set_cons_succ])
      refine piv_one 2 rfl (by kernel_rfl) (fun K hK => ?_)
      go_simp
      go_at_call 14
      refine (LL1.out _).mono ?_
      rintro e w5 ⟨rfl, rfl⟩
      go_wp2_with fail
      refine hK.out _ _ hHeld (fun hHeld => ?_)
      clear hK K
      (try simp only [Act.put, List.setIfInBounds_toArray, List.set_cons_zero, List.set_cons_succ])
      refine piv_take 3 rfl (by kernel_rfl) (by kernel_rfl) (by kernel_rfl) (by kernel_rfl) (by kernel_rfl) (fun _ _ _ _ h => h) (by rfl) ?_ ?_ (by assumption) ?_
      rotate_left
      · (intro wx hSx; (try dsimp only at hSx); go_simp)
        all_goals with_reducible rfl
      (try simp only [Act.put, List.setIfInBounds_toArray, List.set_cons_zero, List.set_cons_succ])
      refine piv_pure 8 rfl (by kernel_rfl) (by kernel_rfl) (by kernel_rfl) (by kernel_rfl) (fun _ _ _ _ h => h) (by rfl) ?_ ?_ (by assumption) ?_
      rotate_left
      · (intro wx _; go_simp)
        all_goals with_reducible rfl
      (try simp only [Act.put, List.setIfInBounds_toArray, List.set_cons_zero, List.set_cons_succ])
      refine piv_one 6 rfl (by kernel_rfl) (fun K hK => ?_)
      go_simp
      go_at_call 14
      refine (LL2.out _).mono ?_
      rintro e w5 ⟨rfl, rfl⟩
      go_wp2_with fail
      refine hK.out _ _ hHeld (fun hHeld => ?_)
      clear hK K
      (try simp only [Act.put, List.setIfInBounds_toArray, List.set_cons_zero, List.set_cons_succ])
      refine piv_pure 7 rfl (by kernel_rfl) (by kernel_rfl) (by kernel_rfl) (by kernel_rfl) (fun _ _ _ _ h => h) (by rfl) ?_ ?_ (by assumption) ?_
      rotate_left
      · (intro wx _; go_simp)
        all_goals with_reducible rfl
      (try simp only [Act.put, List.setIfInBounds_toArray, List.set_cons_zero, List.set_cons_succ])
      have hOd := hO4.ext (Ext.refl w4).drew
      have hPd := hP4.ext (Ext.refl w4).drew
      have kd1 := hOd.cellAt 0 (by omega)
      have fd1 := hOd.frozenAt 0
      simp only [opL, List.getElem?_cons_zero] at kd1
      refine piv_late 9 rfl (by kernel_rfl) (by kernel_rfl) (fun K hK => ?_)
      go_simp
      refine hK.out _ _ ?_
      clear hK K kd1 fd1
      (try simp only [Act.put, List.setIfInBounds_toArray, List.set_cons_zero, List.set_cons_succ])
      refine piv_world (fun w6 hw6 => ?_)
      have hO6 : Own w6 w.heap.size 24 (some ⟨w.heap.size, 0, none⟩) 8 8 (opL o.kinded A n c) := by rw [hw6]; exact hOd.store 0 (.int .i64 (kd o.k)) rfl
      have hP6 : Own w6 w1.heap.size 24 (some ⟨w1.heap.size, 0, none⟩) 8 8 (opL p A2 n2 c2) := by rw [hw6]; exact own_setCell hPd HNE.out _
      have hE6 : Ext w w6 := by rw [hw6]; exact (hE04.drew).setCell (p := ⟨w.heap.size, 0, none⟩) (Nat.le_refl _) _
      clear hw6 hOd hPd
      have kd2 := hP6.cellAt 0 (by omega)
      have fd2 := hP6.frozenAt 0
      simp only [opL, List.getElem?_cons_zero] at kd2
      refine piv_late 10 rfl (by kernel_rfl) (by kernel_rfl) (fun K hK => ?_)
      go_simp
      refine hK.out _ _ ?_
      clear hK K
      (try simp only [Act.put, List.setIfInBounds_toArray, List.set_cons_zero, List.set_cons_succ])
      refine piv_late 11 rfl (by kernel_rfl) (by kernel_rfl) (fun K hK => ?_)
      go_simp
      refine hK.out _ _ ?_
      clear hK K kd2 fd2
      (try simp only [Act.put, List.setIfInBounds_toArray, List.set_cons_zero, List.set_cons_succ])
      refine piv_world (fun w7 hw7 => ?_)
      have hO7 : Own w7 w.heap.size 24 (some ⟨w.heap.size, 0, none⟩) 8 8 (opL o.kinded A n c) := by rw [hw7]; exact own_other hO6 (fun a ha => by cases ha; have := HNE.out; simp only; omega) _
      have hP7 : Own w7 w1.heap.size 24 (some ⟨w1.heap.size, 0, none⟩) 8 8 (opL p.kinded A2 n2 c2) := by rw [hw7]; exact hP6.store 0 (.int .i64 (kd p.k)) rfl
      have hE7 : Ext w w7 := by rw [hw7]; exact hE6.setCell (p := ⟨w1.heap.size, 0, none⟩) (Nat.le_of_lt HNE.out) _
      refine piv_done (by kernel_rfl) ?_ _
      clear hw7
      go_wp2_with fail
      go_meet
      case rel => exact ⟨hO7, hP7, hE7⟩
  case rest =>
  obtain ⟨hO7, hP7, hE7⟩ := hcut
  rename World => w7
  (try clear hO6)
  (try clear hP6)
  (try clear hE6)
  (try clear hO4)
  (try clear hP4)
  (try clear ck1)
  (try clear ck2)
  (try clear hL4)
  (try clear hL3)
  (try clear hE03)
  (try clear hE04)
  (try clear hE3)
  (try clear hE4)
  (try clear hP3)
  (try clear hO2)
  (try clear W1)
  (try clear W2)
  (try clear LL1)
  (try clear LL2)
  (try clear hne)
  have hL7 := hL.ext hE7
  have hD7 := hide (And.intro (hD.ext hE7) (hD2.ext hE7))
  have hks : InR o.kinded.k := ⟨by show _ ≤ kd o.k; omega, by show kd o.k ≤ _; omega⟩
  have hks2 : InR p.kinded.k := ⟨by show _ ≤ kd p.k; omega, by show kd p.k ≤ _; omega⟩
  have HSay := hide (fun w' (h : Ext w7 w') => f_Say o.kinded A n c w' (hL7.ext h) ho hks HG.out.1.1 (hD7.out.1.ext h))
  have HSay2 := hide (fun w' (h : Ext w7 w') => f_Say p.kinded A2 n2 c2 w' (hL7.ext h) ho2 hks2 HG.out.2.1 (hD7.out.2.ext h))
  have HRS := hide (read_say o.kinded ho hk1.1 hk1.2)
  have HSL := hide (say_len (o := o.kinded) ho hk1.1 hk1.2)
  have HSN := hide (say_ne (o := o.kinded) hk1.1 hk1.2)
  have HSS := hide (same_say (o := o) (p := p) ho ho2)
  have HSC := hide (say_count o.kinded)
  have HLen := hide (show (sayL o.kinded).length ≤ 8000 from by
    have h1 := HSL.out
    have h2 := HG.out.1.2
    have e1 : o.kinded.pa = o.pa := rfl
    have e2 : o.kinded.to = o.to := rfl
    have e3 : o.kinded.da = o.da := rfl
    rw [e1, e2, e3] at h1
    omega)
  obtain ⟨q, hq⟩ : ∃ q, q = o.kinded := ⟨_, rfl⟩
  obtain ⟨r, hr⟩ : ∃ r, r = p.kinded := ⟨_, rfl⟩
  rw [← hq] at hO7 HSay HRS HSN HSS HSC HLen
  rw [← hr] at hP7 HSay2 HSS
  have HQ := hide (And.intro hq hr)
  (try clear hq)
  (try clear hr)
  (try clear HSL)
  (try clear hk1)
  (try clear hk2)
  (try clear hks)
  (try clear hks2)
  (try clear hk)
  (try clear hk2)
  (try clear ho2)
  (try clear HG)
  (try clear hD)
  (try clear hD2)
  go_wp2_with (with_reducible refine ag_load rfl 24 (.tmp 3) rfl w.heap.size 8 w.heap.size 24 _ rfl hO7 agg_op info_op ?_)
  refine (HSay.out _ (Ext.refl w7)).mono ?_
  rintro e w8 ⟨rfl, hE8⟩
  obtain ⟨L, hLq⟩ : ∃ L, L = sayL q := ⟨_, rfl⟩
  rw [← hLq] at HRS HSN HSC HLen HSS ⊢
  have HRd := hide (f_Read L w8 (by have := HLen.out; omega) (hL7.ext hE8))
  have hbeq := toB_beq L (sayL r)
  have hsz := toB_size L
  have HLQ := hide hLq
  clear hLq
  obtain ⟨s, hs⟩ : ∃ s, s = toB L := ⟨_, rfl⟩
  rw [← hs] at hbeq hsz HRd ⊢
  have HS := hide hs
  have hse : s.toList.isEmpty = false := by
    rw [hs, toB_list]
    cases hL0 : L with
    | nil => exact absurd hL0 HSN.out
    | cons => rfl
  clear hs
  go_wp2_with fail
  refine HRd.out.mono ?_
  rintro e w9 ⟨o1, A1, n1, c1, er1, rfl, hE9, hD1, hcase1⟩
  have hcc : o1 = q ∧ er1 = 0 := by
    rcases hcase1 with ⟨h, h2⟩ | ⟨h, _⟩
    · rw [HRS.out] at h
      exact ⟨(Option.some.inj h).symm, h2⟩
    · rw [HRS.out] at h; cases h
  obtain ⟨rfl, rfl⟩ := hcc
  rw [← opL_arr]
  have hO9 := hO7.ext (hE8.trans hE9)
  have hP9 := hP7.ext (hE8.trans hE9)
  go_upto_region 6 with (first
    | (with_reducible refine ag_alloc (o := ⟨some 8, _, _, _, _, _⟩) rfl 24 rfl _ 8 zero_op (opL_len _ _ _ _) (by omega) (opL_one noOp none 0 0) w9.heap.size (Nat.le_refl _) ?_; intro w10 hX10 hE10 hz10)
    | (with_reducible refine ag_store (o := ⟨none, _, _, _, _, _⟩) rfl 24 (.tmp 8) (.tmp 34) rfl w9.heap.size 8 w9.heap.size 24 _ (opL o1 A1 n1 c1) rfl rfl hX10 (opL_len _ _ _ _) (opL_one _ _ _ _) info_op ?_; intro w11 hX11 hG11))
  have hE11 : Ext w9 w11 := hE10.grown hG11 (fun k hk => by cases hk; exact Nat.le_refl _)
  have hO11 := hO9.ext hE11
  have hP11 := hP9.ext hE11
  have hE711 : Ext w7 w11 := hE8.trans (hE9.trans hE11)
  have hda : nat8 o.da = nat8 o1.da := by rw [HQ.out.1]; rfl
  have HC1 := hide (fun w' (h : Ext w11 w') => f_SameOp o1 o1 A1 A n1 c1 n c w' ((hD1.ext hE11).sl.ext h) (by rw [← hda]; exact hD7.out.1.ext (hE711.trans h)))
  have HC2 := hide (fun w' (h : Ext w11 w') => f_Same o1 o1 A1 A n1 c1 n c w' ((hD1.ext hE11).sl.ext h) (by rw [← hda]; exact hD7.out.1.ext (hE711.trans h)))
  rw [show sameB o1 o1 = true from sameB_iff.2 rfl] at HC1 HC2
  have HDA := hide hda
  (try clear hda)
  (try clear hcase1)
  (try clear hD1)
  (try clear hX10)
  (try clear hE10)
  (try clear hG11)
  (try clear hz10)
  go_wp2_with (first
    | (with_reducible refine ag_load rfl 24 (.tmp 8) rfl w9.heap.size 8 w9.heap.size 24 _ rfl hX11 agg_op info_op ?_)
    | (with_reducible refine ag_load rfl 24 (.tmp 3) rfl w.heap.size 8 w.heap.size 24 _ rfl hO11 agg_op info_op ?_))
  refine (HC1.out _ (Ext.refl w11)).mono ?_
  rintro e w12 ⟨rfl, hE12⟩
  have hX12 := hX11.ext hE12
  have hO12 := hO11.ext hE12
  go_wp2_with (first
    | (with_reducible refine ag_load rfl 24 (.tmp 8) rfl w9.heap.size 8 w9.heap.size 24 _ rfl hX12 agg_op info_op ?_)
    | (with_reducible refine ag_load rfl 24 (.tmp 3) rfl w.heap.size 8 w.heap.size 24 _ rfl hO12 agg_op info_op ?_))
  refine (HC2.out _ hE12).mono ?_
  rintro e w13 ⟨rfl, hE13⟩
  have hE713 : Ext w7 w13 := hE711.trans (hE12.trans hE13)
  have hO13 := hO12.ext hE13
  have hP13 := hP11.ext (hE12.trans hE13)
  clear HC1 HC2
  obtain ⟨m, hm⟩ : ∃ m, m = L.length := ⟨_, rfl⟩
  rw [← hm] at hsz
  have hml : m ≤ 8000 := by rw [hm]; exact HLen.out
  have W5 : IntKind.i64.wrap ((m : Int) + 1) = ((m + 1 : Nat) : Int) := by rw [IntWalk.i64_in _ (by omega)]; simp
  have HLow := hide (fun w => Low at_ ((m + 1 : Nat) : Int) (m + 1) w rfl (by omega) (by omega))
  have hlow := low_lt at_ (n := m + 1) (by omega)
  obtain ⟨t, ht⟩ : ∃ t, t = low at_ (m + 1) := ⟨_, rfl⟩
  rw [← ht] at HLow hlow
  have HM := hide hm
  clear hm ht
  go_wp2_with fail
  refine (HLow.out _).mono ?_
  rintro e w14 ⟨rfl, rfl⟩
  go_upto_region 9 with fail
  have x1 : s.extract 0 t = toB (L.take t) := by
    rw [HS.out]
    apply ByteArray.ext
    apply Array.ext'
    simp [toB]
  have x2 : s.extract t m = toB (L.drop t) := by
    rw [HS.out, HM.out]
    apply ByteArray.ext
    apply Array.ext'
    simp [toB]
    exact List.take_of_length_le (by simp)
  have z1 : (toB (L.take t)).size = t := by rw [toB_size, List.length_take]; have := HM.out; omega
  have z2 : (toB (L.drop t)).size = m - t := by rw [toB_size, List.length_drop, HM.out]
  have j1 : (t : Int) ≤ (m : Int) := by omega
  have j2 : t ≤ m := by omega
  have nn1 : ¬ 9223372036854775807 < t + 1 := by omega
  have nn2 : ¬ 9223372036854775807 < t + 1 + (m - t) := by omega
  have hcat : toB (L.take t) ++ ⟨#[32]⟩ ++ toB (L.drop t) = toB (L.take t ++ 32 :: L.drop t) := by
    rw [show (⟨#[32]⟩ : ByteArray) = toB [32] from rfl, toB_app, toB_app]
    congr 1
    simp
  have hnone := read_blank (L.take t) (L.drop t) (by rw [List.take_append_drop]; exact HSC.out)
  have HRd2 := hide (fun w' (h : Ext w13 w') => f_Read (L.take t ++ 32 :: L.drop t) w' (by rw [List.length_append, List.length_cons, List.length_take, List.length_drop]; have := HM.out; omega) (hL7.ext (hE713.trans h)))
  rw [hnone, ← hcat] at HRd2
  generalize toB (L.take t) = y1 at *
  generalize toB (L.drop t) = y2 at *
  clear hcat hnone HRd
  go_cut [10, 11] from 59 to 70 (fun x er wx => er = .int .i64 3 ∧ Ext w13 wx)
  case first =>
    refine wp_region_held_drew (S := (fun w' => Ext w13 w')) (by kernel_rfl) ((Ext.refl w13).drew) (fun hHeld => ?_)
    refine held_take 0 rfl (by kernel_rfl) (by kernel_rfl) (by kernel_rfl) (fun _ _ _ _ h => h) (by rfl) ?_ ?_ (by assumption) ?_
    rotate_left
    · (intro wx hSx; (try dsimp only at hSx); go_simp)
      all_goals with_reducible rfl
    (try simp only [Act.put, List.setIfInBounds_toArray, List.set_cons_zero, List.set_cons_succ])
    refine held_take 1 rfl (by kernel_rfl) (by kernel_rfl) (by kernel_rfl) (fun _ _ _ _ h => h) (by rfl) ?_ ?_ (by assumption) ?_
    rotate_left
    · (intro wx hSx; (try dsimp only at hSx); go_simp)
      all_goals with_reducible rfl
    (try simp only [Act.put, List.setIfInBounds_toArray, List.set_cons_zero, List.set_cons_succ])
    refine held_take 2 rfl (by kernel_rfl) (by kernel_rfl) (by kernel_rfl) (fun _ _ _ _ h => h) (by rfl) ?_ ?_ (by assumption) ?_
    rotate_left
    · (intro wx hSx; (try dsimp only at hSx); go_simp)
      all_goals with_reducible rfl
    (try simp only [Act.put, List.setIfInBounds_toArray, List.set_cons_zero, List.set_cons_succ])
    refine held_take 3 rfl (by kernel_rfl) (by kernel_rfl) (by kernel_rfl) (fun _ _ _ _ h => h) (by rfl) ?_ ?_ (by assumption) ?_
    rotate_left
    · (intro wx hSx; (try dsimp only at hSx); go_simp)
      all_goals with_reducible rfl
    (try simp only [Act.put, List.setIfInBounds_toArray, List.set_cons_zero, List.set_cons_succ])
    refine held_take 4 rfl (by kernel_rfl) (by kernel_rfl) (by kernel_rfl) (fun _ _ _ _ h => h) (by rfl) ?_ ?_ (by assumption) ?_
    rotate_left
    · (intro wx hSx; (try dsimp only at hSx); go_simp)
      all_goals with_reducible rfl
    (try simp only [Act.put, List.setIfInBounds_toArray, List.set_cons_zero, List.set_cons_succ])
    refine held_take 5 rfl (by kernel_rfl) (by kernel_rfl) (by kernel_rfl) (fun _ _ _ _ h => h) (by rfl) ?_ ?_ (by assumption) ?_
    rotate_left
    · (intro wx hSx; (try dsimp only at hSx); go_simp)
      all_goals with_reducible rfl
    (try simp only [Act.put, List.setIfInBounds_toArray, List.set_cons_zero, List.set_cons_succ])
    refine held_take 6 rfl (by kernel_rfl) (by kernel_rfl) (by kernel_rfl) (fun _ _ _ _ h => h) (by rfl) ?_ ?_ (by assumption) ?_
    rotate_left
    · (intro wx hSx; (try dsimp only at hSx); go_simp)
      all_goals with_reducible rfl
    (try simp only [Act.put, List.setIfInBounds_toArray, List.set_cons_zero, List.set_cons_succ])
    refine held_take 7 rfl (by kernel_rfl) (by kernel_rfl) (by kernel_rfl) (fun _ _ _ _ h => h) (by rfl) ?_ ?_ (by assumption) ?_
    rotate_left
    · (intro wx hSx; (try dsimp only at hSx); go_simp)
      all_goals with_reducible rfl
    (try simp only [Act.put, List.setIfInBounds_toArray, List.set_cons_zero, List.set_cons_succ])
    refine held_two 8 12 rfl rfl (by kernel_rfl) (fun K hK => ?_) (fun K hK => ?_)
    · go_simp
      go_at_call 8
      refine (HRd2.out _ (Ext.refl w13).drew).mono ?_
      rintro e wa ⟨o2, A2x, n2x, c2x, er2, rfl, hEa, hD2x, hcase2⟩
      have hc2 : o2 = noOp ∧ A2x = none ∧ er2 = 3 := by
        rcases hcase2 with ⟨h, _⟩ | ⟨_, h1, h2, h3⟩
        · cases h
        · exact ⟨h2, h3, h1⟩
      obtain ⟨rfl, rfl, rfl⟩ := hc2
      obtain ⟨rfl, rfl⟩ := hD2x.none
      rw [← opL_arr]
      have hEa1 : Ext w13 wa := ((Ext.refl w13).drew).trans hEa
      go_wp2_with fail
      refine hK.out _ _ hEa1 (fun hHeld => ?_)
      clear hK K
      (try simp only [Act.put, List.setIfInBounds_toArray, List.set_cons_zero, List.set_cons_succ])
      refine held_take 9 rfl (by kernel_rfl) (by kernel_rfl) (by kernel_rfl) (fun _ _ _ _ h => h) (by rfl) ?_ ?_ (by assumption) ?_
      rotate_left
      · (intro wx hSx; (try dsimp only at hSx); go_simp)
        all_goals with_reducible rfl
      (try simp only [Act.put, List.setIfInBounds_toArray, List.set_cons_zero, List.set_cons_succ])
      refine held_take 10 rfl (by kernel_rfl) (by kernel_rfl) (by kernel_rfl) (fun _ _ _ _ h => h) (by rfl) ?_ ?_ (by assumption) ?_
      rotate_left
      · (intro wx hSx; (try dsimp only at hSx); go_simp)
        all_goals with_reducible rfl
      (try simp only [Act.put, List.setIfInBounds_toArray, List.set_cons_zero, List.set_cons_succ])
      refine held_take 11 rfl (by kernel_rfl) (by kernel_rfl) (by kernel_rfl) (fun _ _ _ _ h => h) (by rfl) ?_ ?_ (by assumption) ?_
      rotate_left
      · (intro wx hSx; (try dsimp only at hSx); go_simp)
        all_goals with_reducible rfl
      (try simp only [Act.put, List.setIfInBounds_toArray, List.set_cons_zero, List.set_cons_succ])
      refine held_call 12 rfl (by kernel_rfl) (fun K hK => ?_)
      refine step_alloc rfl 24 rfl _ 8 zero_op (opL_len _ _ _ _) (by omega) (opL_one noOp none 0 0) wa.heap.size (Nat.le_refl _) ?_
      intro wb hY hEb
      have hEb1 := hEa1.trans hEb
      refine hK.out _ _ hEb1 (fun hHeld => ?_)
      clear hK K
      (try simp only [Act.put, List.setIfInBounds_toArray, List.set_cons_zero, List.set_cons_succ])
      refine held_call 13 rfl (by kernel_rfl) (fun K hK => ?_)
      refine step_store rfl 24 (.tmp 10) (.tmp 69) rfl wa.heap.size 8 wa.heap.size 24 _ (opL noOp none 0 0) rfl rfl hY (opL_len _ _ _ _) (opL_one _ _ _ _) info_op ?_
      intro wz hZ hGz
      have hEz : Ext w13 wz := hEb1.grown hGz (fun k hk => by cases hk; exact hEa1.size)
      refine hK.out _ _ hEz (fun hHeld => ?_)
      clear hK K
      (try simp only [Act.put, List.setIfInBounds_toArray, List.set_cons_zero, List.set_cons_succ])
      refine held_take 14 rfl (by kernel_rfl) (by kernel_rfl) (by kernel_rfl) (fun _ _ _ _ h => h) (by rfl) ?_ ?_ (by assumption) ?_
      rotate_left
      · (intro wx hSx; (try dsimp only at hSx); go_simp)
        all_goals with_reducible rfl
      (try simp only [Act.put, List.setIfInBounds_toArray, List.set_cons_zero, List.set_cons_succ])
      refine wpAnyH_done (by kernel_rfl) ?_ _
      go_wp2_with fail
      go_meet
      case rel => exact ⟨rfl, hEz⟩
    · refine step_alloc rfl 24 rfl _ 8 zero_op (opL_len _ _ _ _) (by omega) (opL_one noOp none 0 0) w13.drew.heap.size (Nat.le_refl _) ?_
      intro wb hY hEb
      have hEb1 := ((Ext.refl w13).drew).trans hEb
      refine hK.out _ _ hEb1 (fun hHeld => ?_)
      clear hK K
      (try simp only [Act.put, List.setIfInBounds_toArray, List.set_cons_zero, List.set_cons_succ])
      refine held_call 8 rfl (by kernel_rfl) (fun K hK => ?_)
      go_simp
      go_at_call 8
      refine (HRd2.out _ hEb1).mono ?_
      rintro e wa ⟨o2, A2x, n2x, c2x, er2, rfl, hEa, hD2x, hcase2⟩
      have hc2 : o2 = noOp ∧ A2x = none ∧ er2 = 3 := by
        rcases hcase2 with ⟨h, _⟩ | ⟨_, h1, h2, h3⟩
        · cases h
        · exact ⟨h2, h3, h1⟩
      obtain ⟨rfl, rfl, rfl⟩ := hc2
      obtain ⟨rfl, rfl⟩ := hD2x.none
      rw [← opL_arr]
      have hEa1 : Ext w13 wa := hEb1.trans hEa
      go_wp2_with fail
      refine hK.out _ _ hEa1 (fun hHeld => ?_)
      clear hK K
      (try simp only [Act.put, List.setIfInBounds_toArray, List.set_cons_zero, List.set_cons_succ])
      refine held_take 9 rfl (by kernel_rfl) (by kernel_rfl) (by kernel_rfl) (fun _ _ _ _ h => h) (by rfl) ?_ ?_ (by assumption) ?_
      rotate_left
      · (intro wx hSx; (try dsimp only at hSx); go_simp)
        all_goals with_reducible rfl
      (try simp only [Act.put, List.setIfInBounds_toArray, List.set_cons_zero, List.set_cons_succ])
      refine held_take 10 rfl (by kernel_rfl) (by kernel_rfl) (by kernel_rfl) (fun _ _ _ _ h => h) (by rfl) ?_ ?_ (by assumption) ?_
      rotate_left
      · (intro wx hSx; (try dsimp only at hSx); go_simp)
        all_goals with_reducible rfl
      (try simp only [Act.put, List.setIfInBounds_toArray, List.set_cons_zero, List.set_cons_succ])
      refine held_take 11 rfl (by kernel_rfl) (by kernel_rfl) (by kernel_rfl) (fun _ _ _ _ h => h) (by rfl) ?_ ?_ (by assumption) ?_
      rotate_left
      · (intro wx hSx; (try dsimp only at hSx); go_simp)
        all_goals with_reducible rfl
      (try simp only [Act.put, List.setIfInBounds_toArray, List.set_cons_zero, List.set_cons_succ])
      refine held_call 13 rfl (by kernel_rfl) (fun K hK => ?_)
      refine step_store rfl 24 (.tmp 10) (.tmp 69) rfl w13.drew.heap.size 8 w13.drew.heap.size 24 _ (opL noOp none 0 0) rfl rfl (hY.ext hEa) (opL_len _ _ _ _) (opL_one _ _ _ _) info_op ?_
      intro wz hZ hGz
      have hEz : Ext w13 wz := hEa1.grown hGz (fun k hk => by cases hk; exact Nat.le_refl _)
      refine hK.out _ _ hEz (fun hHeld => ?_)
      clear hK K
      (try simp only [Act.put, List.setIfInBounds_toArray, List.set_cons_zero, List.set_cons_succ])
      refine held_take 14 rfl (by kernel_rfl) (by kernel_rfl) (by kernel_rfl) (fun _ _ _ _ h => h) (by rfl) ?_ ?_ (by assumption) ?_
      rotate_left
      · (intro wx hSx; (try dsimp only at hSx); go_simp)
        all_goals with_reducible rfl
      (try simp only [Act.put, List.setIfInBounds_toArray, List.set_cons_zero, List.set_cons_succ])
      refine wpAnyH_done (by kernel_rfl) ?_ _
      go_wp2_with fail
      go_meet
      case rel => exact ⟨rfl, hEz⟩
  case rest =>
  obtain ⟨rfl, hE14⟩ := hcut
  have hu : Tryd.prog.underlying 24 = _ := Tryd.underlying24
  have hOc := hO13.ext hE14
  have hPc := hP13.ext hE14
  have hE7c : Ext w7 wc := hE713.trans hE14
  have HS2 := hide (show ∀ w', Ext wc w' → (w'.rangeAt w.heap.size 0 (opL o1 A n c) ∧ w'.rangeAt w1.heap.size 0 (opL r A2 n2 c2) ∧ Ext wc w') from fun w' h => ⟨(hOc.ext h).range, (hPc.ext h).range, h⟩)
  have hdb : nat8 p.da = nat8 r.da := by rw [HQ.out.2]; rfl
  have HC1 := hide (fun w' (h : Ext wc w') => f_Same o1 r A A2 n c n2 c2 w' (by rw [← HDA.out]; exact hD7.out.1.ext (hE7c.trans h)) (by rw [← hdb]; exact hD7.out.2.ext (hE7c.trans h)))
  have HC2 := hide (fun w' (h : Ext wc w') => f_SameOp o1 r A A2 n c n2 c2 w' (by rw [← HDA.out]; exact hD7.out.1.ext (hE7c.trans h)) (by rw [← hdb]; exact hD7.out.2.ext (hE7c.trans h)))
  have HSy2 := hide (fun w' (h : Ext wc w') => HSay2.out w' (hE7c.trans h))
  have HAw := hide (fun w' (h : Ext wc w') => law25_awake w' (hL7.ext (hE7c.trans h)))
  have HEf := hide (hE7.trans hE7c)
  rw [HSS.out] at hbeq
  generalize sameB o1 r = bb at *
  generalize toB (sayL r) = sr at *
  have hbb : (bb == bb) = true := by simp
  (try clear hdb)
  (try clear hO13)
  (try clear hP13)
  (try clear hOc)
  (try clear hPc)
  (try clear HSay)
  (try clear HRd2)
  (try clear x1)
  (try clear x2)
  (try clear z1)
  (try clear z2)
  go_wp2_with fail
  refine wp_region_held_drew (S := (fun w' => w'.rangeAt w.heap.size 0 (opL o1 A n c) ∧ w'.rangeAt w1.heap.size 0 (opL r A2 n2 c2) ∧ Ext wc w')) (by kernel_rfl) (HS2.out _ (Ext.refl wc).drew) (fun hHeld => ?_)
  refine held_take 0 rfl (by kernel_rfl) (by kernel_rfl) (by kernel_rfl) (fun _ _ _ _ h => h) (by rfl) ?_ ?_ (by assumption) ?_
  rotate_left
  · (intro wx hSx; (try dsimp only at hSx); go_simp)
    all_goals with_reducible rfl
  (try simp only [Act.put, List.setIfInBounds_toArray, List.set_cons_zero, List.set_cons_succ])
  refine held_take 1 rfl (by kernel_rfl) (by kernel_rfl) (by kernel_rfl) (fun _ _ _ _ h => h) (by rfl) ?_ ?_ (by assumption) ?_
  rotate_left
  · (intro wx hSx; (try dsimp only at hSx); go_simp)
    all_goals with_reducible rfl
  (try simp only [Act.put, List.setIfInBounds_toArray, List.set_cons_zero, List.set_cons_succ])
  refine held_take 2 rfl (by kernel_rfl) (by kernel_rfl) (by kernel_rfl) (fun _ _ _ _ h => h) (by rfl) ?_ ?_ (by assumption) ?_
  rotate_left
  · (intro wx hSx; (try dsimp only at hSx); go_simp)
    all_goals with_reducible rfl
  (try simp only [Act.put, List.setIfInBounds_toArray, List.set_cons_zero, List.set_cons_succ])
  refine held_load 3 rfl (by kernel_rfl) (by kernel_rfl) (by kernel_rfl) (fun _ _ _ _ h => h) (by rfl) 24 (.tmp 3) rfl w.heap.size (opL o1 A n c) _ rfl (fun wx hSx => hSx.1) hu rfl info_op (by assumption) ?_
  (try simp only [Act.put, List.setIfInBounds_toArray, List.set_cons_zero, List.set_cons_succ])
  refine held_load 4 rfl (by kernel_rfl) (by kernel_rfl) (by kernel_rfl) (fun _ _ _ _ h => h) (by rfl) 24 (.tmp 4) rfl w1.heap.size (opL r A2 n2 c2) _ rfl (fun wx hSx => hSx.2.1) hu rfl info_op (by assumption) ?_
  (try simp only [Act.put, List.setIfInBounds_toArray, List.set_cons_zero, List.set_cons_succ])
  refine held_take 6 rfl (by kernel_rfl) (by kernel_rfl) (by kernel_rfl) (fun _ _ _ _ h => h) (by rfl) ?_ ?_ (by assumption) ?_
  rotate_left
  · (intro wx hSx; (try dsimp only at hSx); go_simp)
    all_goals with_reducible rfl
  (try simp only [Act.put, List.setIfInBounds_toArray, List.set_cons_zero, List.set_cons_succ])
  refine held_load 7 rfl (by kernel_rfl) (by kernel_rfl) (by kernel_rfl) (fun _ _ _ _ h => h) (by rfl) 24 (.tmp 4) rfl w1.heap.size (opL r A2 n2 c2) _ rfl (fun wx hSx => hSx.2.1) hu rfl info_op (by assumption) ?_
  (try simp only [Act.put, List.setIfInBounds_toArray, List.set_cons_zero, List.set_cons_succ])
  refine held_call 5 rfl (by kernel_rfl) (fun K hK => ?_)
  go_simp
  go_at_call 15
  refine (HC1.out _ (Ext.refl wc).drew).mono ?_
  rintro e wd ⟨rfl, hEwd'⟩
  have hEwd : Ext wc wd := ((Ext.refl wc).drew).trans hEwd'
  go_wp2_with fail
  refine hK.out _ _ (HS2.out _ hEwd) (fun hHeld => ?_)
  clear hK K
  (try simp only [Act.put, List.setIfInBounds_toArray, List.set_cons_zero, List.set_cons_succ])
  refine held_call 8 rfl (by kernel_rfl) (fun K hK => ?_)
  go_simp
  go_at_call 10
  refine (HSy2.out _ hEwd).mono ?_
  rintro e we ⟨rfl, hEwe'⟩
  have hEwe : Ext wc we := hEwd.trans hEwe'
  go_wp2_with fail
  refine hK.out _ _ (HS2.out _ hEwe) (fun hHeld => ?_)
  clear hK K
  (try simp only [Act.put, List.setIfInBounds_toArray, List.set_cons_zero, List.set_cons_succ])
  refine held_take 9 rfl (by kernel_rfl) (by kernel_rfl) (by kernel_rfl) (fun _ _ _ _ h => h) (by rfl) ?_ ?_ (by assumption) ?_
  rotate_left
  · (intro wx hSx; (try dsimp only at hSx); go_simp)
    all_goals with_reducible rfl
  (try simp only [Act.put, List.setIfInBounds_toArray, List.set_cons_zero, List.set_cons_succ])
  refine held_take 10 rfl (by kernel_rfl) (by kernel_rfl) (by kernel_rfl) (fun _ _ _ _ h => h) (by rfl) ?_ ?_ (by assumption) ?_
  rotate_left
  · (intro wx hSx; (try dsimp only at hSx); go_simp)
    all_goals with_reducible rfl
  (try simp only [Act.put, List.setIfInBounds_toArray, List.set_cons_zero, List.set_cons_succ])
  refine held_take 11 rfl (by kernel_rfl) (by kernel_rfl) (by kernel_rfl) (fun _ _ _ _ h => h) (by rfl) ?_ ?_ (by assumption) ?_
  rotate_left
  · (intro wx hSx; (try dsimp only at hSx); go_simp)
    all_goals with_reducible rfl
  (try simp only [Act.put, List.setIfInBounds_toArray, List.set_cons_zero, List.set_cons_succ])
  refine held_take 12 rfl (by kernel_rfl) (by kernel_rfl) (by kernel_rfl) (fun _ _ _ _ h => h) (by rfl) ?_ ?_ (by assumption) ?_
  rotate_left
  · (intro wx hSx; (try dsimp only at hSx); go_simp)
    all_goals with_reducible rfl
  (try simp only [Act.put, List.setIfInBounds_toArray, List.set_cons_zero, List.set_cons_succ])
  refine held_load 13 rfl (by kernel_rfl) (by kernel_rfl) (by kernel_rfl) (fun _ _ _ _ h => h) (by rfl) 24 (.tmp 3) rfl w.heap.size (opL o1 A n c) _ rfl (fun wx hSx => hSx.1) hu rfl info_op (by assumption) ?_
  (try simp only [Act.put, List.setIfInBounds_toArray, List.set_cons_zero, List.set_cons_succ])
  refine held_load 14 rfl (by kernel_rfl) (by kernel_rfl) (by kernel_rfl) (fun _ _ _ _ h => h) (by rfl) 24 (.tmp 4) rfl w1.heap.size (opL r A2 n2 c2) _ rfl (fun wx hSx => hSx.2.1) hu rfl info_op (by assumption) ?_
  (try simp only [Act.put, List.setIfInBounds_toArray, List.set_cons_zero, List.set_cons_succ])
  refine held_load 16 rfl (by kernel_rfl) (by kernel_rfl) (by kernel_rfl) (fun _ _ _ _ h => h) (by rfl) 24 (.tmp 3) rfl w.heap.size (opL o1 A n c) _ rfl (fun wx hSx => hSx.1) hu rfl info_op (by assumption) ?_
  (try simp only [Act.put, List.setIfInBounds_toArray, List.set_cons_zero, List.set_cons_succ])
  refine held_load 17 rfl (by kernel_rfl) (by kernel_rfl) (by kernel_rfl) (fun _ _ _ _ h => h) (by rfl) 24 (.tmp 4) rfl w1.heap.size (opL r A2 n2 c2) _ rfl (fun wx hSx => hSx.2.1) hu rfl info_op (by assumption) ?_
  (try simp only [Act.put, List.setIfInBounds_toArray, List.set_cons_zero, List.set_cons_succ])
  refine held_call 15 rfl (by kernel_rfl) (fun K hK => ?_)
  go_simp
  go_at_call 15
  refine (HC1.out _ hEwe).mono ?_
  rintro e wf ⟨rfl, hEwf'⟩
  have hEwf : Ext wc wf := hEwe.trans hEwf'
  go_wp2_with fail
  refine hK.out _ _ (HS2.out _ hEwf) (fun hHeld => ?_)
  clear hK K
  (try simp only [Act.put, List.setIfInBounds_toArray, List.set_cons_zero, List.set_cons_succ])
  refine held_call 18 rfl (by kernel_rfl) (fun K hK => ?_)
  go_simp
  go_at_call 12
  refine (HC2.out _ hEwf).mono ?_
  rintro e wg ⟨rfl, hEwg'⟩
  have hEwg : Ext wc wg := hEwf.trans hEwg'
  go_wp2_with fail
  refine hK.out _ _ (HS2.out _ hEwg) (fun hHeld => ?_)
  clear hK K
  (try simp only [Act.put, List.setIfInBounds_toArray, List.set_cons_zero, List.set_cons_succ])
  refine held_take 19 rfl (by kernel_rfl) (by kernel_rfl) (by kernel_rfl) (fun _ _ _ _ h => h) (by rfl) ?_ ?_ (by assumption) ?_
  rotate_left
  · (intro wx hSx; (try dsimp only at hSx); go_simp)
    all_goals with_reducible rfl
  (try simp only [Act.put, List.setIfInBounds_toArray, List.set_cons_zero, List.set_cons_succ])
  refine held_take 20 rfl (by kernel_rfl) (by kernel_rfl) (by kernel_rfl) (fun _ _ _ _ h => h) (by rfl) ?_ ?_ (by assumption) ?_
  rotate_left
  · (intro wx hSx; (try dsimp only at hSx); go_simp)
    all_goals with_reducible rfl
  (try simp only [Act.put, List.setIfInBounds_toArray, List.set_cons_zero, List.set_cons_succ])
  refine held_take 21 rfl (by kernel_rfl) (by kernel_rfl) (by kernel_rfl) (fun _ _ _ _ h => h) (by rfl) ?_ ?_ (by assumption) ?_
  rotate_left
  · (intro wx hSx; (try dsimp only at hSx); go_simp)
    all_goals with_reducible rfl
  (try simp only [Act.put, List.setIfInBounds_toArray, List.set_cons_zero, List.set_cons_succ])
  refine held_call 22 rfl (by kernel_rfl) (fun K hK => ?_)
  go_simp
  go_at_call 7
  refine (HAw.out _ hEwg).mono ?_
  rintro e wh ⟨rfl, hEwh'⟩
  have hEwh : Ext wc wh := hEwg.trans hEwh'
  go_wp2_with fail
  refine hK.out _ _ (HS2.out _ hEwh) (fun hHeld => ?_)
  clear hK K
  (try simp only [Act.put, List.setIfInBounds_toArray, List.set_cons_zero, List.set_cons_succ])
  refine held_take 23 rfl (by kernel_rfl) (by kernel_rfl) (by kernel_rfl) (fun _ _ _ _ h => h) (by rfl) ?_ ?_ (by assumption) ?_
  rotate_left
  · (intro wx hSx; (try dsimp only at hSx); go_simp)
    all_goals with_reducible rfl
  (try simp only [Act.put, List.setIfInBounds_toArray, List.set_cons_zero, List.set_cons_succ])
  refine held_take 24 rfl (by kernel_rfl) (by kernel_rfl) (by kernel_rfl) (fun _ _ _ _ h => h) (by rfl) ?_ ?_ (by assumption) ?_
  rotate_left
  · (intro wx hSx; (try dsimp only at hSx); go_simp)
    all_goals with_reducible rfl
  (try simp only [Act.put, List.setIfInBounds_toArray, List.set_cons_zero, List.set_cons_succ])
  refine wpAnyH_done (by kernel_rfl) ?_ _
  have HEh := hide (HEf.out.trans hEwh)
  go_wp2_with fail
  go_ret
  exact ⟨rfl, HEh.out⟩
end Go.Proofs.YtmfenegkeiipnaaDoor
