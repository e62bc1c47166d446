/- One act of both spaces. (Written by gen_rfk.py.) -/
import Derived.Test.YtillhbbeghbfeaaRfj
import Derived.Deep.DeepCutAuto
import Derived.RegionTactic
namespace Go.Proofs.Ytillhbbeghbfeaa
set_option linter.unusedVariables false
set_option linter.unusedSimpArgs false
open Go.RowKit

def actV (d n m : Int) (l : Bool) : List Value := [.int .i64 d, .int .i64 n, .int .i64 m, .bool l]
theorem actV_one (d n m : Int) (l : Bool) : ∀ u ∈ actV d n m l, u.oneCell' = true := by simp [actV, Value.oneCell']
theorem info_act : (Try.prog.info? 40).map (·.size) = some 4 := by kernel_rfl
theorem agg_act (w : World) : (isAgg 40).run Try.prog w = .ok true w := by kernel_rfl
theorem info_two : (Try.prog.info? 36).map (·.size) = some 2 := by kernel_rfl
theorem agg_two (w : World) : (isAgg 36).run Try.prog w = .ok true w := by kernel_rfl
theorem zero_two : (Try.prog.info? 36).map (·.zero) = some (some (.agg (i64s [0, 0]).toArray)) := by kernel_rfl
theorem act_cells {w : World} {B b : Nat} {d n m : Int} {l : Bool} (h : Own w B 40 (some ⟨b, 0, none⟩) 4 4 (actV d n m l)) : w.cell? ⟨b, 0, none⟩ = some (.int .i64 d) ∧ w.cell? ⟨b, 1, none⟩ = some (.int .i64 n) ∧ w.cell? ⟨b, 2, none⟩ = some (.int .i64 m) ∧ w.cell? ⟨b, 3, none⟩ = some (.bool l) :=
  ⟨h.cellAt 0 (by omega), h.cellAt 1 (by omega), h.cellAt 2 (by omega), h.cellAt 3 (by omega)⟩
theorem two_cells {w : World} {B b : Nat} {x y : Int} (h : Own w B 36 (some ⟨b, 0, none⟩) 2 2 (i64s [x, y])) : w.cell? ⟨b, 0, none⟩ = some (.int .i64 x) ∧ w.cell? ⟨b, 1, none⟩ = some (.int .i64 y) :=
  ⟨h.cellAt 0 (by omega), h.cellAt 1 (by omega)⟩
theorem new_two {w : World} {B b : Nat} (hB : B ≤ w.heap.size) (hb : b = w.heap.size) : Own (w.alloc (.cells #[.int .i64 0, .int .i64 0] 36)) B 36 (some ⟨b, 0, none⟩) 2 2 (i64s [0, 0]) := by
  subst hb
  exact Own.fresh hB (i64s [0, 0]) rfl (by omega) (i64s_one _)
theorem Keeps.late {w w6 w7 : World} (h : Keeps w w6) {b : Nat} (hG : w6.grownBy w7 (some b)) (hb : w.heap.size ≤ b) : Keeps w w7 := fun h1 h2 hO => by
  have hT : Turned [b] w6 w7 := Turned.grown hG
  refine hT.own (h h1 h2 hO) (fun a ha => ?_)
  subst ha
  have := hO.lt
  simp
  omega
theorem Mid.grown {w0 w w' : World} {B g : Nat} {p : Pl} {B2 g2 : Nat} {q : Ql} {G N M : Nat} {tn dn tb db tn' dn' tb' db' : List (List Nat)} (h : Mid w0 w B g p B2 g2 q G N M tn dn tb db tn' dn' tb' db') {e b B' n c : Nat} {vs : List Value} (hO : Own w B' e (some ⟨b, 0, none⟩) n c vs)
    (h1 : e ≠ 64) (h2 : e ≠ 43) (h3 : e ≠ 5) (h4 : e ≠ 77) (h5 : e ≠ 4) (hB : w0.heap.size ≤ b) (hG : w.grownBy w' (some b)) : Mid w0 w' B g p B2 g2 q G N M tn dn tb db tn' dn' tb' db' := by
  have hT : Turned [b] w w' := Turned.grown hG
  have ht : ∀ {f : Nat}, e ≠ f → ∀ x ∈ [b], ¬ Tag w x f := fun he x hx ht => by
    rw [List.mem_singleton] at hx; subst hx; exact he (hO.tag.uniq ht)
  exact { h with sp := h.sp.turn hT (ht h1) (ht h2) (ht h3), rf := h.rf.turn hT (ht h4) (ht h5), ex := h.ex.grown hG (fun k hk => by cases hk; exact hB) }
/-- What an act leaves. -/
def DoneAt (w0 w w' : World) (B g : Nat) (p : Pl) (B2 g2 : Nat) (q : Ql) (G N M : Nat) (e : Ending) : Prop :=
  ∃ (l0 l1 : Int) (t1 t2 t3 t4 : List (List Nat)), e = .returned (.tuple #[.agg (i64s [l0, l1]).toArray, .bool true]) ∧ -9223372036854775808 ≤ l0 ∧ Both w0 w' B g p B2 g2 q G N M t1 t2 t3 t4 ∧ Keeps w w'
theorem DoneAt.intro {w0 w w4 w6 w7 : World} {B g : Nat} {p : Pl} {B2 g2 : Nat} {q : Ql} {G N M : Nat} {t1 t2 t3 t4 : List (List Nat)} {l0 l1 : Int} {b B' : Nat} {old : List Value} (h0 : -9223372036854775808 ≤ l0) (h : Both w0 w6 B g p B2 g2 q G N M t1 t2 t3 t4)
    (hO : Own w6 B' 36 (some ⟨b, 0, none⟩) 2 2 old) (hG : w6.grownBy w7 (some b)) (hE : Ext w w4) (hk : Keeps w4 w6) (hb : w.heap.size ≤ b) (hw : w0.heap.size ≤ w.heap.size) :
    DoneAt w0 w w7 B g p B2 g2 q G N M (.returned (.tuple #[.agg (i64s [l0, l1]).toArray, .bool true])) :=
  ⟨l0, l1, t1, t2, t3, t4, rfl, h0, Mid.grown h hO (by decide) (by decide) (by decide) (by decide) (by decide) (by omega) hG, Keeps.late (Keeps.trans (Ext.keeps hE) hk) hG hb⟩
section
variable {w0 w : World} {B g : Nat} {p : Pl} {B2 g2 : Nat} {q : Ql} {G N M : Nat} {tn dn tb db : List (List Nat)}
/-- Where done stands behind its first test. -/
def DoAt (w0 w w3 : World) (B g : Nat) (p : Pl) (B2 g2 : Nat) (q : Ql) (G N M : Nat) (tn dn tb db : List (List Nat)) (d l0 l1 : Int) (l : Bool) (bx bl br : Nat) (s6 : Value) (wx : World) : Prop :=
  ∃ n m : Int, s6 = .pointer (some ⟨bx, 0, none⟩) ∧ -9223372036854775808 ≤ n ∧ Own wx w.heap.size 40 (some ⟨bx, 0, none⟩) 4 4 (actV d n m l) ∧ Own wx w.heap.size 36 (some ⟨bl, 0, none⟩) 2 2 (i64s [l0, l1]) ∧
    Own wx w.heap.size 36 (some ⟨br, 0, none⟩) 2 2 (i64s [0, 0]) ∧ Both w0 wx B g p B2 g2 q G N M tn dn tb db ∧ Ext w wx
set_option maxRecDepth 100000 in
set_option maxHeartbeats 8000000 in
theorem law16_done (h : Both w0 w B g p B2 g2 q G N M tn dn tb db) (d n m : Int) (l : Bool) (hn0 : -9223372036854775808 ≤ n) (l0 l1 : Int) (hl0 : -9223372036854775808 ≤ l0) :
    Calls Try.prog 14 #[.pointer (some ⟨g, 0, none⟩), .pointer (some ⟨g2, 0, none⟩), .agg (actV d n m l).toArray, .agg (i64s [l0, l1]).toArray] w fun e w' => DoneAt w0 w w' B g p B2 g2 q G N M e := by
  have hu := Try.underlying36
  go_enter Try.func14, Try.ntmps14
  go_upto_if 19 with (first
    | (with_reducible refine ag_box (o := ⟨some 6, _, _, _, _, _⟩) rfl 40 (.tmp 2) rfl _ 4 rfl rfl (by omega) (actV_one _ _ _ _) w.heap.size (Nat.le_refl _) ?_; intro w1 hX1 hE1 hz1)
    | (with_reducible refine ag_box (o := ⟨some 7, _, _, _, _, _⟩) rfl 36 (.tmp 3) rfl _ 2 rfl rfl (by omega) (i64s_one _) w.heap.size (by omega) ?_; intro w2 hL2 hE2 hz2; have c3 := ((Ext.refl w2).alloc (.cells #[.int .i64 0, .int .i64 0] 36)).cell (act_cells (hX1.ext hE2)).2.2.2))
  have hE3 := (Ext.refl w2).alloc (.cells #[.int .i64 0, .int .i64 0] 36)
  have hR3 := new_two (w := w2) (B := w.heap.size) (by omega) rfl
  have hX3 := (hX1.ext hE2).ext hE3
  have hL3 := hL2.ext hE3
  have hE03 := (hE1.trans hE2).trans hE3
  have h3 := h.ext hE03
  obtain ⟨w3, hw3⟩ : ∃ w3 : World, w2.alloc (.cells #[.int .i64 0, .int .i64 0] 36) = w3 := ⟨_, rfl⟩
  rw [hw3] at hE3 hR3 hX3 hL3 hE03 h3 c3
  rw [hw3]
  clear hw3 hE3 hX1 hL2
  go_cut [6] (fun s6 wx => DoAt w0 w w3 B g p B2 g2 q G N M tn dn tb db d l0 l1 l w.heap.size w1.heap.size w2.heap.size s6 wx)
  case first =>
    cases l
    · go_wp2_with fail
      go_meet
      exact ⟨n, m, rfl, hn0, hX3, hL3, hR3, h3, hE03⟩
    · obtain ⟨t0, t1⟩ := two_cells hL3
      obtain ⟨x0, x1, x2, x3⟩ := act_cells hX3
      have f1 := hX3.frozenAt 1
      have hY := hX3.store 1 (.int .i64 l0) rfl
      have hY2 := hY.store 2 (.int .i64 l1) rfl
      have y2 : (w3.setCell ⟨w.heap.size, 1, none⟩ (.int .i64 l0)).cell? ⟨w.heap.size, 2, none⟩ = some (.int .i64 m) := hY.cellAt 2 (by omega)
      have f2 := hY.frozenAt 2
      have hne : w1.heap.size ∉ [w.heap.size] := by simp; omega
      have u0 := (Turned.setCell w3 w.heap.size 1 (.int .i64 l0)).cell t0 hne
      have u1 := (Turned.setCell w3 w.heap.size 1 (.int .i64 l0)).cell t1 hne
      have v0 := (Turned.setCell (w3.setCell ⟨w.heap.size, 1, none⟩ (.int .i64 l0)) w.heap.size 2 (.int .i64 l1)).cell u0 hne
      have v1 := (Turned.setCell (w3.setCell ⟨w.heap.size, 1, none⟩ (.int .i64 l0)) w.heap.size 2 (.int .i64 l1)).cell u1 hne
      have hL5 : Own ((w3.setCell ⟨w.heap.size, 1, none⟩ (.int .i64 l0)).setCell ⟨w.heap.size, 2, none⟩ (.int .i64 l1)) w.heap.size 36 (some ⟨w1.heap.size, 0, none⟩) 2 2 (i64s [l0, l1]) := (hL3.other (by omega) 1 _).other (by omega) 2 _
      have hR5 : Own ((w3.setCell ⟨w.heap.size, 1, none⟩ (.int .i64 l0)).setCell ⟨w.heap.size, 2, none⟩ (.int .i64 l1)) w.heap.size 36 (some ⟨w2.heap.size, 0, none⟩) 2 2 (i64s [0, 0]) := (hR3.other (by omega) 1 _).other (by omega) 2 _
      have h5 := Mid.grown (Mid.grown h3 hX3 (by decide) (by decide) (by decide) (by decide) (by decide) (by have := h.ex.size; omega) (grown_setCell w3 w.heap.size 1 (.int .i64 l0))) hY (by decide) (by decide) (by decide) (by decide) (by decide) (by have := h.ex.size; omega) (grown_setCell _ w.heap.size 2 (.int .i64 l1))
      have hE5 : Ext w ((w3.setCell ⟨w.heap.size, 1, none⟩ (.int .i64 l0)).setCell ⟨w.heap.size, 2, none⟩ (.int .i64 l1)) := (hE03.setCell (p := ⟨w.heap.size, 1, none⟩) (Nat.le_refl _) _).setCell (p := ⟨w.heap.size, 2, none⟩) (Nat.le_refl _) _
      go_wp2_with fail
      go_region_held3 (fun w' => w'.cell? ⟨w1.heap.size, 0, none⟩ = some (.int .i64 l0) ∧ w'.cell? ⟨w1.heap.size, 1, none⟩ = some (.int .i64 l1))
        (first | (exact ⟨t0, t1⟩) | (exact ⟨u0, u1⟩) | (exact ⟨v0, v1⟩)) (fail)
      go_wp2_with fail
      go_meet
      have hdr := (Ext.refl ((w3.setCell ⟨w.heap.size, 1, none⟩ (.int .i64 l0)).setCell ⟨w.heap.size, 2, none⟩ (.int .i64 l1))).drew
      exact ⟨l0, l1, rfl, hl0, hY2.ext hdr, hL5.ext hdr, hR5.ext hdr, h5.ext hdr, hE5.trans hdr⟩
  case rest =>
    obtain ⟨n', m', rfl, hn1, hX, hL, hR, hB4, hE4⟩ := hcut
    have hs0 := h.ex.size
    have hb1 : w.heap.size ≤ w1.heap.size := hL.base
    have hs2 : w.heap.size ≤ w2.heap.size := hR.base
    have hb12 : w1.heap.size ≤ w2.heap.size := hE2.size
    have n12 : w1.heap.size ≠ w2.heap.size := by omega
    have n1 : w.heap.size ≠ w2.heap.size := by omega
    clear hX3 hL3 hR3 h3 hE03 hz1 hz2 hE1 hE2 c3
    have a1 : 43 ≠ 40 := by decide
    have a2 : 4 ≠ 40 := by decide
    have b1 : 43 ≠ 36 := by decide
    have b2 : 4 ≠ 36 := by decide
    clear h
    obtain ⟨x0, x1, x2, x3⟩ := act_cells hX
    by_cases d0 : d = 0
    · subst d0
      obtain ⟨a, er, t', ha, hJ1, hJ2⟩ := joint_Inode hB4 n'
      go_wp2_with (first
        | (go_at_call 27; refine hJ1.mono ?_; rintro e w5 ⟨rfl, hM5, hk5⟩; have hX5 := hk5 a1 a2 hX; have z1 := (act_cells hX5).2.1)
        | (go_at_call 43; refine (hJ2 _ hM5).mono ?_; rintro e w6 ⟨rfl, hB6, hk6⟩; have hR6 := hk6 b1 b2 (hk5 b1 b2 hR))
        | (with_reducible refine ag_store (o := ⟨none, _, _, _, _, _⟩) rfl 36 (.tmp 8) (.tmp 45) rfl w2.heap.size 2 w.heap.size 36 _ (i64s [a, 0]) rfl rfl hR6 rfl (i64s_one _) info_two ?_; intro w7 hR7 hG7))
      exact bodyPost_ret (results_agg rfl _ rfl rfl hR7 agg_two info_two) rfl (DoneAt.intro ha hB6 hR6 hG7 hE4 (Keeps.trans hk5 hk6) hs2 hs0)
    by_cases d1 : d = 1
    · subst d1
      obtain ⟨a, er, t', ha, hJ1, hJ2⟩ := joint_Block hB4 n'
      go_wp2_with (first
        | (go_at_call 25; refine hJ1.mono ?_; rintro e w5 ⟨rfl, hM5, hk5⟩; have hX5 := hk5 a1 a2 hX; have z1 := (act_cells hX5).2.1)
        | (go_at_call 43; refine (hJ2 _ hM5).mono ?_; rintro e w6 ⟨rfl, hB6, hk6⟩; have hR6 := hk6 b1 b2 (hk5 b1 b2 hR))
        | (with_reducible refine ag_store (o := ⟨none, _, _, _, _, _⟩) rfl 36 (.tmp 8) (.tmp 71) rfl w2.heap.size 2 w.heap.size 36 _ (i64s [0, a]) rfl rfl hR6 rfl (i64s_one _) info_two ?_; intro w7 hR7 hG7))
      exact bodyPost_ret (results_agg rfl _ rfl rfl hR7 agg_two info_two) rfl (DoneAt.intro (by omega) hB6 hR6 hG7 hE4 (Keeps.trans hk5 hk6) hs2 hs0)
    have hD := hB4.ext ((Ext.refl wc).drew)
    by_cases d2 : d = 2
    · subst d2
      obtain ⟨er, t', u', hJ1, hJ2⟩ := joint_Mark hD n' m' hn1
      go_wp2_with fail
      refine wp_region_held_drew (S := (fun w' => w'.rangeAt w1.heap.size 0 (i64s [l0, l1]) ∧ w'.cell? ⟨w.heap.size, 1, none⟩ = some (.int .i64 n') ∧ w'.cell? ⟨w.heap.size, 2, none⟩ = some (.int .i64 m'))) (by kernel_rfl) ⟨(hL).range, (act_cells (hX)).2.1, (act_cells (hX)).2.2.1⟩ (fun hHeld => ?_)
      refine held_load 0 rfl (by kernel_rfl) (by kernel_rfl) (by kernel_rfl) (fun _ _ _ _ h => h) (by rfl) 36 (.tmp 7) rfl w1.heap.size (i64s [l0, l1]) _ rfl (fun wx hSx => hSx.1) hu rfl info_two (by assumption) ?_
      (try simp only [Act.put, List.setIfInBounds_toArray, List.set_cons_zero, List.set_cons_succ])
      refine held_take 1 rfl (by kernel_rfl) (by kernel_rfl) (by kernel_rfl) (fun _ _ _ _ h => h) (by rfl) ?_ ?_ (by assumption) ?_
      rotate_left
      · (intro wx hSx; (try dsimp only at hSx); go_simp)
        all_goals with_reducible rfl
      (try simp only [Act.put, List.setIfInBounds_toArray, List.set_cons_zero, List.set_cons_succ])
      refine held_take 2 rfl (by kernel_rfl) (by kernel_rfl) (by kernel_rfl) (fun _ _ _ _ h => h) (by rfl) ?_ ?_ (by assumption) ?_
      rotate_left
      · (intro wx hSx; (try dsimp only at hSx); go_simp)
        all_goals with_reducible rfl
      (try simp only [Act.put, List.setIfInBounds_toArray, List.set_cons_zero, List.set_cons_succ])
      refine held_take 3 rfl (by kernel_rfl) (by kernel_rfl) (by kernel_rfl) (fun _ _ _ _ h => h) (by rfl) ?_ ?_ (by assumption) ?_
      rotate_left
      · (intro wx hSx; (try dsimp only at hSx); go_simp)
        all_goals with_reducible rfl
      (try simp only [Act.put, List.setIfInBounds_toArray, List.set_cons_zero, List.set_cons_succ])
      refine held_take 4 rfl (by kernel_rfl) (by kernel_rfl) (by kernel_rfl) (fun _ _ _ _ h => h) (by rfl) ?_ ?_ (by assumption) ?_
      rotate_left
      · (intro wx hSx; (try dsimp only at hSx); go_simp)
        all_goals with_reducible rfl
      (try simp only [Act.put, List.setIfInBounds_toArray, List.set_cons_zero, List.set_cons_succ])
      refine held_take 5 rfl (by kernel_rfl) (by kernel_rfl) (by kernel_rfl) (fun _ _ _ _ h => h) (by rfl) ?_ ?_ (by assumption) ?_
      rotate_left
      · (intro wx hSx; (try dsimp only at hSx); go_simp)
        all_goals with_reducible rfl
      (try simp only [Act.put, List.setIfInBounds_toArray, List.set_cons_zero, List.set_cons_succ])
      refine held_take 7 rfl (by kernel_rfl) (by kernel_rfl) (by kernel_rfl) (fun _ _ _ _ h => h) (by rfl) ?_ ?_ (by assumption) ?_
      rotate_left
      · (intro wx hSx; (try dsimp only at hSx); go_simp)
        all_goals with_reducible rfl
      (try simp only [Act.put, List.setIfInBounds_toArray, List.set_cons_zero, List.set_cons_succ])
      refine held_take 8 rfl (by kernel_rfl) (by kernel_rfl) (by kernel_rfl) (fun _ _ _ _ h => h) (by rfl) ?_ ?_ (by assumption) ?_
      rotate_left
      · (intro wx hSx; (try dsimp only at hSx); go_simp)
        all_goals with_reducible rfl
      (try simp only [Act.put, List.setIfInBounds_toArray, List.set_cons_zero, List.set_cons_succ])
      refine held_take 9 rfl (by kernel_rfl) (by kernel_rfl) (by kernel_rfl) (fun _ _ _ _ h => h) (by rfl) ?_ ?_ (by assumption) ?_
      rotate_left
      · (intro wx hSx; (try dsimp only at hSx); go_simp)
        all_goals with_reducible rfl
      (try simp only [Act.put, List.setIfInBounds_toArray, List.set_cons_zero, List.set_cons_succ])
      refine held_take 10 rfl (by kernel_rfl) (by kernel_rfl) (by kernel_rfl) (fun _ _ _ _ h => h) (by rfl) ?_ ?_ (by assumption) ?_
      rotate_left
      · (intro wx hSx; (try dsimp only at hSx); go_simp)
        all_goals with_reducible rfl
      (try simp only [Act.put, List.setIfInBounds_toArray, List.set_cons_zero, List.set_cons_succ])
      refine held_take 11 rfl (by kernel_rfl) (by kernel_rfl) (by kernel_rfl) (fun _ _ _ _ h => h) (by rfl) ?_ ?_ (by assumption) ?_
      rotate_left
      · (intro wx hSx; (try dsimp only at hSx); go_simp)
        all_goals with_reducible rfl
      (try simp only [Act.put, List.setIfInBounds_toArray, List.set_cons_zero, List.set_cons_succ])
      refine held_call 6 rfl (by kernel_rfl) (fun K hK => ?_)
      go_simp
      go_at_call 9
      refine hJ1.mono ?_
      rintro e w5 ⟨rfl, hM5, hk5⟩
      go_wp2_with fail
      have hX5 := hk5 a1 a2 hX
      have hL5 := hk5 b1 b2 hL
      have hR5 := hk5 b1 b2 hR
      refine hK.out _ _ ⟨(hL5).range, (act_cells (hX5)).2.1, (act_cells (hX5)).2.2.1⟩ (fun hHeld => ?_)
      clear hK K
      (try simp only [Act.put, List.setIfInBounds_toArray, List.set_cons_zero, List.set_cons_succ])
      refine held_call 12 rfl (by kernel_rfl) (fun K hK => ?_)
      go_simp
      go_at_call 44
      refine (hJ2 _ hM5).mono ?_
      rintro e w6 ⟨rfl, hB6, hk6⟩
      go_wp2_with fail
      have hX6 := hk6 a1 a2 hX5
      have hL6 := hk6 b1 b2 hL5
      have hR6 := hk6 b1 b2 hR5
      refine hK.out _ _ ⟨(hL6).range, (act_cells (hX6)).2.1, (act_cells (hX6)).2.2.1⟩ (fun hHeld => ?_)
      clear hK K
      (try simp only [Act.put, List.setIfInBounds_toArray, List.set_cons_zero, List.set_cons_succ])
      refine held_take 13 rfl (by kernel_rfl) (by kernel_rfl) (by kernel_rfl) (fun _ _ _ _ h => h) (by rfl) ?_ ?_ (by assumption) ?_
      rotate_left
      · (intro wx hSx; (try dsimp only at hSx); go_simp)
        all_goals with_reducible rfl
      (try simp only [Act.put, List.setIfInBounds_toArray, List.set_cons_zero, List.set_cons_succ])
      refine held_call 14 rfl (by kernel_rfl) (fun K hK => ?_)
      refine step_storeAt rfl 36 (.tmp 8) (.tmp 82) rfl w2.heap.size 0 2 2 w.heap.size 36 (i64s [0, 0]) (i64s [l0, l1]) rfl rfl hR6 (by simp [i64s]) (i64s_one _) info_two ?_
      intro w7 hR7 hG7
      have hR7' : Own w7 w.heap.size 36 (some ⟨w2.heap.size, 0, none⟩) 2 2 (i64s [l0, l1]) := hR7
      have hL7 := hL6.kept hG7 (by simp; omega)
      have hX7 := hX6.kept hG7 (by simp; omega)
      refine hK.out _ _ ⟨(hL7).range, (act_cells (hX7)).2.1, (act_cells (hX7)).2.2.1⟩ (fun hHeld => ?_)
      clear hK K
      (try simp only [Act.put, List.setIfInBounds_toArray, List.set_cons_zero, List.set_cons_succ])
      refine held_call 15 rfl (by kernel_rfl) (fun K hK => ?_)
      go_simp
      refine hK.out _ _ ⟨(hL7).range, (act_cells (hX7)).2.1, (act_cells (hX7)).2.2.1⟩ (fun hHeld => ?_)
      clear hK K
      (try simp only [Act.put, List.setIfInBounds_toArray, List.set_cons_zero, List.set_cons_succ])
      refine wpAnyH_done (by kernel_rfl) ?_ _
      go_wp2_with fail
      exact bodyPost_ret (results_agg rfl _ rfl rfl hR7' agg_two info_two) rfl (DoneAt.intro hl0 hB6 hR6 hG7 (hE4.trans (Ext.refl wc).drew) (Keeps.trans hk5 hk6) hs2 hs0)
    by_cases d3 : d = 3
    · subst d3
      obtain ⟨er, t', u', hJ1, hJ2⟩ := joint_Defer hD n' m' hn1
      go_wp2_with fail
      refine wp_region_held_drew (S := (fun w' => w'.rangeAt w1.heap.size 0 (i64s [l0, l1]) ∧ w'.cell? ⟨w.heap.size, 1, none⟩ = some (.int .i64 n') ∧ w'.cell? ⟨w.heap.size, 2, none⟩ = some (.int .i64 m'))) (by kernel_rfl) ⟨(hL).range, (act_cells (hX)).2.1, (act_cells (hX)).2.2.1⟩ (fun hHeld => ?_)
      refine held_load 0 rfl (by kernel_rfl) (by kernel_rfl) (by kernel_rfl) (fun _ _ _ _ h => h) (by rfl) 36 (.tmp 7) rfl w1.heap.size (i64s [l0, l1]) _ rfl (fun wx hSx => hSx.1) hu rfl info_two (by assumption) ?_
      (try simp only [Act.put, List.setIfInBounds_toArray, List.set_cons_zero, List.set_cons_succ])
      refine held_take 1 rfl (by kernel_rfl) (by kernel_rfl) (by kernel_rfl) (fun _ _ _ _ h => h) (by rfl) ?_ ?_ (by assumption) ?_
      rotate_left
      · (intro wx hSx; (try dsimp only at hSx); go_simp)
        all_goals with_reducible rfl
      (try simp only [Act.put, List.setIfInBounds_toArray, List.set_cons_zero, List.set_cons_succ])
      refine held_take 2 rfl (by kernel_rfl) (by kernel_rfl) (by kernel_rfl) (fun _ _ _ _ h => h) (by rfl) ?_ ?_ (by assumption) ?_
      rotate_left
      · (intro wx hSx; (try dsimp only at hSx); go_simp)
        all_goals with_reducible rfl
      (try simp only [Act.put, List.setIfInBounds_toArray, List.set_cons_zero, List.set_cons_succ])
      refine held_take 3 rfl (by kernel_rfl) (by kernel_rfl) (by kernel_rfl) (fun _ _ _ _ h => h) (by rfl) ?_ ?_ (by assumption) ?_
      rotate_left
      · (intro wx hSx; (try dsimp only at hSx); go_simp)
        all_goals with_reducible rfl
      (try simp only [Act.put, List.setIfInBounds_toArray, List.set_cons_zero, List.set_cons_succ])
      refine held_take 4 rfl (by kernel_rfl) (by kernel_rfl) (by kernel_rfl) (fun _ _ _ _ h => h) (by rfl) ?_ ?_ (by assumption) ?_
      rotate_left
      · (intro wx hSx; (try dsimp only at hSx); go_simp)
        all_goals with_reducible rfl
      (try simp only [Act.put, List.setIfInBounds_toArray, List.set_cons_zero, List.set_cons_succ])
      refine held_take 5 rfl (by kernel_rfl) (by kernel_rfl) (by kernel_rfl) (fun _ _ _ _ h => h) (by rfl) ?_ ?_ (by assumption) ?_
      rotate_left
      · (intro wx hSx; (try dsimp only at hSx); go_simp)
        all_goals with_reducible rfl
      (try simp only [Act.put, List.setIfInBounds_toArray, List.set_cons_zero, List.set_cons_succ])
      refine held_take 7 rfl (by kernel_rfl) (by kernel_rfl) (by kernel_rfl) (fun _ _ _ _ h => h) (by rfl) ?_ ?_ (by assumption) ?_
      rotate_left
      · (intro wx hSx; (try dsimp only at hSx); go_simp)
        all_goals with_reducible rfl
      (try simp only [Act.put, List.setIfInBounds_toArray, List.set_cons_zero, List.set_cons_succ])
      refine held_take 8 rfl (by kernel_rfl) (by kernel_rfl) (by kernel_rfl) (fun _ _ _ _ h => h) (by rfl) ?_ ?_ (by assumption) ?_
      rotate_left
      · (intro wx hSx; (try dsimp only at hSx); go_simp)
        all_goals with_reducible rfl
      (try simp only [Act.put, List.setIfInBounds_toArray, List.set_cons_zero, List.set_cons_succ])
      refine held_take 9 rfl (by kernel_rfl) (by kernel_rfl) (by kernel_rfl) (fun _ _ _ _ h => h) (by rfl) ?_ ?_ (by assumption) ?_
      rotate_left
      · (intro wx hSx; (try dsimp only at hSx); go_simp)
        all_goals with_reducible rfl
      (try simp only [Act.put, List.setIfInBounds_toArray, List.set_cons_zero, List.set_cons_succ])
      refine held_take 10 rfl (by kernel_rfl) (by kernel_rfl) (by kernel_rfl) (fun _ _ _ _ h => h) (by rfl) ?_ ?_ (by assumption) ?_
      rotate_left
      · (intro wx hSx; (try dsimp only at hSx); go_simp)
        all_goals with_reducible rfl
      (try simp only [Act.put, List.setIfInBounds_toArray, List.set_cons_zero, List.set_cons_succ])
      refine held_take 11 rfl (by kernel_rfl) (by kernel_rfl) (by kernel_rfl) (fun _ _ _ _ h => h) (by rfl) ?_ ?_ (by assumption) ?_
      rotate_left
      · (intro wx hSx; (try dsimp only at hSx); go_simp)
        all_goals with_reducible rfl
      (try simp only [Act.put, List.setIfInBounds_toArray, List.set_cons_zero, List.set_cons_succ])
      refine held_call 6 rfl (by kernel_rfl) (fun K hK => ?_)
      go_simp
      go_at_call 28
      refine hJ1.mono ?_
      rintro e w5 ⟨rfl, hM5, hk5⟩
      go_wp2_with fail
      have hX5 := hk5 a1 a2 hX
      have hL5 := hk5 b1 b2 hL
      have hR5 := hk5 b1 b2 hR
      refine hK.out _ _ ⟨(hL5).range, (act_cells (hX5)).2.1, (act_cells (hX5)).2.2.1⟩ (fun hHeld => ?_)
      clear hK K
      (try simp only [Act.put, List.setIfInBounds_toArray, List.set_cons_zero, List.set_cons_succ])
      refine held_call 12 rfl (by kernel_rfl) (fun K hK => ?_)
      go_simp
      go_at_call 45
      refine (hJ2 _ hM5).mono ?_
      rintro e w6 ⟨rfl, hB6, hk6⟩
      go_wp2_with fail
      have hX6 := hk6 a1 a2 hX5
      have hL6 := hk6 b1 b2 hL5
      have hR6 := hk6 b1 b2 hR5
      refine hK.out _ _ ⟨(hL6).range, (act_cells (hX6)).2.1, (act_cells (hX6)).2.2.1⟩ (fun hHeld => ?_)
      clear hK K
      (try simp only [Act.put, List.setIfInBounds_toArray, List.set_cons_zero, List.set_cons_succ])
      refine held_take 13 rfl (by kernel_rfl) (by kernel_rfl) (by kernel_rfl) (fun _ _ _ _ h => h) (by rfl) ?_ ?_ (by assumption) ?_
      rotate_left
      · (intro wx hSx; (try dsimp only at hSx); go_simp)
        all_goals with_reducible rfl
      (try simp only [Act.put, List.setIfInBounds_toArray, List.set_cons_zero, List.set_cons_succ])
      refine held_call 14 rfl (by kernel_rfl) (fun K hK => ?_)
      refine step_storeAt rfl 36 (.tmp 8) (.tmp 98) rfl w2.heap.size 0 2 2 w.heap.size 36 (i64s [0, 0]) (i64s [l0, l1]) rfl rfl hR6 (by simp [i64s]) (i64s_one _) info_two ?_
      intro w7 hR7 hG7
      have hR7' : Own w7 w.heap.size 36 (some ⟨w2.heap.size, 0, none⟩) 2 2 (i64s [l0, l1]) := hR7
      have hL7 := hL6.kept hG7 (by simp; omega)
      have hX7 := hX6.kept hG7 (by simp; omega)
      refine hK.out _ _ ⟨(hL7).range, (act_cells (hX7)).2.1, (act_cells (hX7)).2.2.1⟩ (fun hHeld => ?_)
      clear hK K
      (try simp only [Act.put, List.setIfInBounds_toArray, List.set_cons_zero, List.set_cons_succ])
      refine held_call 15 rfl (by kernel_rfl) (fun K hK => ?_)
      go_simp
      refine hK.out _ _ ⟨(hL7).range, (act_cells (hX7)).2.1, (act_cells (hX7)).2.2.1⟩ (fun hHeld => ?_)
      clear hK K
      (try simp only [Act.put, List.setIfInBounds_toArray, List.set_cons_zero, List.set_cons_succ])
      refine wpAnyH_done (by kernel_rfl) ?_ _
      go_wp2_with fail
      exact bodyPost_ret (results_agg rfl _ rfl rfl hR7' agg_two info_two) rfl (DoneAt.intro hl0 hB6 hR6 hG7 (hE4.trans (Ext.refl wc).drew) (Keeps.trans hk5 hk6) hs2 hs0)
    by_cases d4 : d = 4
    · subst d4
      obtain ⟨er, t1, t2, t3, t4, hJ1, hJ2⟩ := joint_Firm hD
      go_wp2_with fail
      refine wp_region_held_drew (S := (fun w' => w'.rangeAt w1.heap.size 0 (i64s [l0, l1]))) (by kernel_rfl) (hL).range (fun hHeld => ?_)
      refine held_load 0 rfl (by kernel_rfl) (by kernel_rfl) (by kernel_rfl) (fun _ _ _ _ h => h) (by rfl) 36 (.tmp 7) rfl w1.heap.size (i64s [l0, l1]) _ rfl (fun wx hSx => hSx) hu rfl info_two (by assumption) ?_
      (try simp only [Act.put, List.setIfInBounds_toArray, List.set_cons_zero, List.set_cons_succ])
      refine held_take 1 rfl (by kernel_rfl) (by kernel_rfl) (by kernel_rfl) (fun _ _ _ _ h => h) (by rfl) ?_ ?_ (by assumption) ?_
      rotate_left
      · (intro wx hSx; (try dsimp only at hSx); go_simp)
        all_goals with_reducible rfl
      (try simp only [Act.put, List.setIfInBounds_toArray, List.set_cons_zero, List.set_cons_succ])
      refine held_take 3 rfl (by kernel_rfl) (by kernel_rfl) (by kernel_rfl) (fun _ _ _ _ h => h) (by rfl) ?_ ?_ (by assumption) ?_
      rotate_left
      · (intro wx hSx; (try dsimp only at hSx); go_simp)
        all_goals with_reducible rfl
      (try simp only [Act.put, List.setIfInBounds_toArray, List.set_cons_zero, List.set_cons_succ])
      refine held_call 2 rfl (by kernel_rfl) (fun K hK => ?_)
      go_simp
      go_at_call 29
      refine hJ1.mono ?_
      rintro e w5 ⟨rfl, hM5, hk5⟩
      go_wp2_with fail
      have hX5 := hk5 a1 a2 hX
      have hL5 := hk5 b1 b2 hL
      have hR5 := hk5 b1 b2 hR
      refine hK.out _ _ (hL5).range (fun hHeld => ?_)
      clear hK K
      (try simp only [Act.put, List.setIfInBounds_toArray, List.set_cons_zero, List.set_cons_succ])
      refine held_call 4 rfl (by kernel_rfl) (fun K hK => ?_)
      go_simp
      go_at_call 46
      refine (hJ2 _ hM5).mono ?_
      rintro e w6 ⟨rfl, hB6, hk6⟩
      go_wp2_with fail
      have hX6 := hk6 a1 a2 hX5
      have hL6 := hk6 b1 b2 hL5
      have hR6 := hk6 b1 b2 hR5
      refine hK.out _ _ (hL6).range (fun hHeld => ?_)
      clear hK K
      (try simp only [Act.put, List.setIfInBounds_toArray, List.set_cons_zero, List.set_cons_succ])
      refine held_take 5 rfl (by kernel_rfl) (by kernel_rfl) (by kernel_rfl) (fun _ _ _ _ h => h) (by rfl) ?_ ?_ (by assumption) ?_
      rotate_left
      · (intro wx hSx; (try dsimp only at hSx); go_simp)
        all_goals with_reducible rfl
      (try simp only [Act.put, List.setIfInBounds_toArray, List.set_cons_zero, List.set_cons_succ])
      refine held_call 6 rfl (by kernel_rfl) (fun K hK => ?_)
      refine step_storeAt rfl 36 (.tmp 8) (.tmp 114) rfl w2.heap.size 0 2 2 w.heap.size 36 (i64s [0, 0]) (i64s [l0, l1]) rfl rfl hR6 (by simp [i64s]) (i64s_one _) info_two ?_
      intro w7 hR7 hG7
      have hR7' : Own w7 w.heap.size 36 (some ⟨w2.heap.size, 0, none⟩) 2 2 (i64s [l0, l1]) := hR7
      have hL7 := hL6.kept hG7 (by simp; omega)
      have hX7 := hX6.kept hG7 (by simp; omega)
      refine hK.out _ _ (hL7).range (fun hHeld => ?_)
      clear hK K
      (try simp only [Act.put, List.setIfInBounds_toArray, List.set_cons_zero, List.set_cons_succ])
      refine held_call 7 rfl (by kernel_rfl) (fun K hK => ?_)
      go_simp
      refine hK.out _ _ (hL7).range (fun hHeld => ?_)
      clear hK K
      (try simp only [Act.put, List.setIfInBounds_toArray, List.set_cons_zero, List.set_cons_succ])
      refine wpAnyH_done (by kernel_rfl) ?_ _
      go_wp2_with fail
      exact bodyPost_ret (results_agg rfl _ rfl rfl hR7' agg_two info_two) rfl (DoneAt.intro hl0 hB6 hR6 hG7 (hE4.trans (Ext.refl wc).drew) (Keeps.trans hk5 hk6) hs2 hs0)
    have e0 : (d == 0) = false := by simpa using d0
    have e1 : (d == 1) = false := by simpa using d1
    have e2 : (d == 2) = false := by simpa using d2
    have e3 : (d == 3) = false := by simpa using d3
    have e4 : (d == 4) = false := by simpa using d4
    go_wp2_with (first
      | (with_reducible refine ag_load (o := ⟨some 120, _, _, _, _, _⟩) rfl 36 (.tmp 7) rfl w1.heap.size 2 w.heap.size 36 _ rfl hL agg_two info_two ?_)
      | (with_reducible refine ag_store (o := ⟨none, _, _, _, _, _⟩) rfl 36 (.tmp 8) (.tmp 120) rfl w2.heap.size 2 w.heap.size 36 _ (i64s [l0, l1]) rfl rfl hR rfl (i64s_one _) info_two ?_; intro w7 hR7 hG7))
    exact bodyPost_ret (results_agg rfl _ rfl rfl hR7 agg_two info_two) rfl (DoneAt.intro hl0 hB4 hR hG7 hE4 (Ext.keeps (Ext.refl wc)) hs2 hs0)
end
end Go.Proofs.Ytillhbbeghbfeaa
