/- Contracts of spaces: a new one. -/
import Derived.Test.YtillhbbeghbfeaaAlcE
namespace Go.Proofs.Ytillhbbeghbfeaa
set_option linter.unusedVariables false
open Go.RowKit

theorem zr_len (N : Nat) : (zr N).length = (N + 7) / 8 := by simp [zr]
theorem alloc_empty1 (G N : Nat) (hG0 : 1 ≤ G) (hG : G ≤ 1000) (hN : N ≤ 1000) (w : World) :
    Calls Try.prog 31 #[.int .i64 (G : Int), .int .i64 (N : Int)] w fun e w' => ∃ g1 c1 g2 c2, e = .returned (.agg (setV N (some ⟨g1, 0, none⟩) G c1 (some ⟨g2, 0, none⟩) c2).toArray) ∧
      RowsIs w' w.heap.size g1 c1 (List.replicate G (zr N)) ∧ RowsIs w' w.heap.size g2 c2 (List.replicate G (zr N)) ∧ g1 ≠ g2 ∧ Ext w w' := by
  refine (alloc_empty G N hG hN w).mono ?_
  rintro e w' ⟨A1, c1, A2, c2, rfl, h1, h2, hap, hE⟩
  have key : ∀ {A : Option Addr} {c : Nat}, RowsO w' w.heap.size A c (List.replicate G (zr N)) → ∃ g, A = some ⟨g, 0, none⟩ := by
    rintro A c ⟨vs, hO, _⟩
    have hnc := hO.sl.nc
    rw [List.length_replicate] at hnc
    obtain ⟨g, hg, _⟩ := hO.head (by omega)
    exact ⟨g, hg⟩
  obtain ⟨g1, rfl⟩ := key h1
  obtain ⟨g2, rfl⟩ := key h2
  exact ⟨g1, c1, g2, c2, rfl, h1, h2, hap _ _ rfl rfl, hE⟩
theorem RowsIs.lt {w : World} {B g c : Nat} {xss : List (List Nat)} (h : RowsIs w B g c xss) : g < w.heap.size := h.tag.lt
theorem bld_space (G N M : Int) (w : World) (g1 c1 g2 c2 g3 c3 g4 c4 k : Nat) (n m : Nat) :
    (Instr.build 64 #[(0, .agg (i64s (geo G N M)).toArray), (1, .agg (setV n (some ⟨g1, 0, none⟩) k c1 (some ⟨g2, 0, none⟩) c2).toArray), (2, .agg (setV m (some ⟨g3, 0, none⟩) k c3 (some ⟨g4, 0, none⟩) c4).toArray)]).run Try.prog w =
      .ok (.agg [.int .i64 G, .int .i64 N, .int .i64 M, .int .i64 (n : Int), .slice (some ⟨g1, 0, none⟩) k c1, .slice (some ⟨g2, 0, none⟩) k c2, .int .i64 (m : Int), .slice (some ⟨g3, 0, none⟩) k c3, .slice (some ⟨g4, 0, none⟩) k c4].toArray) w := by kernel_rfl
theorem spc_one (G N M : Nat) (p : Pl) : ∀ u ∈ spc G N M p, u.oneCell' = true := by simp [spc, Value.oneCell']
theorem alloc_New_no (G N M : Int) (hm : ¬ mayG G N M) (w : World) : Calls Try.prog 8 #[.agg (i64s (geo G N M)).toArray] w fun e w' => e = .returned (.pointer none) ∧ Ext w w' := by
  have hM := fun w => May G N M w
  rw [decide_eq_false hm] at hM
  clear hm
  go_enter Try.func8, Try.ntmps8
  go_wp2_with (first
    | (with_reducible refine ag_box (o := ⟨some 1, _, _, _, _, _⟩) rfl 24 _ rfl _ 3 rfl rfl (by omega) (i64s_one _) w.heap.size (Nat.le_refl _) ?_; intro w1 hB1 hE1 hz1)
    | (with_reducible refine ag_load (o := ⟨some 3, _, _, _, _, _⟩) rfl 24 (.tmp 1) rfl w.heap.size 3 w.heap.size 24 _ rfl hB1 agg_geo info_geo ?_)
    | (go_at_call 30; refine (hM _).mono ?_; rintro e w2 ⟨rfl, hE2⟩))
  go_ret
  exact ⟨rfl, hE1.trans hE2⟩
theorem Own.geoS {w : World} {B e g : Nat} {x y z : Int} (h : Own w B e (some ⟨g, 0, none⟩) 3 3 (i64s (Go.Proofs.Ytillhbbeghbfeaa.geo x y z))) :
    w.rangeAt g 0 (i64s (Go.Proofs.Ytillhbbeghbfeaa.geo x y z)) ∧ w.cell? ⟨g, 0, none⟩ = some (.int .i64 x) ∧ w.cell? ⟨g, 1, none⟩ = some (.int .i64 y) ∧ w.cell? ⟨g, 2, none⟩ = some (.int .i64 z) :=
  ⟨h.range, h.cellAt 0 (by omega), h.cellAt 1 (by omega), h.cellAt 2 (by omega)⟩
theorem Own.fresh {w : World} {B e n : Nat} (hB : B ≤ w.heap.size) (vs : List Value) (hn : vs.length = n) (hm : n ≤ 9223372036854775807) (h1 : ∀ u ∈ vs, u.oneCell' = true) : Own (w.alloc (.cells vs.toArray e)) B e (some ⟨w.heap.size, 0, none⟩) n n vs := by
  have := Own.made (w := w) (B := B) (e := e) (n := n) hB vs.toArray n (by simp only [maxLen]; omega) (Nat.le_refl _) (by simp [hn]) (by simpa [List.take_of_length_le, hn] using h1)
  simpa [List.take_of_length_le, hn] using this
theorem held_bld2 {P : Program} {oi : Oper} {f : Operand → Value} {t : TypeId} {parts : Array (Nat × Operand)} {v : Value} {w : World} (ho : oi.op = .build t parts) (h : (Instr.build t (parts.map fun (i, x) => (i, f x))).run P w = .ok v w) : (execOp f oi).run P w = .ok (.value v) w := by
  simp only [execOp, ho]
  rw [Sem.run_bind, h]
  rfl
set_option maxHeartbeats 2000000 in
theorem alloc_New (G N M : Nat) (hm : mayG (G : Int) (N : Int) (M : Int)) (w : World) : Calls Try.prog 8 #[.agg (i64s (geo (G : Int) (N : Int) (M : Int))).toArray] w fun e w' =>
    ∃ g p, e = .returned (.pointer (some ⟨g, 0, none⟩)) ∧ SpaceAt w' w.heap.size g p G N M (List.replicate G (zr N)) (List.replicate G (zr N)) (List.replicate G (zr M)) (List.replicate G (zr M)) ∧ Ext w w' := by
  have hmn := mayG_nat hm
  have hM := fun w => May (G : Int) (N : Int) (M : Int) w
  rw [decide_eq_true hm] at hM
  have HEN := hide (fun w => alloc_empty1 G N (by omega) (by omega) (by omega) w)
  have HEM := hide (fun w => alloc_empty1 G M (by omega) (by omega) (by omega) w)
  go_enter Try.func8, Try.ntmps8
  go_wp2_with (first
    | (with_reducible refine ag_box (o := ⟨some 1, _, _, _, _, _⟩) rfl 24 _ rfl _ 3 rfl rfl (by omega) (i64s_one _) w.heap.size (Nat.le_refl _) ?_; intro w1 hB1 hE1 hz1)
    | (with_reducible refine ag_load (o := ⟨some 3, _, _, _, _, _⟩) rfl 24 (.tmp 1) rfl w.heap.size 3 w.heap.size 24 _ rfl hB1 agg_geo info_geo ?_)
    | (go_at_call 30; refine (hM _).mono ?_; rintro e w2 ⟨rfl, hE2⟩))
  have hB2 := hB1.ext hE2
  have hc0 : w2.cell? ⟨w.heap.size, 0, none⟩ = some (.int .i64 (G : Int)) := hB2.cellAt 0 (by omega)
  have hc1 : w2.cell? ⟨w.heap.size, 1, none⟩ = some (.int .i64 (N : Int)) := hB2.cellAt 1 (by omega)
  have hc2 : w2.cell? ⟨w.heap.size, 2, none⟩ = some (.int .i64 (M : Int)) := hB2.cellAt 2 (by omega)
  have hS2 := hB2.geoS
  have hu := Try.underlying24
  clear hc0 hc1 hc2 hB1
  refine wp_region_held_drew (S := fun w' => w'.rangeAt w.heap.size 0 (i64s (geo (G : Int) (N : Int) (M : Int))) ∧ w'.cell? ⟨w.heap.size, 0, none⟩ = some (.int .i64 (G : Int)) ∧ w'.cell? ⟨w.heap.size, 1, none⟩ = some (.int .i64 (N : Int)) ∧ w'.cell? ⟨w.heap.size, 2, none⟩ = some (.int .i64 (M : Int))) (by kernel_rfl) hS2 (fun hHeld => ?_)
  refine held_load 0 rfl (by kernel_rfl) (by kernel_rfl) (by kernel_rfl) (fun _ _ _ _ h => h) (by rfl) 24 (.tmp 1) rfl w.heap.size (i64s (geo (G : Int) (N : Int) (M : Int))) _ rfl (fun wx hSx => hSx.1) hu rfl info_geo (by assumption) ?_
  (try simp only [Act.put, List.setIfInBounds_toArray, List.set_cons_zero, List.set_cons_succ])
  refine held_take 1 rfl (by kernel_rfl) (by kernel_rfl) (by kernel_rfl) (fun _ _ _ _ h => h) (by rfl) ?_ ?_ (by assumption) ?_
  rotate_left
  · (intro wx hSx; (try dsimp only at hSx); go_simp)
    all_goals with_reducible rfl
  (try simp only [Act.put, List.setIfInBounds_toArray, List.set_cons_zero, List.set_cons_succ])
  refine held_take 2 rfl (by kernel_rfl) (by kernel_rfl) (by kernel_rfl) (fun _ _ _ _ h => h) (by rfl) ?_ ?_ (by assumption) ?_
  rotate_left
  · (intro wx hSx; (try dsimp only at hSx); go_simp)
    all_goals with_reducible rfl
  (try simp only [Act.put, List.setIfInBounds_toArray, List.set_cons_zero, List.set_cons_succ])
  refine held_take 3 rfl (by kernel_rfl) (by kernel_rfl) (by kernel_rfl) (fun _ _ _ _ h => h) (by rfl) ?_ ?_ (by assumption) ?_
  rotate_left
  · (intro wx hSx; (try dsimp only at hSx); go_simp)
    all_goals with_reducible rfl
  (try simp only [Act.put, List.setIfInBounds_toArray, List.set_cons_zero, List.set_cons_succ])
  refine held_take 4 rfl (by kernel_rfl) (by kernel_rfl) (by kernel_rfl) (fun _ _ _ _ h => h) (by rfl) ?_ ?_ (by assumption) ?_
  rotate_left
  · (intro wx hSx; (try dsimp only at hSx); go_simp)
    all_goals with_reducible rfl
  (try simp only [Act.put, List.setIfInBounds_toArray, List.set_cons_zero, List.set_cons_succ])
  refine held_take 6 rfl (by kernel_rfl) (by kernel_rfl) (by kernel_rfl) (fun _ _ _ _ h => h) (by rfl) ?_ ?_ (by assumption) ?_
  rotate_left
  · (intro wx hSx; (try dsimp only at hSx); go_simp)
    all_goals with_reducible rfl
  (try simp only [Act.put, List.setIfInBounds_toArray, List.set_cons_zero, List.set_cons_succ])
  refine held_take 7 rfl (by kernel_rfl) (by kernel_rfl) (by kernel_rfl) (fun _ _ _ _ h => h) (by rfl) ?_ ?_ (by assumption) ?_
  rotate_left
  · (intro wx hSx; (try dsimp only at hSx); go_simp)
    all_goals with_reducible rfl
  (try simp only [Act.put, List.setIfInBounds_toArray, List.set_cons_zero, List.set_cons_succ])
  refine held_take 8 rfl (by kernel_rfl) (by kernel_rfl) (by kernel_rfl) (fun _ _ _ _ h => h) (by rfl) ?_ ?_ (by assumption) ?_
  rotate_left
  · (intro wx hSx; (try dsimp only at hSx); go_simp)
    all_goals with_reducible rfl
  (try simp only [Act.put, List.setIfInBounds_toArray, List.set_cons_zero, List.set_cons_succ])
  refine held_take 9 rfl (by kernel_rfl) (by kernel_rfl) (by kernel_rfl) (fun _ _ _ _ h => h) (by rfl) ?_ ?_ (by assumption) ?_
  rotate_left
  · (intro wx hSx; (try dsimp only at hSx); go_simp)
    all_goals with_reducible rfl
  (try simp only [Act.put, List.setIfInBounds_toArray, List.set_cons_zero, List.set_cons_succ])
  refine held_call 5 rfl (by kernel_rfl) (fun K hK => ?_)
  go_simp
  go_at_call 31
  with_reducible refine (HEN.out _).mono ?_
  rintro e w4 ⟨g1, c1, g2, c2, rfl, r1, r2, n12, hE4⟩
  go_wp2_with fail
  have hB4 := hB2.ext (((Ext.refl w2).drew).trans hE4)
  refine hK.out _ _ hB4.geoS (fun hHeld => ?_)
  clear hK K
  (try simp only [Act.put, List.setIfInBounds_toArray, List.set_cons_zero, List.set_cons_succ])
  refine held_call 10 rfl (by kernel_rfl) (fun K hK => ?_)
  go_simp
  go_at_call 31
  with_reducible refine (HEM.out _).mono ?_
  rintro e w5 ⟨g3, c3, g4, c4, rfl, r3, r4, n34, hE5⟩
  go_wp2_with fail
  have hB5 := hB4.ext hE5
  refine hK.out _ _ hB5.geoS (fun hHeld => ?_)
  clear hK K
  (try simp only [Act.put, List.setIfInBounds_toArray, List.set_cons_zero, List.set_cons_succ])
  refine held_take 11 rfl (by kernel_rfl) (by kernel_rfl) (by kernel_rfl) (fun _ _ _ _ h => h) (by rfl) _ (fun wx _ => held_bld2 rfl (by simp only [List.map_toArray, List.map_cons, List.map_nil]; exact bld_space (G : Int) (N : Int) (M : Int) wx g1 c1 g2 c2 g3 c3 g4 c4 G N M)) (by assumption) ?_
  (try simp only [Act.put, List.setIfInBounds_toArray, List.set_cons_zero, List.set_cons_succ])
  refine held_call 12 rfl (by kernel_rfl) (fun K hK => ?_)
  go_simp
  have hB6 := hB5.ext ((Ext.refl w5).alloc (.cells (spc G N M ⟨g1, c1, g2, c2, g3, c3, g4, c4⟩).toArray 64))
  refine hK.out _ _ hB6.geoS (fun hHeld => ?_)
  clear hK K
  (try simp only [Act.put, List.setIfInBounds_toArray, List.set_cons_zero, List.set_cons_succ])
  refine held_call 13 rfl (by kernel_rfl) (fun K hK => ?_)
  go_simp
  refine hK.out _ _ hB6.geoS (fun hHeld => ?_)
  clear hK K
  (try simp only [Act.put, List.setIfInBounds_toArray, List.set_cons_zero, List.set_cons_succ])
  refine wpAnyH_done (by kernel_rfl) ?_ _
  go_wp2_with fail
  go_ret
  have l1 := r1.lt
  have l2 := r2.lt
  have b3 := r3.base
  have b4 := r4.base
  have hs4 := ((Ext.refl w2).drew).trans hE4 |>.size
  have hE6 : Ext w5 (w5.alloc (.cells (spc G N M ⟨g1, c1, g2, c2, g3, c3, g4, c4⟩).toArray 64)) := (Ext.refl w5).alloc _
  have hE : Ext w w5 := (hE1.trans hE2).trans ((((Ext.refl w2).drew).trans hE4).trans hE5)
  have hsz2 := (hE1.trans hE2).size
  have hsz := hE.size
  have q2 : w2.drew.heap.size = w2.heap.size := rfl
  exact ⟨w5.heap.size, ⟨g1, c1, g2, c2, g3, c3, g4, c4⟩, rfl,
    ⟨Own.fresh hsz (spc G N M ⟨g1, c1, g2, c2, g3, c3, g4, c4⟩) rfl (by omega) (spc_one _ _ _ _), ((r1.ext hE5).ext hE6).low (by omega), ((r2.ext hE5).ext hE6).low (by omega), (r3.ext hE6).low (by omega), (r4.ext hE6).low (by omega),
      n12, (by show g1 ≠ g3; omega), (by show g1 ≠ g4; omega), (by show g2 ≠ g3; omega), (by show g2 ≠ g4; omega), n34, by simp, by simp, by simp, by simp,
      (fun xs hx => by rw [List.eq_of_mem_replicate hx, zr_len]), (fun xs hx => by rw [List.eq_of_mem_replicate hx, zr_len]), (fun xs hx => by rw [List.eq_of_mem_replicate hx, zr_len]), (fun xs hx => by rw [List.eq_of_mem_replicate hx, zr_len]), hm⟩,
    hE.trans hE6⟩
end Go.Proofs.Ytillhbbeghbfeaa
