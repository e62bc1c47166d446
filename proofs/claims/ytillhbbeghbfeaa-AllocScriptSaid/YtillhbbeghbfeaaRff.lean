/- The document's space: a new one; Bits. -/
import Derived.Test.YtillhbbeghbfeaaRfe
import Derived.Test.YtillhbbeghbfeaaLawG5
namespace Go.Proofs.Ytillhbbeghbfeaa
set_option linter.unusedVariables false
open Go.RowKit

theorem own_made_at {w : World} {B g c : Nat} (hB : B ≤ g) (hh : w.heap[g]? = some (.cells (madeCells #[.bool false] c) 4 (0, 0))) (hc : c ≤ 9223372036854775807) : Own w B 4 (some ⟨g, 0, none⟩) c c (bl (List.replicate c false)) := by
  have e : (madeCells #[.bool false] c).toList = bl (List.replicate c false) := by rw [toList_madeCells_one]; simp [bl]
  refine ⟨⟨by simp [bl], .inr ⟨g, c, _, rfl, hB, hh, Nat.le_refl _, by simp only [maxLen]; omega, by simp [size_madeCells], ?_⟩⟩, bl_one _⟩
  rw [e, List.take_of_length_le (by simp [bl])]
theorem bld_rspc (G N M : Int) (w : World) (g1 g2 g3 g4 n m : Nat) :
    (Instr.build 77 #[(0, .agg #[.int .i64 G, .int .i64 N, .int .i64 M]), (1, .slice (some ⟨g1, 0, none⟩) n n), (3, .slice (some ⟨g3, 0, none⟩) n n), (2, .slice (some ⟨g2, 0, none⟩) m m), (4, .slice (some ⟨g4, 0, none⟩) m m)]).run Try.prog w =
      .ok (.agg [.int .i64 G, .int .i64 N, .int .i64 M, .slice (some ⟨g1, 0, none⟩) n n, .slice (some ⟨g2, 0, none⟩) m m, .slice (some ⟨g3, 0, none⟩) n n, .slice (some ⟨g4, 0, none⟩) m m].toArray) w := by kernel_rfl
theorem ref_New_no (G N M : Int) (hm : ¬ mayG G N M) (w : World) : Calls Try.prog 13 #[.agg (i64s (geo G N M)).toArray] w fun e w' => e = .returned (.pointer none) ∧ Ext w w' := by
  have hM := fun w => refMay G N M w
  rw [decide_eq_false hm] at hM
  clear hm
  go_enter Try.func13, Try.ntmps13
  go_wp2_with (first
    | (with_reducible refine ag_box (o := ⟨some 1, _, _, _, _, _⟩) rfl 24 _ rfl _ 3 rfl rfl (by omega) (i64s_one _) w.heap.size (Nat.le_refl _) ?_; intro w1 hB1 hE1 hz1)
    | (with_reducible refine ag_load (o := ⟨some 5, _, _, _, _, _⟩) rfl 24 (.tmp 1) rfl w.heap.size 3 w.heap.size 24 _ rfl hB1 agg_geo info_geo ?_)
    | (go_at_call 40; refine (hM _).mono ?_; rintro e w2 ⟨rfl, hE2⟩))
  go_ret
  exact ⟨rfl, hE1.trans hE2⟩
/-- Four rows of bools lie behind one another, in some order. -/
def Rows4 (w : World) (GN GM : Nat) (s15 s17 s19 s21 : Value) (wx : World) : Prop :=
  ∃ b1 b2 b3 b4, s15 = .slice (some ⟨b1, 0, none⟩) GN GN ∧ s17 = .slice (some ⟨b3, 0, none⟩) GN GN ∧ s19 = .slice (some ⟨b2, 0, none⟩) GM GM ∧ s21 = .slice (some ⟨b4, 0, none⟩) GM GM ∧
    Own wx w.heap.size 4 (some ⟨b1, 0, none⟩) GN GN (bl (List.replicate GN false)) ∧ Own wx w.heap.size 4 (some ⟨b2, 0, none⟩) GM GM (bl (List.replicate GM false)) ∧
    Own wx w.heap.size 4 (some ⟨b3, 0, none⟩) GN GN (bl (List.replicate GN false)) ∧ Own wx w.heap.size 4 (some ⟨b4, 0, none⟩) GM GM (bl (List.replicate GM false)) ∧
    b1 ≠ b2 ∧ b1 ≠ b3 ∧ b1 ≠ b4 ∧ b2 ≠ b3 ∧ b2 ≠ b4 ∧ b3 ≠ b4 ∧ Ext w wx
theorem at_drew {w : World} {b : Nat} {x : Option Obj} (h : w.heap[b]? = x) : w.drew.heap[b]? = x := h
theorem at_new (w : World) (o : Obj) (g : Nat) (hg : g = w.heap.size) : (w.alloc o).heap[g]? = some o := by
  subst hg
  exact heap_alloc_new w o
theorem at_old {w : World} {o : Obj} {b : Nat} {x : Obj} (h : w.heap[b]? = some x) : (w.alloc o).heap[b]? = some x := by
  have hb := (Array.getElem?_eq_some_iff.1 h).1
  rw [((Ext.refl w).alloc o).block b hb]
  exact h
theorem refnew_close {w W : World} {g G N M T GM b1 b2 b3 b4 : Nat} (hm : mayG (G : Int) (N : Int) (M : Int)) (hT : G * N = T) (hGM : 2 + G * (1 + N / 4 + M) = GM) (h1 : T ≤ 256) (h2 : GM ≤ 842)
    (hs : W.heap[g]? = some (.cells #[.int .i64 (G : Int), .int .i64 (N : Int), .int .i64 (M : Int), .slice (some ⟨b1, 0, none⟩) (T + 1) (T + 1), .slice (some ⟨b2, 0, none⟩) GM GM, .slice (some ⟨b3, 0, none⟩) (T + 1) (T + 1), .slice (some ⟨b4, 0, none⟩) GM GM] 77 (0, 0)))
    (r1 : W.heap[b1]? = some (.cells (madeCells #[.bool false] (T + 1)) 4 (0, 0))) (r2 : W.heap[b2]? = some (.cells (madeCells #[.bool false] GM) 4 (0, 0)))
    (r3 : W.heap[b3]? = some (.cells (madeCells #[.bool false] (T + 1)) 4 (0, 0))) (r4 : W.heap[b4]? = some (.cells (madeCells #[.bool false] GM) 4 (0, 0)))
    (hb : w.heap.size ≤ g ∧ w.heap.size ≤ b1 ∧ w.heap.size ≤ b2 ∧ w.heap.size ≤ b3 ∧ w.heap.size ≤ b4) (hn : b1 ≠ b2 ∧ b1 ≠ b3 ∧ b1 ≠ b4 ∧ b2 ≠ b3 ∧ b2 ≠ b4 ∧ b3 ≠ b4) (hE : Ext w W) :
    RefAt W w.heap.size g ⟨b1, T + 1, b2, GM, b3, T + 1, b4, GM⟩ G N M (List.replicate (G * N + 1) false) (List.replicate (2 + G * (1 + N / 4 + M)) false) (List.replicate (G * N + 1) false) (List.replicate (2 + G * (1 + N / 4 + M)) false) ∧ Ext w W := by
  obtain ⟨p0, p1, p2, p3, p4⟩ := hb
  obtain ⟨n12, n13, n14, n23, n24, n34⟩ := hn
  subst hT hGM
  refine ⟨⟨?_, own_made_at p1 r1 (by omega), own_made_at p2 r2 (by omega), own_made_at p3 r3 (by omega), own_made_at p4 r4 (by omega), n12, n13, n14, n23, n24, n34, hm⟩, hE⟩
  refine ⟨⟨rfl, .inr ⟨g, 7, _, rfl, p0, hs, Nat.le_refl _, by simp only [maxLen]; omega, rfl, rfl⟩⟩, ?_⟩
  simp [rspc, Value.oneCell']
set_option maxRecDepth 100000 in
set_option maxHeartbeats 8000000 in
theorem ref_New (G N M : Nat) (hm : mayG (G : Int) (N : Int) (M : Int)) (w : World) : Calls Try.prog 13 #[.agg (i64s (geo (G : Int) (N : Int) (M : Int))).toArray] w fun e w' =>
    ∃ g q, e = .returned (.pointer (some ⟨g, 0, none⟩)) ∧ RefAt w' w.heap.size g q G N M (List.replicate (G * N + 1) false) (List.replicate (2 + G * (1 + N / 4 + M)) false) (List.replicate (G * N + 1) false) (List.replicate (2 + G * (1 + N / 4 + M)) false) ∧ Ext w w' := by
  have hmn := mayG_nat hm
  obtain ⟨s1, s2⟩ := sec_small hm
  have hM := fun w => refMay (G : Int) (N : Int) (M : Int) w
  rw [decide_eq_true hm] at hM
  have hI := fun w => (show Calls Try.prog 41 #[.agg #[.int .i64 (G : Int), .int .i64 (N : Int), .int .i64 (M : Int)]] w fun e w' => e = .returned (.int .i64 (inosG (G : Int) N M)) ∧ Ext w w' from ref5_Inodes (G : Int) N M w)
  have hS := fun w => (show Calls Try.prog 42 #[.agg #[.int .i64 (G : Int), .int .i64 (N : Int), .int .i64 (M : Int)]] w fun e w' => e = .returned (.int .i64 (secG (G : Int) N M)) ∧ Ext w w' from ref5_Sectors (G : Int) N M w)
  rw [inosG_yes hm, show (G : Int) * (N : Int) = ((G * N : Nat) : Int) from by rw [Int.natCast_mul]] at hI
  rw [sec_posB hm] at hS
  have HM := hide hm
  obtain ⟨T, hT⟩ : ∃ T, G * N = T := ⟨_, rfl⟩
  obtain ⟨GM, hGM⟩ : ∃ GM, 2 + G * (1 + N / 4 + M) = GM := ⟨_, rfl⟩
  have hTb : T ≤ 256 := by omega
  have hGb : GM ≤ 842 := by omega
  rw [hT] at hI
  rw [hGM] at hS
  have HT := hide (And.intro hT hGM)
  clear hT hGM s1 s2 hm
  have hM1 := fun w => mkB .i64 .i64 ((T : Int) + 1) ((T : Int) + 1) (T + 1) (T + 1) (by omega) (by omega) (by omega) (by omega) w
  have hM2 := fun w => mkB .i64 .i64 (GM : Int) (GM : Int) GM GM (by omega) (by omega) (by omega) (by omega) w
  have hW := wrapI ((T : Int) + 1) (by omega)
  go_enter Try.func13, Try.ntmps13
  go_wp2_with (first
    | (with_reducible refine ag_box (o := ⟨some 1, _, _, _, _, _⟩) rfl 24 _ rfl _ 3 rfl rfl (by omega) (i64s_one _) w.heap.size (Nat.le_refl _) ?_; intro w1 hB1 hE1 hz1)
    | (with_reducible refine ag_load (o := ⟨some 5, _, _, _, _, _⟩) rfl 24 (.tmp 1) rfl w.heap.size 3 w.heap.size 24 _ rfl hB1 agg_geo info_geo ?_)
    | (go_at_call 40; refine (hM _).mono ?_; rintro e w2 ⟨rfl, hE2⟩))
  have hB2 := hB1.ext hE2
  obtain ⟨c0, c1, c2⟩ := Own.geo hB2
  go_region_held3 (fun w' => w'.cell? ⟨w.heap.size, 0, none⟩ = some (.int .i64 (G : Int)) ∧ w'.cell? ⟨w.heap.size, 1, none⟩ = some (.int .i64 (N : Int)) ∧ w'.cell? ⟨w.heap.size, 2, none⟩ = some (.int .i64 (M : Int)))
    (go_keep)
    (first
      | (go_at_call 41; refine (hI _).mono ?_; rintro e w4 ⟨rfl, hE4⟩; have hX4 : Ext w2 w4 := ((Ext.refl w2).drew).trans hE4; have d0 := hX4.cell c0; have d1 := hX4.cell c1; have d2 := hX4.cell c2)
      | (go_at_call 42; refine (hS _).mono ?_; rintro e w5 ⟨rfl, hE5⟩; have hX5 : Ext w4 w5 := hE5; have e0 := hX5.cell d0; have e1 := hX5.cell d1; have e2 := hX5.cell d2))
  go_wp2_with fail
  have hBB := fun w g1 g2 g3 g4 => bld_rspc (G : Int) (N : Int) (M : Int) w g1 g2 g3 g4 (T + 1) GM
  have hX5' : Ext w w5 := (hE1.trans hE2).trans (hX4.trans hX5)
  have hsz5 := hX5'.size
  clear hI hS hM hB1 hB2 hE1 hE2 hE4 hE5 hX4 hX5 c0 c1 c2 d0 d1 d2 hz1
  go_region_held3 (fun w' => w'.cell? ⟨w.heap.size, 0, none⟩ = some (.int .i64 (G : Int)) ∧ w'.cell? ⟨w.heap.size, 1, none⟩ = some (.int .i64 (N : Int)) ∧ w'.cell? ⟨w.heap.size, 2, none⟩ = some (.int .i64 (M : Int)))
    (exact ⟨Ext.cell (by repeat (first | exact Ext.refl w5 | refine Ext.drew ?_ | refine Ext.alloc ?_ _)) e0, Ext.cell (by repeat (first | exact Ext.refl w5 | refine Ext.drew ?_ | refine Ext.alloc ?_ _)) e1, Ext.cell (by repeat (first | exact Ext.refl w5 | refine Ext.drew ?_ | refine Ext.alloc ?_ _)) e2⟩) (fail)
  all_goals (go_wp2; go_ret)
  all_goals
    refine ⟨_, ⟨_, _, _, _, _, _, _, _⟩, rfl, refnew_close HM.out HT.out.1 HT.out.2 hTb hGb (at_drew (at_new _ _ _ (by simp))) ?_ ?_ ?_ ?_ ?_ ?_ ?_⟩
    rotate_right 3
    · refine ⟨?_, ?_, ?_, ?_, ?_⟩ <;> omega
    · refine ⟨?_, ?_, ?_, ?_, ?_, ?_⟩ <;> omega
    · repeat (first | exact hX5' | refine Ext.drew ?_ | refine Ext.alloc ?_ _)
    all_goals (refine at_drew ?_; repeat (first | (refine at_new _ _ _ ?_; simp; done) | refine at_old ?_))
end Go.Proofs.Ytillhbbeghbfeaa
