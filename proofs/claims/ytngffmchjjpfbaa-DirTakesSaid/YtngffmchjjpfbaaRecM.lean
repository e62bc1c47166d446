/- Records: their sectors. -/
import Derived.Test.YtngffmchjjpfbaaRecL
namespace Go.Proofs.Ytngffmchjjpfbaa
set_option linter.unusedVariables false
open Go.RowKit

def hdR (r : Rec) : List Nat := (if r.1 then 1 else 0) :: (wd2 r.2.1 ++ wd2 r.2.2.1 ++ wd2 r.2.2.2.1 ++ wd2 r.2.2.2.2.1)
def recB (r : Rec) : List Nat := hdR r ++ nmB r.2.2.2.2.2.1 ++ nmB r.2.2.2.2.2.2
def layRL (r : Rec) : List Nat := if mayR r = true then sealOf 82 (recB r) else []
def layRE (r : Rec) : Nat := if mayR r = true then 0 else 2
theorem okN_size {s : ByteArray} (h : okN s = true) : s.size ≤ 24 := by
  unfold okN okL at h
  simp only [Bool.and_eq_true, decide_eq_true_eq] at h
  rw [← len_toList]
  exact h.2.1
theorem mayR_small {r : Rec} (h : mayR r = true) : ((0 ≤ r.2.1 ∧ r.2.1 ≤ 65535) ∧ (0 ≤ r.2.2.1 ∧ r.2.2.1 ≤ 65535) ∧ (0 ≤ r.2.2.2.1 ∧ r.2.2.2.1 ≤ 65535) ∧ (0 ≤ r.2.2.2.2.1 ∧ r.2.2.2.2.1 ≤ 65535)) ∧ r.2.2.2.2.2.1.size ≤ 24 ∧ r.2.2.2.2.2.2.size ≤ 24 := by
  unfold mayR at h
  simp only [Bool.or_eq_true, decide_eq_true_eq] at h
  rcases h with rfl | h
  · exact ⟨by decide, by decide, by decide⟩
  · simp only [Bool.and_eq_true, decide_eq_true_eq, inW] at h
    obtain ⟨⟨h1, h2, h3⟩, _, h4, h5, _, h6, h7⟩ := h
    exact ⟨by omega, okN_size h6, okN_size h7⟩
theorem recB_len {r : Rec} (h : mayR r = true) : (recB r).length = 59 := by
  obtain ⟨_, h1, h2⟩ := mayR_small h
  simp [recB, hdR, wd2, nmB_len h1, nmB_len h2]
theorem Bytes.nmB {s : ByteArray} (h : s.size ≤ 24) : Bytes (nmB s) := Bytes.cons (by omega) ((Bytes.strL s).append (Bytes.rep _))
theorem Bytes.hdR (r : Rec) : Bytes (hdR r) := Bytes.cons (by split <;> omega) ((((Bytes.wd2 _).append (Bytes.wd2 _)).append (Bytes.wd2 _)).append (Bytes.wd2 _))
theorem Bytes.recB {r : Rec} (h : mayR r = true) : Bytes (recB r) := by
  obtain ⟨_, h1, h2⟩ := mayR_small h
  exact ((Bytes.hdR r).append (Bytes.nmB h1)).append (Bytes.nmB h2)
theorem u8_of (x : Int) : IntKind.u8.wrap x = ((x % 256).toNat : Int) := by
  unfold IntKind.wrap
  simp [IntKind.bits, IntKind.signed]
  omega
theorem hi_lo {x : Int} (h0 : 0 ≤ x) (h1 : x ≤ 65535) : IntKind.u8.wrap (x / 256) = x / 256 ∧ IntKind.u8.wrap x = x % 256 := by
  rw [u8_of, u8_of]
  omega
theorem by8_wdI {x : Int} (h0 : 0 ≤ x) (h1 : x ≤ 65535) : by8 (wd2 x) = [.int .u8 (x / 256), .int .u8 (x % 256)] := by
  simp only [by8, wd2, List.map_cons, List.map_nil]
  rw [show ((x.toNat / 256 % 256 : Nat) : Int) = x / 256 from by omega, show ((x.toNat % 256 : Nat) : Int) = x % 256 from by omega]
theorem hd_cells {f t i o : Int} (hf : 0 ≤ f ∧ f ≤ 65535) (ht : 0 ≤ t ∧ t ≤ 65535) (hi : 0 ≤ i ∧ i ≤ 65535) (ho : 0 ≤ o ∧ o ≤ 65535) (d : Nat) :
    by8 (d :: (wd2 f ++ wd2 t ++ wd2 i ++ wd2 o)) = [.int .u8 (d : Nat), .int .u8 (f / 256), .int .u8 (f % 256), .int .u8 (t / 256), .int .u8 (t % 256), .int .u8 (i / 256), .int .u8 (i % 256), .int .u8 (o / 256), .int .u8 (o % 256)] := by
  rw [show d :: (wd2 f ++ wd2 t ++ wd2 i ++ wd2 o) = [d] ++ wd2 f ++ wd2 t ++ wd2 i ++ wd2 o from by simp, by8_append, by8_append, by8_append, by8_append, by8_wdI hf.1 hf.2, by8_wdI ht.1 ht.2, by8_wdI hi.1 hi.2, by8_wdI ho.1 ho.2]
  rfl
set_option maxHeartbeats 2000000 in
set_option maxRecDepth 100000 in
theorem ref10_Lay (r : Rec) (w : World) : Calls Try.prog 12 #[.agg (rV r).toArray] w fun e w' => ∃ A' n' c', e = .returned (.tuple #[.slice A' n' c', .int .i64 (layRE r : Nat)]) ∧ n' ≤ 128 ∧ Own w' w.heap.size 5 A' n' c' (by8 (layRL r)) ∧ Ext w w' := by
  have hM := fun w1 => ref10_May r w1
  cases hm : mayR r
  · rw [hm] at hM
    have HE := hide (And.intro (show layRE r = 2 from if_neg (by rw [hm]; decide)) (show layRL r = [] from if_neg (by rw [hm]; decide)))
    clear hm
    go_enter Try.func12, Try.ntmps12
    go_wp2_with (first
      | (with_reducible refine ag_box rfl 23 (.tmp 0) rfl _ 7 rfl rfl (by omega) (rV_one r) w.heap.size (Nat.le_refl _) ?_; intro w1 hB1 hE1 hz1)
      | (with_reducible refine ag_load rfl 23 (.tmp 1) rfl w.heap.size 7 w.heap.size 23 _ rfl hB1 agg_rec info_rec ?_)
      | (go_at_call 17; refine (hM _).mono ?_; rintro e w2 ⟨rfl, hE2⟩))
    go_ret2
    rw [HE.out.1, HE.out.2]
    exact ⟨none, 0, 0, rfl, by omega, Own.nilS _ _ _, hE1.trans hE2⟩
  rw [hm] at hM
  have HE := hide (And.intro (show layRE r = 0 from if_pos hm) (show layRL r = sealOf 82 (recB r) from if_pos hm))
  obtain ⟨⟨hf, ht, hi, ho⟩, ha, hb⟩ := mayR_small hm
  have HBB := hide (Bytes.recB hm)
  have HBL := hide (recB_len hm)
  clear hm
  obtain ⟨on, f, t, i, o, a, b⟩ := r
  dsimp only at hf ht hi ho ha hb
  obtain ⟨f1, f2⟩ := hi_lo hf.1 hf.2
  obtain ⟨t1, t2⟩ := hi_lo ht.1 ht.2
  obtain ⟨i1, i2⟩ := hi_lo hi.1 hi.2
  obtain ⟨o1, o2⟩ := hi_lo ho.1 ho.2
  go_enter Try.func12, Try.ntmps12
  go_upto_region 4 with (first
    | (with_reducible refine ag_box rfl 23 (.tmp 0) rfl _ 7 rfl rfl (by omega) (rV_one (on, f, t, i, o, a, b)) w.heap.size (Nat.le_refl _) ?_; intro w1 hB1 hE1 hz1)
    | (with_reducible refine ag_load rfl 23 (.tmp 1) rfl w.heap.size 7 w.heap.size 23 _ rfl hB1 agg_rec info_rec ?_)
    | (go_at_call 17; refine (hM _).mono ?_; rintro e w2 ⟨rfl, hE2⟩
       replace hB1 := hB1.ext hE2
       have hF2 := hE1.trans hE2
       have c0 : w2.cell? ⟨w.heap.size, 0, none⟩ = some (.bool on) := hB1.cellAt 0 (by omega)
       have c1 : w2.cell? ⟨w.heap.size, 1, none⟩ = some (.int .i64 f) := hB1.cellAt 1 (by omega)
       have c2 : w2.cell? ⟨w.heap.size, 2, none⟩ = some (.int .i64 t) := hB1.cellAt 2 (by omega)
       have c3 : w2.cell? ⟨w.heap.size, 3, none⟩ = some (.int .i64 i) := hB1.cellAt 3 (by omega)
       have c4 : w2.cell? ⟨w.heap.size, 4, none⟩ = some (.int .i64 o) := hB1.cellAt 4 (by omega)
       have c5 : w2.cell? ⟨w.heap.size, 5, none⟩ = some (.string a) := hB1.cellAt 5 (by omega)
       have c6 : w2.cell? ⟨w.heap.size, 6, none⟩ = some (.string b) := hB1.cellAt 6 (by omega)))
  have hO : Own (w2.alloc (.cells #[.int .u8 0, .int .u8 (f / 256), .int .u8 (f % 256), .int .u8 (t / 256), .int .u8 (t % 256), .int .u8 (i / 256), .int .u8 (i % 256), .int .u8 (o / 256), .int .u8 (o % 256)] 5)) w2.heap.size 5 (some ⟨w2.heap.size, 0, none⟩) 9 9 (by8 (0 :: (wd2 f ++ wd2 t ++ wd2 i ++ wd2 o))) := by
    have := Own.made (B := w2.heap.size) (e := 5) (n := 9) (w := w2) (Nat.le_refl _) #[.int .u8 0, .int .u8 (f / 256), .int .u8 (f % 256), .int .u8 (t / 256), .int .u8 (t % 256), .int .u8 (i / 256), .int .u8 (i % 256), .int .u8 (o / 256), .int .u8 (o % 256)] 9 (by simp [maxLen]) (Nat.le_refl _) rfl (by simp [Value.oneCell'])
    rw [hd_cells hf ht hi ho 0]
    exact this
  have hE3 : Ext w2 (w2.alloc (.cells #[.int .u8 0, .int .u8 (f / 256), .int .u8 (f % 256), .int .u8 (t / 256), .int .u8 (t % 256), .int .u8 (i / 256), .int .u8 (i % 256), .int .u8 (o / 256), .int .u8 (o % 256)] 5)) := (Ext.refl w2).alloc _
  have d5 := c5
  have d6 := c6
  replace c0 := hE3.cell c0
  replace c5 := hE3.cell c5
  replace c6 := hE3.cell c6
  have hlt0 : w.heap.size < w2.heap.size := (hB1.block w.heap.size rfl).2
  clear c1 c2 c3 c4 hB1 hE1 hE2 hz1 f1 f2 t1 t2 i1 i2 o1 o2 hf ht hi ho
  generalize (w2.alloc (.cells #[.int .u8 0, .int .u8 (f / 256), .int .u8 (f % 256), .int .u8 (t / 256), .int .u8 (t % 256), .int .u8 (i / 256), .int .u8 (i % 256), .int .u8 (o / 256), .int .u8 (o % 256)] 5)) = w3 at *
  rcases on with _ | _
  · go_upto_region 6 with fail
    clear c0
    have c5' := (Ext.drew (Ext.refl w3)).cell c5
    have c6' := (Ext.drew (Ext.refl w3)).cell c6
    refine wp_region_held_drew (S := fun w' => w'.cell? ⟨w.heap.size, 5, none⟩ = some (.string a) ∧ w'.cell? ⟨w.heap.size, 6, none⟩ = some (.string b)) (by kernel_rfl) ⟨c5', c6'⟩ (fun hHeld => ?_)
    refine held_take 0 rfl (by kernel_rfl) (by kernel_rfl) (by kernel_rfl) (fun _ _ _ _ h => h) (by rfl) ?_ ?_ (by assumption) ?_
    rotate_left
    · (intro wx hSx; (try dsimp only at hSx); go_simp)
      all_goals with_reducible rfl
    (try simp only [Act.put, List.setIfInBounds_toArray, List.set_cons_zero, List.set_cons_succ])
    refine held_take 1 rfl (by kernel_rfl) (by kernel_rfl) (by kernel_rfl) (fun _ _ _ _ h => h) (by rfl) ?_ ?_ (by assumption) ?_
    rotate_left
    · (intro wx hSx; (try dsimp only at hSx); go_simp)
      all_goals with_reducible rfl
    (try simp only [Act.put, List.setIfInBounds_toArray, List.set_cons_zero, List.set_cons_succ])
    refine held_take 2 rfl (by kernel_rfl) (by kernel_rfl) (by kernel_rfl) (fun _ _ _ _ h => h) (by rfl) ?_ ?_ (by assumption) ?_
    rotate_left
    · (intro wx hSx; (try dsimp only at hSx); go_simp)
      all_goals with_reducible rfl
    (try simp only [Act.put, List.setIfInBounds_toArray, List.set_cons_zero, List.set_cons_succ])
    refine held_take 4 rfl (by kernel_rfl) (by kernel_rfl) (by kernel_rfl) (fun _ _ _ _ h => h) (by rfl) ?_ ?_ (by assumption) ?_
    rotate_left
    · (intro wx hSx; (try dsimp only at hSx); go_simp)
      all_goals with_reducible rfl
    (try simp only [Act.put, List.setIfInBounds_toArray, List.set_cons_zero, List.set_cons_succ])
    refine held_take 5 rfl (by kernel_rfl) (by kernel_rfl) (by kernel_rfl) (fun _ _ _ _ h => h) (by rfl) ?_ ?_ (by assumption) ?_
    rotate_left
    · (intro wx hSx; (try dsimp only at hSx); go_simp)
      all_goals with_reducible rfl
    (try simp only [Act.put, List.setIfInBounds_toArray, List.set_cons_zero, List.set_cons_succ])
    refine held_call 3 rfl (by kernel_rfl) (fun K hK => ?_)
    go_simp
    go_at_call 38
    refine (ref10_named w2 _ 9 9 _ a ha _ hE3.drew (by omega) (hO.ext (Ext.drew (Ext.refl _)))).mono ?_
    rintro e w4 ⟨A4, cc4, rfl, hO4, hE4⟩
    go_wp2_with fail
    refine hK.out _ _ ⟨hE4.cell d5, hE4.cell d6⟩ (fun hHeld => ?_)
    clear hK K
    (try simp only [Act.put, List.setIfInBounds_toArray, List.set_cons_zero, List.set_cons_succ])
    refine held_call 6 rfl (by kernel_rfl) (fun K hK => ?_)
    go_simp
    go_at_call 38
    refine (ref10_named w2 _ 34 _ _ b hb _ hE4 (by omega) hO4).mono ?_
    rintro e w5 ⟨A5, cc5, rfl, hO5, hE5⟩
    go_wp2_with fail
    refine hK.out _ _ ⟨hE5.cell d5, hE5.cell d6⟩ (fun hHeld => ?_)
    clear hK K
    (try simp only [Act.put, List.setIfInBounds_toArray, List.set_cons_zero, List.set_cons_succ])
    refine held_call 7 rfl (by kernel_rfl) (fun K hK => ?_)
    go_simp
    go_at_call 37
    refine (ref_Seal 82 _ 59 _ _ _ hO5.sl HBB.out (by omega) (by omega) (by omega)).mono ?_
    rintro e w6 ⟨g6, cc6, rfl, hO6, hE6⟩
    have hE56 := hE5.trans hE6
    go_wp2_with fail
    refine hK.out _ _ ⟨hE56.cell d5, hE56.cell d6⟩ (fun hHeld => ?_)
    clear hK K
    (try simp only [Act.put, List.setIfInBounds_toArray, List.set_cons_zero, List.set_cons_succ])
    refine held_take 8 rfl (by kernel_rfl) (by kernel_rfl) (by kernel_rfl) (fun _ _ _ _ h => h) (by rfl) ?_ ?_ (by assumption) ?_
    rotate_left
    · (intro wx hSx; (try dsimp only at hSx); go_simp)
      all_goals with_reducible rfl
    (try simp only [Act.put, List.setIfInBounds_toArray, List.set_cons_zero, List.set_cons_succ])
    refine held_take 9 rfl (by kernel_rfl) (by kernel_rfl) (by kernel_rfl) (fun _ _ _ _ h => h) (by rfl) ?_ ?_ (by assumption) ?_
    rotate_left
    · (intro wx hSx; (try dsimp only at hSx); go_simp)
      all_goals with_reducible rfl
    (try simp only [Act.put, List.setIfInBounds_toArray, List.set_cons_zero, List.set_cons_succ])
    refine held_take 10 rfl (by kernel_rfl) (by kernel_rfl) (by kernel_rfl) (fun _ _ _ _ h => h) (by rfl) ?_ ?_ (by assumption) ?_
    rotate_left
    · (intro wx hSx; (try dsimp only at hSx); go_simp)
      all_goals with_reducible rfl
    (try simp only [Act.put, List.setIfInBounds_toArray, List.set_cons_zero, List.set_cons_succ])
    refine held_take 11 rfl (by kernel_rfl) (by kernel_rfl) (by kernel_rfl) (fun _ _ _ _ h => h) (by rfl) ?_ ?_ (by assumption) ?_
    rotate_left
    · (intro wx hSx; (try dsimp only at hSx); go_simp)
      all_goals with_reducible rfl
    (try simp only [Act.put, List.setIfInBounds_toArray, List.set_cons_zero, List.set_cons_succ])
    refine wpAnyH_done (by kernel_rfl) ?_ _
    clear hHeld
    go_wp2_with fail
    go_ret2
    rw [HE.out.1, HE.out.2]
    exact ⟨_, _, _, rfl, by omega, hO6.low (hF2.trans hE5).size, hF2.trans hE56⟩
  · have hcc : w3.cell? ⟨w2.heap.size, 0, none⟩ = some (.int .u8 0) := hO.cellAt 0 (by omega)
    have hff := hO.frozenAt 0
    have hG := grown_setCell w3 w2.heap.size 0 (.int .u8 1)
    have hO1 : Own (w3.setCell ⟨w2.heap.size, 0, none⟩ (.int .u8 1)) w2.heap.size 5 (some ⟨w2.heap.size, 0, none⟩) 9 9 (by8 (1 :: (wd2 f ++ wd2 t ++ wd2 i ++ wd2 o))) := hO.store 0 (.int .u8 1) rfl
    have hE4 := hE3.setCell (p := ⟨w2.heap.size, 0, none⟩) (Nat.le_refl _) (.int .u8 1)
    have k5 := hG.cell c5 (by simp; omega)
    have k6 := hG.cell c6 (by simp; omega)
    go_upto_region 6 with fail
    clear c0 hcc hff hG c5 c6 hO hE3
    obtain ⟨c5, c6, hO, hE3⟩ := And.intro k5 (And.intro k6 (And.intro hO1 hE4))
    clear k5 k6 hO1 hE4
    generalize w3.setCell ⟨w2.heap.size, 0, none⟩ (.int .u8 1) = w3 at *
    have c5' := (Ext.drew (Ext.refl w3)).cell c5
    have c6' := (Ext.drew (Ext.refl w3)).cell c6
    refine wp_region_held_drew (S := fun w' => w'.cell? ⟨w.heap.size, 5, none⟩ = some (.string a) ∧ w'.cell? ⟨w.heap.size, 6, none⟩ = some (.string b)) (by kernel_rfl) ⟨c5', c6'⟩ (fun hHeld => ?_)
    refine held_take 0 rfl (by kernel_rfl) (by kernel_rfl) (by kernel_rfl) (fun _ _ _ _ h => h) (by rfl) ?_ ?_ (by assumption) ?_
    rotate_left
    · (intro wx hSx; (try dsimp only at hSx); go_simp)
      all_goals with_reducible rfl
    (try simp only [Act.put, List.setIfInBounds_toArray, List.set_cons_zero, List.set_cons_succ])
    refine held_take 1 rfl (by kernel_rfl) (by kernel_rfl) (by kernel_rfl) (fun _ _ _ _ h => h) (by rfl) ?_ ?_ (by assumption) ?_
    rotate_left
    · (intro wx hSx; (try dsimp only at hSx); go_simp)
      all_goals with_reducible rfl
    (try simp only [Act.put, List.setIfInBounds_toArray, List.set_cons_zero, List.set_cons_succ])
    refine held_take 2 rfl (by kernel_rfl) (by kernel_rfl) (by kernel_rfl) (fun _ _ _ _ h => h) (by rfl) ?_ ?_ (by assumption) ?_
    rotate_left
    · (intro wx hSx; (try dsimp only at hSx); go_simp)
      all_goals with_reducible rfl
    (try simp only [Act.put, List.setIfInBounds_toArray, List.set_cons_zero, List.set_cons_succ])
    refine held_take 4 rfl (by kernel_rfl) (by kernel_rfl) (by kernel_rfl) (fun _ _ _ _ h => h) (by rfl) ?_ ?_ (by assumption) ?_
    rotate_left
    · (intro wx hSx; (try dsimp only at hSx); go_simp)
      all_goals with_reducible rfl
    (try simp only [Act.put, List.setIfInBounds_toArray, List.set_cons_zero, List.set_cons_succ])
    refine held_take 5 rfl (by kernel_rfl) (by kernel_rfl) (by kernel_rfl) (fun _ _ _ _ h => h) (by rfl) ?_ ?_ (by assumption) ?_
    rotate_left
    · (intro wx hSx; (try dsimp only at hSx); go_simp)
      all_goals with_reducible rfl
    (try simp only [Act.put, List.setIfInBounds_toArray, List.set_cons_zero, List.set_cons_succ])
    refine held_call 3 rfl (by kernel_rfl) (fun K hK => ?_)
    go_simp
    go_at_call 38
    refine (ref10_named w2 _ 9 9 _ a ha _ hE3.drew (by omega) (hO.ext (Ext.drew (Ext.refl _)))).mono ?_
    rintro e w4 ⟨A4, cc4, rfl, hO4, hE4⟩
    go_wp2_with fail
    refine hK.out _ _ ⟨hE4.cell d5, hE4.cell d6⟩ (fun hHeld => ?_)
    clear hK K
    (try simp only [Act.put, List.setIfInBounds_toArray, List.set_cons_zero, List.set_cons_succ])
    refine held_call 6 rfl (by kernel_rfl) (fun K hK => ?_)
    go_simp
    go_at_call 38
    refine (ref10_named w2 _ 34 _ _ b hb _ hE4 (by omega) hO4).mono ?_
    rintro e w5 ⟨A5, cc5, rfl, hO5, hE5⟩
    go_wp2_with fail
    refine hK.out _ _ ⟨hE5.cell d5, hE5.cell d6⟩ (fun hHeld => ?_)
    clear hK K
    (try simp only [Act.put, List.setIfInBounds_toArray, List.set_cons_zero, List.set_cons_succ])
    refine held_call 7 rfl (by kernel_rfl) (fun K hK => ?_)
    go_simp
    go_at_call 37
    refine (ref_Seal 82 _ 59 _ _ _ hO5.sl HBB.out (by omega) (by omega) (by omega)).mono ?_
    rintro e w6 ⟨g6, cc6, rfl, hO6, hE6⟩
    have hE56 := hE5.trans hE6
    go_wp2_with fail
    refine hK.out _ _ ⟨hE56.cell d5, hE56.cell d6⟩ (fun hHeld => ?_)
    clear hK K
    (try simp only [Act.put, List.setIfInBounds_toArray, List.set_cons_zero, List.set_cons_succ])
    refine held_take 8 rfl (by kernel_rfl) (by kernel_rfl) (by kernel_rfl) (fun _ _ _ _ h => h) (by rfl) ?_ ?_ (by assumption) ?_
    rotate_left
    · (intro wx hSx; (try dsimp only at hSx); go_simp)
      all_goals with_reducible rfl
    (try simp only [Act.put, List.setIfInBounds_toArray, List.set_cons_zero, List.set_cons_succ])
    refine held_take 9 rfl (by kernel_rfl) (by kernel_rfl) (by kernel_rfl) (fun _ _ _ _ h => h) (by rfl) ?_ ?_ (by assumption) ?_
    rotate_left
    · (intro wx hSx; (try dsimp only at hSx); go_simp)
      all_goals with_reducible rfl
    (try simp only [Act.put, List.setIfInBounds_toArray, List.set_cons_zero, List.set_cons_succ])
    refine held_take 10 rfl (by kernel_rfl) (by kernel_rfl) (by kernel_rfl) (fun _ _ _ _ h => h) (by rfl) ?_ ?_ (by assumption) ?_
    rotate_left
    · (intro wx hSx; (try dsimp only at hSx); go_simp)
      all_goals with_reducible rfl
    (try simp only [Act.put, List.setIfInBounds_toArray, List.set_cons_zero, List.set_cons_succ])
    refine held_take 11 rfl (by kernel_rfl) (by kernel_rfl) (by kernel_rfl) (fun _ _ _ _ h => h) (by rfl) ?_ ?_ (by assumption) ?_
    rotate_left
    · (intro wx hSx; (try dsimp only at hSx); go_simp)
      all_goals with_reducible rfl
    (try simp only [Act.put, List.setIfInBounds_toArray, List.set_cons_zero, List.set_cons_succ])
    refine wpAnyH_done (by kernel_rfl) ?_ _
    clear hHeld
    go_wp2_with fail
    go_ret2
    rw [HE.out.1, HE.out.2]
    exact ⟨_, _, _, rfl, by omega, hO6.low (hF2.trans hE5).size, hF2.trans hE56⟩
end Go.Proofs.Ytngffmchjjpfbaa
