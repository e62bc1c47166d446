/- Records: their sectors, as the program lays them. -/
import Derived.Test.YtngffmchjjpfbaaRecM
namespace Go.Proofs.Ytngffmchjjpfbaa
set_option linter.unusedVariables false
open Go.RowKit

theorem Own.atN {w : World} {B e g n c : Nat} {xs : List Int} (h : Own w B e (some ⟨g, 0, none⟩) n c (i64s xs)) (j : Nat) (hj : j < n) : w.cell? ⟨g, j, none⟩ = some (.int .i64 (xs.getD j 0)) := by
  rw [h.cellAt j hj]
  have hl := h.len
  rw [show (i64s xs).length = xs.length by simp [i64s]] at hl
  have hj2 : j < xs.length := by omega
  rw [List.getD_eq_getElem?_getD, List.getElem?_eq_getElem hj2]
  simp [i64s, hj2]
/-- A record's bytes ahead of its names, so far. -/
def preR (d : Nat) (ns : List Int) (k : Nat) : List Nat := d :: (ns.take k).flatMap wd2
theorem preR_len (d : Nat) (ns : List Int) (k : Nat) (h : k ≤ ns.length) : (preR d ns k).length = 1 + 2 * k := by
  have : ∀ l : List Int, (l.flatMap wd2).length = 2 * l.length := by
    intro l
    induction l with
    | nil => rfl
    | cons x l ih => rw [List.flatMap_cons, List.length_append, ih, List.length_cons]; simp [wd2]; omega
  simp [preR, this]
  omega
theorem preR_succ (d : Nat) (ns : List Int) (k : Nat) (x : Int) (h : ns[k]? = some x) : preR d ns k ++ wd2 x = preR d ns (k + 1) := by
  unfold preR
  rw [List.take_add_one, h]
  simp
set_option maxHeartbeats 2000000 in
set_option maxRecDepth 100000 in
theorem rec_Lay (r : Rec) (w : World) : Calls Try.prog 11 #[.agg (rV r).toArray] w fun e w' => ∃ A' n' c', e = .returned (.tuple #[.slice A' n' c', .int .i64 (layRE r : Nat)]) ∧ n' ≤ 128 ∧ Own w' w.heap.size 5 A' n' c' (by8 (layRL r)) ∧ Ext w w' := by
  have hM := fun w1 => rec_May r w1
  cases hm : mayR r
  · rw [hm] at hM
    have HE := hide (And.intro (show layRE r = 2 from if_neg (by rw [hm]; decide)) (show layRL r = [] from if_neg (by rw [hm]; decide)))
    clear hm
    go_enter Try.func11, Try.ntmps11
    go_wp2_with (first
      | (with_reducible refine ag_box rfl 23 (.tmp 0) rfl _ 7 rfl rfl (by omega) (rV_one r) w.heap.size (Nat.le_refl _) ?_; intro w1 hB1 hE1 hz1)
      | (with_reducible refine ag_load rfl 23 (.tmp 1) rfl w.heap.size 7 w.heap.size 23 _ rfl hB1 agg_rec info_rec ?_)
      | (go_at_call 16; refine (hM _).mono ?_; rintro e w2 ⟨rfl, hE2⟩))
    go_ret2
    rw [HE.out.1, HE.out.2]
    exact ⟨none, 0, 0, rfl, by omega, Own.nilS _ _ _, hE1.trans hE2⟩
  rw [hm] at hM
  have HE := hide (And.intro (show layRE r = 0 from if_pos hm) (show layRL r = sealOf 82 (recB r) from if_pos hm))
  obtain ⟨⟨hf, ht, hi, ho⟩, ha, hb⟩ := mayR_small hm
  have HBB := hide (Bytes.recB hm)
  clear hm
  obtain ⟨on, f, t, i, o, a, b⟩ := r
  dsimp only at hf ht hi ho ha hb
  obtain ⟨f1, f2⟩ := hi_lo hf.1 hf.2
  obtain ⟨t1, t2⟩ := hi_lo ht.1 ht.2
  obtain ⟨i1, i2⟩ := hi_lo hi.1 hi.2
  obtain ⟨o1, o2⟩ := hi_lo ho.1 ho.2
  go_enter Try.func11, Try.ntmps11
  go_upto_region 4 with (first
    | (with_reducible refine ag_box rfl 23 (.tmp 0) rfl _ 7 rfl rfl (by omega) (rV_one (on, f, t, i, o, a, b)) w.heap.size (Nat.le_refl _) ?_; intro w1 hB1 hE1 hz1)
    | (with_reducible refine ag_load rfl 23 (.tmp 1) rfl w.heap.size 7 w.heap.size 23 _ rfl hB1 agg_rec info_rec ?_)
    | (go_at_call 16; refine (hM _).mono ?_; rintro e w2 ⟨rfl, hE2⟩
       replace hB1 := hB1.ext hE2
       have hF2 := hE1.trans hE2
       have d0 : w2.cell? ⟨w.heap.size, 0, none⟩ = some (.bool on) := hB1.cellAt 0 (by omega)
       have d1 : w2.cell? ⟨w.heap.size, 1, none⟩ = some (.int .i64 f) := hB1.cellAt 1 (by omega)
       have d2 : w2.cell? ⟨w.heap.size, 2, none⟩ = some (.int .i64 t) := hB1.cellAt 2 (by omega)
       have d3 : w2.cell? ⟨w.heap.size, 3, none⟩ = some (.int .i64 i) := hB1.cellAt 3 (by omega)
       have d4 : w2.cell? ⟨w.heap.size, 4, none⟩ = some (.int .i64 o) := hB1.cellAt 4 (by omega)
       have d5 : w2.cell? ⟨w.heap.size, 5, none⟩ = some (.string a) := hB1.cellAt 5 (by omega)
       have d6 : w2.cell? ⟨w.heap.size, 6, none⟩ = some (.string b) := hB1.cellAt 6 (by omega)))
  have hO : Own (w2.alloc (.cells #[.int .u8 0] 5)) w2.heap.size 5 (some ⟨w2.heap.size, 0, none⟩) 1 1 (by8 [0]) :=
    Own.made (B := w2.heap.size) (e := 5) (n := 1) (w := w2) (Nat.le_refl _) #[.int .u8 0] 1 (by simp [maxLen]) (Nat.le_refl _) rfl (by simp [Value.oneCell'])
  have hE3 : Ext w2 (w2.alloc (.cells #[.int .u8 0] 5)) := (Ext.refl w2).alloc _
  have hlt0 : w.heap.size < w2.heap.size := (hB1.block w.heap.size rfl).2
  have c0 := hE3.cell d0
  clear hB1 hE1 hE2 hz1
  generalize w2.alloc (.cells #[.int .u8 0] 5) = w3 at *
  have hcc : w3.cell? ⟨w2.heap.size, 0, none⟩ = some (.int .u8 0) := hO.cellAt 0 (by omega)
  have hff := hO.frozenAt 0
  rcases on with _ | _
  · go_upto_region 6 with fail
    clear c0 hcc hff
    have c1 := hE3.cell d1
    have c2 := hE3.cell d2
    have c3 := hE3.cell d3
    have c4 := hE3.cell d4
    have hX : Ext w3 (w3.alloc (.cells #[.int .i64 f, .int .i64 t, .int .i64 i, .int .i64 o] 3)) := (Ext.refl w3).alloc _
    have hIx : Own (w3.alloc (.cells #[.int .i64 f, .int .i64 t, .int .i64 i, .int .i64 o] 3)) w3.heap.size 3 (some ⟨w3.heap.size, 0, none⟩) 4 4 (i64s [f, t, i, o]) :=
      Own.made (B := w3.heap.size) (e := 3) (n := 4) (w := w3) (Nat.le_refl _) #[.int .i64 f, .int .i64 t, .int .i64 i, .int .i64 o] 4 (by simp [maxLen]) (Nat.le_refl _) rfl (by simp [Value.oneCell'])
    have hO6 := hO.ext hX
    have hE6 := hE3.trans hX
    have hlt3 : w2.heap.size < w3.heap.size := (hO.block w2.heap.size rfl).2
    go_wp2_with fail
    clear c1 c2 c3 c4 d0 d1 d2 d3 d4 hO hE3 hX
    obtain ⟨wx, hwx⟩ : ∃ wx : World, (w3.alloc (.cells #[.int .i64 f, .int .i64 t, .int .i64 i, .int .i64 o] 3)) = wx := ⟨_, rfl⟩
    rw [hwx] at hIx hO6 hE6
    rw [hwx]
    clear hwx
    have hgi : w3.heap.size < wx.heap.size := (hIx.block w3.heap.size rfl).2
    go_loopw [4, 25] (fun s j wr => ∃ (k : Nat) (A4 : Option Addr) (c4 : Nat), k ≤ 4 ∧ j = .int .i64 k ∧ s = .slice A4 (1 + 2 * k) c4 ∧ Own wr w2.heap.size 5 A4 (1 + 2 * k) c4 (by8 (preR 0 [f, t, i, o] k)) ∧ Own wr w3.heap.size 3 (some ⟨w3.heap.size, 0, none⟩) 4 4 (i64s [f, t, i, o]) ∧ Apart A4 (some ⟨w3.heap.size, 0, none⟩) ∧ Ext w2 wr ∧ wx.heap.size ≤ wr.heap.size) (fun _ j _ => 4 - (intOf j).toNat)
    case atStart => exact ⟨0, _, _, by omega, rfl, rfl, hO6, hIx, (fun x y hx hy he => by simp at hx hy; subst hx hy; simp at he; omega), hE6, Nat.le_refl _⟩
    case round =>
      obtain ⟨k, A4, c4, hk, rfl, rfl, hO, hI, hA, hE, hzx⟩ := hrel
      rcases (show k = 0 ∨ k = 1 ∨ k = 2 ∨ k = 3 ∨ k = 4 by omega) with rfl | rfl | rfl | rfl | rfl
      · have hc := hI.atN 0 (by omega)
        simp only [List.getD_cons_zero] at hc
        have hS : Sl (wr.alloc (.cells #[.int .u8 (f / 256), .int .u8 (f % 256)] 5)) (some ⟨wr.heap.size, 0, none⟩) 2 2 (by8 (wd2 f)) := by
          rw [by8_wdI hf.1 hf.2]
          exact (Own.made (B := wr.heap.size) (e := 5) (n := 2) (w := wr) (Nat.le_refl _) #[.int .u8 (f / 256), .int .u8 (f % 256)] 2 (by simp [maxLen]) (Nat.le_refl _) rfl (by simp [Value.oneCell'])).sl
        have hX : Ext wr (wr.alloc (.cells #[.int .u8 (f / 256), .int .u8 (f % 256)] 5)) := (Ext.refl wr).alloc _
        have hO' := hO.ext hX
        have hI' := hI.ext hX
        have hE' := hE.trans hX
        have hz' : wx.heap.size ≤ (wr.alloc (.cells #[.int .u8 (f / 256), .int .u8 (f % 256)] 5)).heap.size := Nat.le_trans hzx hX.size
        clear hO hI hX
        go_wp2_with (at_builtin; refine app8b rfl (.tmp 29) (.tmp 35) rfl w2.heap.size A4 1 c4 _ rfl hO' _ 2 2 _ rfl hS (by omega) hE'.size ?_; intro A5 c5 w5 hO5 hG5 hW5)
        have hI5 := hI'.kept hG5 (hA.row)
        rw [← by8_append, preR_succ 0 [f, t, i, o] 0 f rfl] at hO5
        go_roundw
        case rel => exact ⟨1, A5, c5, by omega, by go_num, rfl, hO5, hI5, hA.grew hW5 hIx hz', hE'.grown hG5 (fun q hq => (hO'.block q hq).1), Nat.le_trans hz' hG5.size⟩
        case measure => simp [intOf]
      · have hc := hI.atN 1 (by omega)
        simp only [List.getD_cons_zero, List.getD_cons_succ] at hc
        have hS : Sl (wr.alloc (.cells #[.int .u8 (t / 256), .int .u8 (t % 256)] 5)) (some ⟨wr.heap.size, 0, none⟩) 2 2 (by8 (wd2 t)) := by
          rw [by8_wdI ht.1 ht.2]
          exact (Own.made (B := wr.heap.size) (e := 5) (n := 2) (w := wr) (Nat.le_refl _) #[.int .u8 (t / 256), .int .u8 (t % 256)] 2 (by simp [maxLen]) (Nat.le_refl _) rfl (by simp [Value.oneCell'])).sl
        have hX : Ext wr (wr.alloc (.cells #[.int .u8 (t / 256), .int .u8 (t % 256)] 5)) := (Ext.refl wr).alloc _
        have hO' := hO.ext hX
        have hI' := hI.ext hX
        have hE' := hE.trans hX
        have hz' : wx.heap.size ≤ (wr.alloc (.cells #[.int .u8 (t / 256), .int .u8 (t % 256)] 5)).heap.size := Nat.le_trans hzx hX.size
        clear hO hI hX
        go_wp2_with (at_builtin; refine app8b rfl (.tmp 29) (.tmp 35) rfl w2.heap.size A4 3 c4 _ rfl hO' _ 2 2 _ rfl hS (by omega) hE'.size ?_; intro A5 c5 w5 hO5 hG5 hW5)
        have hI5 := hI'.kept hG5 (hA.row)
        rw [← by8_append, preR_succ 0 [f, t, i, o] 1 t rfl] at hO5
        go_roundw
        case rel => exact ⟨2, A5, c5, by omega, by go_num, rfl, hO5, hI5, hA.grew hW5 hIx hz', hE'.grown hG5 (fun q hq => (hO'.block q hq).1), Nat.le_trans hz' hG5.size⟩
        case measure => simp [intOf]
      · have hc := hI.atN 2 (by omega)
        simp only [List.getD_cons_zero, List.getD_cons_succ] at hc
        have hS : Sl (wr.alloc (.cells #[.int .u8 (i / 256), .int .u8 (i % 256)] 5)) (some ⟨wr.heap.size, 0, none⟩) 2 2 (by8 (wd2 i)) := by
          rw [by8_wdI hi.1 hi.2]
          exact (Own.made (B := wr.heap.size) (e := 5) (n := 2) (w := wr) (Nat.le_refl _) #[.int .u8 (i / 256), .int .u8 (i % 256)] 2 (by simp [maxLen]) (Nat.le_refl _) rfl (by simp [Value.oneCell'])).sl
        have hX : Ext wr (wr.alloc (.cells #[.int .u8 (i / 256), .int .u8 (i % 256)] 5)) := (Ext.refl wr).alloc _
        have hO' := hO.ext hX
        have hI' := hI.ext hX
        have hE' := hE.trans hX
        have hz' : wx.heap.size ≤ (wr.alloc (.cells #[.int .u8 (i / 256), .int .u8 (i % 256)] 5)).heap.size := Nat.le_trans hzx hX.size
        clear hO hI hX
        go_wp2_with (at_builtin; refine app8b rfl (.tmp 29) (.tmp 35) rfl w2.heap.size A4 5 c4 _ rfl hO' _ 2 2 _ rfl hS (by omega) hE'.size ?_; intro A5 c5 w5 hO5 hG5 hW5)
        have hI5 := hI'.kept hG5 (hA.row)
        rw [← by8_append, preR_succ 0 [f, t, i, o] 2 i rfl] at hO5
        go_roundw
        case rel => exact ⟨3, A5, c5, by omega, by go_num, rfl, hO5, hI5, hA.grew hW5 hIx hz', hE'.grown hG5 (fun q hq => (hO'.block q hq).1), Nat.le_trans hz' hG5.size⟩
        case measure => simp [intOf]
      · have hc := hI.atN 3 (by omega)
        simp only [List.getD_cons_zero, List.getD_cons_succ] at hc
        have hS : Sl (wr.alloc (.cells #[.int .u8 (o / 256), .int .u8 (o % 256)] 5)) (some ⟨wr.heap.size, 0, none⟩) 2 2 (by8 (wd2 o)) := by
          rw [by8_wdI ho.1 ho.2]
          exact (Own.made (B := wr.heap.size) (e := 5) (n := 2) (w := wr) (Nat.le_refl _) #[.int .u8 (o / 256), .int .u8 (o % 256)] 2 (by simp [maxLen]) (Nat.le_refl _) rfl (by simp [Value.oneCell'])).sl
        have hX : Ext wr (wr.alloc (.cells #[.int .u8 (o / 256), .int .u8 (o % 256)] 5)) := (Ext.refl wr).alloc _
        have hO' := hO.ext hX
        have hI' := hI.ext hX
        have hE' := hE.trans hX
        have hz' : wx.heap.size ≤ (wr.alloc (.cells #[.int .u8 (o / 256), .int .u8 (o % 256)] 5)).heap.size := Nat.le_trans hzx hX.size
        clear hO hI hX
        go_wp2_with (at_builtin; refine app8b rfl (.tmp 29) (.tmp 35) rfl w2.heap.size A4 7 c4 _ rfl hO' _ 2 2 _ rfl hS (by omega) hE'.size ?_; intro A5 c5 w5 hO5 hG5 hW5)
        have hI5 := hI'.kept hG5 (hA.row)
        rw [← by8_append, preR_succ 0 [f, t, i, o] 3 o rfl] at hO5
        go_roundw
        case rel => exact ⟨4, A5, c5, by omega, by go_num, rfl, hO5, hI5, hA.grew hW5 hIx hz', hE'.grown hG5 (fun q hq => (hO'.block q hq).1), Nat.le_trans hz' hG5.size⟩
        case measure => simp [intOf]
      · have hpre : preR 0 [f, t, i, o] 4 = hdR (false, f, t, i, o, a, b) := by simp [preR, hdR]
        have HP := hide hpre
        clear hpre hI hA hIx hO6 hE6 hzx f1 f2 t1 t2 i1 i2 o1 o2
        go_wp2_with fail
        refine wp_region_held_drew (S := fun w' => w'.cell? ⟨w.heap.size, 5, none⟩ = some (.string a) ∧ w'.cell? ⟨w.heap.size, 6, none⟩ = some (.string b)) (by kernel_rfl) ⟨hE.drew.cell d5, hE.drew.cell d6⟩ (fun hHeld => ?_)
        refine held_take 0 rfl (by kernel_rfl) (by kernel_rfl) (by kernel_rfl) (fun _ _ _ _ h => h) (by rfl) ?_ ?_ (by assumption) ?_
        rotate_left
        · (intro wx hSx; (try dsimp only at hSx); go_simp)
          all_goals with_reducible rfl
        (try simp only [Act.put, List.setIfInBounds_toArray, List.set_cons_zero, List.set_cons_succ])
        refine held_take 1 rfl (by kernel_rfl) (by kernel_rfl) (by kernel_rfl) (fun _ _ _ _ h => h) (by rfl) ?_ ?_ (by assumption) ?_
        rotate_left
        · (intro wx hSx; (try dsimp only at hSx); go_simp)
          all_goals with_reducible rfl
        (try simp only [Act.put, List.setIfInBounds_toArray, List.set_cons_zero, List.set_cons_succ])
        refine held_take 2 rfl (by kernel_rfl) (by kernel_rfl) (by kernel_rfl) (fun _ _ _ _ h => h) (by rfl) ?_ ?_ (by assumption) ?_
        rotate_left
        · (intro wx hSx; (try dsimp only at hSx); go_simp)
          all_goals with_reducible rfl
        (try simp only [Act.put, List.setIfInBounds_toArray, List.set_cons_zero, List.set_cons_succ])
        refine held_take 5 rfl (by kernel_rfl) (by kernel_rfl) (by kernel_rfl) (fun _ _ _ _ h => h) (by rfl) ?_ ?_ (by assumption) ?_
        rotate_left
        · (intro wx hSx; (try dsimp only at hSx); go_simp)
          all_goals with_reducible rfl
        (try simp only [Act.put, List.setIfInBounds_toArray, List.set_cons_zero, List.set_cons_succ])
        refine held_take 6 rfl (by kernel_rfl) (by kernel_rfl) (by kernel_rfl) (fun _ _ _ _ h => h) (by rfl) ?_ ?_ (by assumption) ?_
        rotate_left
        · (intro wx hSx; (try dsimp only at hSx); go_simp)
          all_goals with_reducible rfl
        (try simp only [Act.put, List.setIfInBounds_toArray, List.set_cons_zero, List.set_cons_succ])
        refine held_call 3 rfl (by kernel_rfl) (fun K hK => ?_)
        go_simp
        go_at_call 36
        refine (rec_named a ha _).mono ?_
        rintro e w4 ⟨An, cn, rfl, hOn, hEn⟩
        have hO4 := (hO.ext (Ext.drew (Ext.refl _))).ext hEn
        have hE4 := hE.drew.trans hEn
        go_wp2_with fail
        refine hK.out _ _ ⟨hE4.cell d5, hE4.cell d6⟩ (fun hHeld => ?_)
        clear hK K
        (try simp only [Act.put, List.setIfInBounds_toArray, List.set_cons_zero, List.set_cons_succ])
        refine held_call 4 rfl (by kernel_rfl) (fun K hK => ?_)
        · refine step8b rfl (.tmp 38) (.tmp 41) rfl w2.heap.size A4 (1 + 2 * 4) c4 _ rfl hO4 An 25 cn _ rfl hOn.sl (by omega) hE4.size ?_
          intro A5 c5 w5 hO5 hG5 _
          have hE5 := hE4.grown hG5 (fun q hq => (hO4.block q hq).1)
          refine hK.out _ _ ⟨hE5.cell d5, hE5.cell d6⟩ (fun hHeld => ?_)
          clear hK K
          (try simp only [Act.put, List.setIfInBounds_toArray, List.set_cons_zero, List.set_cons_succ])
          refine held_call 7 rfl (by kernel_rfl) (fun K hK => ?_)
          go_simp
          go_at_call 36
          refine (rec_named b hb _).mono ?_
          rintro e w6 ⟨Ab, cb, rfl, hOb, hEb⟩
          have hO6 := hO5.ext hEb
          have hE6 := hE5.trans hEb
          go_wp2_with fail
          refine hK.out _ _ ⟨hE6.cell d5, hE6.cell d6⟩ (fun hHeld => ?_)
          clear hK K
          (try simp only [Act.put, List.setIfInBounds_toArray, List.set_cons_zero, List.set_cons_succ])
          refine held_call 8 rfl (by kernel_rfl) (fun K hK => ?_)
          refine step8b rfl (.tmp 42) (.tmp 45) rfl w2.heap.size A5 (1 + 2 * 4 + 25) c5 _ rfl hO6 Ab 25 cb _ rfl hOb.sl (by omega) hE6.size ?_
          intro A8 c8 w8 hO8 hG8 _
          have hE8 := hE6.grown hG8 (fun q hq => (hO6.block q hq).1)
          refine hK.out _ _ ⟨hE8.cell d5, hE8.cell d6⟩ (fun hHeld => ?_)
          clear hK K
          (try simp only [Act.put, List.setIfInBounds_toArray, List.set_cons_zero, List.set_cons_succ])
          have hS8 : Sl w8 A8 59 c8 (by8 (recB (false, f, t, i, o, a, b))) := by
            have := hO8.sl
            rw [← by8_append, ← by8_append, HP.out] at this
            exact this
          refine held_call 9 rfl (by kernel_rfl) (fun K hK => ?_)
          go_simp
          go_at_call 35
          refine (seal_Seal 82 _ 59 _ _ _ hS8 HBB.out (by omega) (by omega) (by omega)).mono ?_
          rintro e w9 ⟨g9, cc9, rfl, hO9, hE9⟩
          have hF9 := hE8.trans hE9
          go_wp2_with fail
          refine hK.out _ _ ⟨hF9.cell d5, hF9.cell d6⟩ (fun hHeld => ?_)
          clear hK K
          (try simp only [Act.put, List.setIfInBounds_toArray, List.set_cons_zero, List.set_cons_succ])
          refine held_take 10 rfl (by kernel_rfl) (by kernel_rfl) (by kernel_rfl) (fun _ _ _ _ h => h) (by rfl) ?_ ?_ (by assumption) ?_
          rotate_left
          · (intro wx hSx; (try dsimp only at hSx); go_simp)
            all_goals with_reducible rfl
          (try simp only [Act.put, List.setIfInBounds_toArray, List.set_cons_zero, List.set_cons_succ])
          refine held_take 11 rfl (by kernel_rfl) (by kernel_rfl) (by kernel_rfl) (fun _ _ _ _ h => h) (by rfl) ?_ ?_ (by assumption) ?_
          rotate_left
          · (intro wx hSx; (try dsimp only at hSx); go_simp)
            all_goals with_reducible rfl
          (try simp only [Act.put, List.setIfInBounds_toArray, List.set_cons_zero, List.set_cons_succ])
          refine held_take 12 rfl (by kernel_rfl) (by kernel_rfl) (by kernel_rfl) (fun _ _ _ _ h => h) (by rfl) ?_ ?_ (by assumption) ?_
          rotate_left
          · (intro wx hSx; (try dsimp only at hSx); go_simp)
            all_goals with_reducible rfl
          (try simp only [Act.put, List.setIfInBounds_toArray, List.set_cons_zero, List.set_cons_succ])
          refine held_take 13 rfl (by kernel_rfl) (by kernel_rfl) (by kernel_rfl) (fun _ _ _ _ h => h) (by rfl) ?_ ?_ (by assumption) ?_
          rotate_left
          · (intro wx hSx; (try dsimp only at hSx); go_simp)
            all_goals with_reducible rfl
          (try simp only [Act.put, List.setIfInBounds_toArray, List.set_cons_zero, List.set_cons_succ])
          refine wpAnyH_done (by kernel_rfl) ?_ _
          clear hHeld
          go_wp2_with fail
          go_ret2
          rw [HE.out.1, HE.out.2]
          exact ⟨_, _, _, rfl, by omega, hO9.low (hF2.trans hE8).size, hF2.trans hF9⟩
  · have hO1 : Own (w3.setCell ⟨w2.heap.size, 0, none⟩ (.int .u8 1)) w2.heap.size 5 (some ⟨w2.heap.size, 0, none⟩) 1 1 (by8 [1]) := hO.store 0 (.int .u8 1) rfl
    have hE4 := hE3.setCell (p := ⟨w2.heap.size, 0, none⟩) (Nat.le_refl _) (.int .u8 1)
    go_upto_region 6 with fail
    clear c0 hcc hff hO hE3
    obtain ⟨hO, hE3⟩ := And.intro hO1 hE4
    clear hO1 hE4
    generalize w3.setCell ⟨w2.heap.size, 0, none⟩ (.int .u8 1) = w3 at *
    have c1 := hE3.cell d1
    have c2 := hE3.cell d2
    have c3 := hE3.cell d3
    have c4 := hE3.cell d4
    have hX : Ext w3 (w3.alloc (.cells #[.int .i64 f, .int .i64 t, .int .i64 i, .int .i64 o] 3)) := (Ext.refl w3).alloc _
    have hIx : Own (w3.alloc (.cells #[.int .i64 f, .int .i64 t, .int .i64 i, .int .i64 o] 3)) w3.heap.size 3 (some ⟨w3.heap.size, 0, none⟩) 4 4 (i64s [f, t, i, o]) :=
      Own.made (B := w3.heap.size) (e := 3) (n := 4) (w := w3) (Nat.le_refl _) #[.int .i64 f, .int .i64 t, .int .i64 i, .int .i64 o] 4 (by simp [maxLen]) (Nat.le_refl _) rfl (by simp [Value.oneCell'])
    have hO6 := hO.ext hX
    have hE6 := hE3.trans hX
    have hlt3 : w2.heap.size < w3.heap.size := (hO.block w2.heap.size rfl).2
    go_wp2_with fail
    clear c1 c2 c3 c4 d0 d1 d2 d3 d4 hO hE3 hX
    obtain ⟨wx, hwx⟩ : ∃ wx : World, (w3.alloc (.cells #[.int .i64 f, .int .i64 t, .int .i64 i, .int .i64 o] 3)) = wx := ⟨_, rfl⟩
    rw [hwx] at hIx hO6 hE6
    rw [hwx]
    clear hwx
    have hgi : w3.heap.size < wx.heap.size := (hIx.block w3.heap.size rfl).2
    go_loopw [4, 25] (fun s j wr => ∃ (k : Nat) (A4 : Option Addr) (c4 : Nat), k ≤ 4 ∧ j = .int .i64 k ∧ s = .slice A4 (1 + 2 * k) c4 ∧ Own wr w2.heap.size 5 A4 (1 + 2 * k) c4 (by8 (preR 1 [f, t, i, o] k)) ∧ Own wr w3.heap.size 3 (some ⟨w3.heap.size, 0, none⟩) 4 4 (i64s [f, t, i, o]) ∧ Apart A4 (some ⟨w3.heap.size, 0, none⟩) ∧ Ext w2 wr ∧ wx.heap.size ≤ wr.heap.size) (fun _ j _ => 4 - (intOf j).toNat)
    case atStart => exact ⟨0, _, _, by omega, rfl, rfl, hO6, hIx, (fun x y hx hy he => by simp at hx hy; subst hx hy; simp at he; omega), hE6, Nat.le_refl _⟩
    case round =>
      obtain ⟨k, A4, c4, hk, rfl, rfl, hO, hI, hA, hE, hzx⟩ := hrel
      rcases (show k = 0 ∨ k = 1 ∨ k = 2 ∨ k = 3 ∨ k = 4 by omega) with rfl | rfl | rfl | rfl | rfl
      · have hc := hI.atN 0 (by omega)
        simp only [List.getD_cons_zero] at hc
        have hS : Sl (wr.alloc (.cells #[.int .u8 (f / 256), .int .u8 (f % 256)] 5)) (some ⟨wr.heap.size, 0, none⟩) 2 2 (by8 (wd2 f)) := by
          rw [by8_wdI hf.1 hf.2]
          exact (Own.made (B := wr.heap.size) (e := 5) (n := 2) (w := wr) (Nat.le_refl _) #[.int .u8 (f / 256), .int .u8 (f % 256)] 2 (by simp [maxLen]) (Nat.le_refl _) rfl (by simp [Value.oneCell'])).sl
        have hX : Ext wr (wr.alloc (.cells #[.int .u8 (f / 256), .int .u8 (f % 256)] 5)) := (Ext.refl wr).alloc _
        have hO' := hO.ext hX
        have hI' := hI.ext hX
        have hE' := hE.trans hX
        have hz' : wx.heap.size ≤ (wr.alloc (.cells #[.int .u8 (f / 256), .int .u8 (f % 256)] 5)).heap.size := Nat.le_trans hzx hX.size
        clear hO hI hX
        go_wp2_with (at_builtin; refine app8b rfl (.tmp 29) (.tmp 35) rfl w2.heap.size A4 1 c4 _ rfl hO' _ 2 2 _ rfl hS (by omega) hE'.size ?_; intro A5 c5 w5 hO5 hG5 hW5)
        have hI5 := hI'.kept hG5 (hA.row)
        rw [← by8_append, preR_succ 1 [f, t, i, o] 0 f rfl] at hO5
        go_roundw
        case rel => exact ⟨1, A5, c5, by omega, by go_num, rfl, hO5, hI5, hA.grew hW5 hIx hz', hE'.grown hG5 (fun q hq => (hO'.block q hq).1), Nat.le_trans hz' hG5.size⟩
        case measure => simp [intOf]
      · have hc := hI.atN 1 (by omega)
        simp only [List.getD_cons_zero, List.getD_cons_succ] at hc
        have hS : Sl (wr.alloc (.cells #[.int .u8 (t / 256), .int .u8 (t % 256)] 5)) (some ⟨wr.heap.size, 0, none⟩) 2 2 (by8 (wd2 t)) := by
          rw [by8_wdI ht.1 ht.2]
          exact (Own.made (B := wr.heap.size) (e := 5) (n := 2) (w := wr) (Nat.le_refl _) #[.int .u8 (t / 256), .int .u8 (t % 256)] 2 (by simp [maxLen]) (Nat.le_refl _) rfl (by simp [Value.oneCell'])).sl
        have hX : Ext wr (wr.alloc (.cells #[.int .u8 (t / 256), .int .u8 (t % 256)] 5)) := (Ext.refl wr).alloc _
        have hO' := hO.ext hX
        have hI' := hI.ext hX
        have hE' := hE.trans hX
        have hz' : wx.heap.size ≤ (wr.alloc (.cells #[.int .u8 (t / 256), .int .u8 (t % 256)] 5)).heap.size := Nat.le_trans hzx hX.size
        clear hO hI hX
        go_wp2_with (at_builtin; refine app8b rfl (.tmp 29) (.tmp 35) rfl w2.heap.size A4 3 c4 _ rfl hO' _ 2 2 _ rfl hS (by omega) hE'.size ?_; intro A5 c5 w5 hO5 hG5 hW5)
        have hI5 := hI'.kept hG5 (hA.row)
        rw [← by8_append, preR_succ 1 [f, t, i, o] 1 t rfl] at hO5
        go_roundw
        case rel => exact ⟨2, A5, c5, by omega, by go_num, rfl, hO5, hI5, hA.grew hW5 hIx hz', hE'.grown hG5 (fun q hq => (hO'.block q hq).1), Nat.le_trans hz' hG5.size⟩
        case measure => simp [intOf]
      · have hc := hI.atN 2 (by omega)
        simp only [List.getD_cons_zero, List.getD_cons_succ] at hc
        have hS : Sl (wr.alloc (.cells #[.int .u8 (i / 256), .int .u8 (i % 256)] 5)) (some ⟨wr.heap.size, 0, none⟩) 2 2 (by8 (wd2 i)) := by
          rw [by8_wdI hi.1 hi.2]
          exact (Own.made (B := wr.heap.size) (e := 5) (n := 2) (w := wr) (Nat.le_refl _) #[.int .u8 (i / 256), .int .u8 (i % 256)] 2 (by simp [maxLen]) (Nat.le_refl _) rfl (by simp [Value.oneCell'])).sl
        have hX : Ext wr (wr.alloc (.cells #[.int .u8 (i / 256), .int .u8 (i % 256)] 5)) := (Ext.refl wr).alloc _
        have hO' := hO.ext hX
        have hI' := hI.ext hX
        have hE' := hE.trans hX
        have hz' : wx.heap.size ≤ (wr.alloc (.cells #[.int .u8 (i / 256), .int .u8 (i % 256)] 5)).heap.size := Nat.le_trans hzx hX.size
        clear hO hI hX
        go_wp2_with (at_builtin; refine app8b rfl (.tmp 29) (.tmp 35) rfl w2.heap.size A4 5 c4 _ rfl hO' _ 2 2 _ rfl hS (by omega) hE'.size ?_; intro A5 c5 w5 hO5 hG5 hW5)
        have hI5 := hI'.kept hG5 (hA.row)
        rw [← by8_append, preR_succ 1 [f, t, i, o] 2 i rfl] at hO5
        go_roundw
        case rel => exact ⟨3, A5, c5, by omega, by go_num, rfl, hO5, hI5, hA.grew hW5 hIx hz', hE'.grown hG5 (fun q hq => (hO'.block q hq).1), Nat.le_trans hz' hG5.size⟩
        case measure => simp [intOf]
      · have hc := hI.atN 3 (by omega)
        simp only [List.getD_cons_zero, List.getD_cons_succ] at hc
        have hS : Sl (wr.alloc (.cells #[.int .u8 (o / 256), .int .u8 (o % 256)] 5)) (some ⟨wr.heap.size, 0, none⟩) 2 2 (by8 (wd2 o)) := by
          rw [by8_wdI ho.1 ho.2]
          exact (Own.made (B := wr.heap.size) (e := 5) (n := 2) (w := wr) (Nat.le_refl _) #[.int .u8 (o / 256), .int .u8 (o % 256)] 2 (by simp [maxLen]) (Nat.le_refl _) rfl (by simp [Value.oneCell'])).sl
        have hX : Ext wr (wr.alloc (.cells #[.int .u8 (o / 256), .int .u8 (o % 256)] 5)) := (Ext.refl wr).alloc _
        have hO' := hO.ext hX
        have hI' := hI.ext hX
        have hE' := hE.trans hX
        have hz' : wx.heap.size ≤ (wr.alloc (.cells #[.int .u8 (o / 256), .int .u8 (o % 256)] 5)).heap.size := Nat.le_trans hzx hX.size
        clear hO hI hX
        go_wp2_with (at_builtin; refine app8b rfl (.tmp 29) (.tmp 35) rfl w2.heap.size A4 7 c4 _ rfl hO' _ 2 2 _ rfl hS (by omega) hE'.size ?_; intro A5 c5 w5 hO5 hG5 hW5)
        have hI5 := hI'.kept hG5 (hA.row)
        rw [← by8_append, preR_succ 1 [f, t, i, o] 3 o rfl] at hO5
        go_roundw
        case rel => exact ⟨4, A5, c5, by omega, by go_num, rfl, hO5, hI5, hA.grew hW5 hIx hz', hE'.grown hG5 (fun q hq => (hO'.block q hq).1), Nat.le_trans hz' hG5.size⟩
        case measure => simp [intOf]
      · have hpre : preR 1 [f, t, i, o] 4 = hdR (true, f, t, i, o, a, b) := by simp [preR, hdR]
        have HP := hide hpre
        clear hpre hI hA hIx hO6 hE6 hzx f1 f2 t1 t2 i1 i2 o1 o2
        go_wp2_with fail
        refine wp_region_held_drew (S := fun w' => w'.cell? ⟨w.heap.size, 5, none⟩ = some (.string a) ∧ w'.cell? ⟨w.heap.size, 6, none⟩ = some (.string b)) (by kernel_rfl) ⟨hE.drew.cell d5, hE.drew.cell d6⟩ (fun hHeld => ?_)
        refine held_take 0 rfl (by kernel_rfl) (by kernel_rfl) (by kernel_rfl) (fun _ _ _ _ h => h) (by rfl) ?_ ?_ (by assumption) ?_
        rotate_left
        · (intro wx hSx; (try dsimp only at hSx); go_simp)
          all_goals with_reducible rfl
        (try simp only [Act.put, List.setIfInBounds_toArray, List.set_cons_zero, List.set_cons_succ])
        refine held_take 1 rfl (by kernel_rfl) (by kernel_rfl) (by kernel_rfl) (fun _ _ _ _ h => h) (by rfl) ?_ ?_ (by assumption) ?_
        rotate_left
        · (intro wx hSx; (try dsimp only at hSx); go_simp)
          all_goals with_reducible rfl
        (try simp only [Act.put, List.setIfInBounds_toArray, List.set_cons_zero, List.set_cons_succ])
        refine held_take 2 rfl (by kernel_rfl) (by kernel_rfl) (by kernel_rfl) (fun _ _ _ _ h => h) (by rfl) ?_ ?_ (by assumption) ?_
        rotate_left
        · (intro wx hSx; (try dsimp only at hSx); go_simp)
          all_goals with_reducible rfl
        (try simp only [Act.put, List.setIfInBounds_toArray, List.set_cons_zero, List.set_cons_succ])
        refine held_take 5 rfl (by kernel_rfl) (by kernel_rfl) (by kernel_rfl) (fun _ _ _ _ h => h) (by rfl) ?_ ?_ (by assumption) ?_
        rotate_left
        · (intro wx hSx; (try dsimp only at hSx); go_simp)
          all_goals with_reducible rfl
        (try simp only [Act.put, List.setIfInBounds_toArray, List.set_cons_zero, List.set_cons_succ])
        refine held_take 6 rfl (by kernel_rfl) (by kernel_rfl) (by kernel_rfl) (fun _ _ _ _ h => h) (by rfl) ?_ ?_ (by assumption) ?_
        rotate_left
        · (intro wx hSx; (try dsimp only at hSx); go_simp)
          all_goals with_reducible rfl
        (try simp only [Act.put, List.setIfInBounds_toArray, List.set_cons_zero, List.set_cons_succ])
        refine held_call 3 rfl (by kernel_rfl) (fun K hK => ?_)
        go_simp
        go_at_call 36
        refine (rec_named a ha _).mono ?_
        rintro e w4 ⟨An, cn, rfl, hOn, hEn⟩
        have hO4 := (hO.ext (Ext.drew (Ext.refl _))).ext hEn
        have hE4 := hE.drew.trans hEn
        go_wp2_with fail
        refine hK.out _ _ ⟨hE4.cell d5, hE4.cell d6⟩ (fun hHeld => ?_)
        clear hK K
        (try simp only [Act.put, List.setIfInBounds_toArray, List.set_cons_zero, List.set_cons_succ])
        refine held_call 4 rfl (by kernel_rfl) (fun K hK => ?_)
        · refine step8b rfl (.tmp 38) (.tmp 41) rfl w2.heap.size A4 (1 + 2 * 4) c4 _ rfl hO4 An 25 cn _ rfl hOn.sl (by omega) hE4.size ?_
          intro A5 c5 w5 hO5 hG5 _
          have hE5 := hE4.grown hG5 (fun q hq => (hO4.block q hq).1)
          refine hK.out _ _ ⟨hE5.cell d5, hE5.cell d6⟩ (fun hHeld => ?_)
          clear hK K
          (try simp only [Act.put, List.setIfInBounds_toArray, List.set_cons_zero, List.set_cons_succ])
          refine held_call 7 rfl (by kernel_rfl) (fun K hK => ?_)
          go_simp
          go_at_call 36
          refine (rec_named b hb _).mono ?_
          rintro e w6 ⟨Ab, cb, rfl, hOb, hEb⟩
          have hO6 := hO5.ext hEb
          have hE6 := hE5.trans hEb
          go_wp2_with fail
          refine hK.out _ _ ⟨hE6.cell d5, hE6.cell d6⟩ (fun hHeld => ?_)
          clear hK K
          (try simp only [Act.put, List.setIfInBounds_toArray, List.set_cons_zero, List.set_cons_succ])
          refine held_call 8 rfl (by kernel_rfl) (fun K hK => ?_)
          refine step8b rfl (.tmp 42) (.tmp 45) rfl w2.heap.size A5 (1 + 2 * 4 + 25) c5 _ rfl hO6 Ab 25 cb _ rfl hOb.sl (by omega) hE6.size ?_
          intro A8 c8 w8 hO8 hG8 _
          have hE8 := hE6.grown hG8 (fun q hq => (hO6.block q hq).1)
          refine hK.out _ _ ⟨hE8.cell d5, hE8.cell d6⟩ (fun hHeld => ?_)
          clear hK K
          (try simp only [Act.put, List.setIfInBounds_toArray, List.set_cons_zero, List.set_cons_succ])
          have hS8 : Sl w8 A8 59 c8 (by8 (recB (true, f, t, i, o, a, b))) := by
            have := hO8.sl
            rw [← by8_append, ← by8_append, HP.out] at this
            exact this
          refine held_call 9 rfl (by kernel_rfl) (fun K hK => ?_)
          go_simp
          go_at_call 35
          refine (seal_Seal 82 _ 59 _ _ _ hS8 HBB.out (by omega) (by omega) (by omega)).mono ?_
          rintro e w9 ⟨g9, cc9, rfl, hO9, hE9⟩
          have hF9 := hE8.trans hE9
          go_wp2_with fail
          refine hK.out _ _ ⟨hF9.cell d5, hF9.cell d6⟩ (fun hHeld => ?_)
          clear hK K
          (try simp only [Act.put, List.setIfInBounds_toArray, List.set_cons_zero, List.set_cons_succ])
          refine held_take 10 rfl (by kernel_rfl) (by kernel_rfl) (by kernel_rfl) (fun _ _ _ _ h => h) (by rfl) ?_ ?_ (by assumption) ?_
          rotate_left
          · (intro wx hSx; (try dsimp only at hSx); go_simp)
            all_goals with_reducible rfl
          (try simp only [Act.put, List.setIfInBounds_toArray, List.set_cons_zero, List.set_cons_succ])
          refine held_take 11 rfl (by kernel_rfl) (by kernel_rfl) (by kernel_rfl) (fun _ _ _ _ h => h) (by rfl) ?_ ?_ (by assumption) ?_
          rotate_left
          · (intro wx hSx; (try dsimp only at hSx); go_simp)
            all_goals with_reducible rfl
          (try simp only [Act.put, List.setIfInBounds_toArray, List.set_cons_zero, List.set_cons_succ])
          refine held_take 12 rfl (by kernel_rfl) (by kernel_rfl) (by kernel_rfl) (fun _ _ _ _ h => h) (by rfl) ?_ ?_ (by assumption) ?_
          rotate_left
          · (intro wx hSx; (try dsimp only at hSx); go_simp)
            all_goals with_reducible rfl
          (try simp only [Act.put, List.setIfInBounds_toArray, List.set_cons_zero, List.set_cons_succ])
          refine held_take 13 rfl (by kernel_rfl) (by kernel_rfl) (by kernel_rfl) (fun _ _ _ _ h => h) (by rfl) ?_ ?_ (by assumption) ?_
          rotate_left
          · (intro wx hSx; (try dsimp only at hSx); go_simp)
            all_goals with_reducible rfl
          (try simp only [Act.put, List.setIfInBounds_toArray, List.set_cons_zero, List.set_cons_succ])
          refine wpAnyH_done (by kernel_rfl) ?_ _
          clear hHeld
          go_wp2_with fail
          go_ret2
          rw [HE.out.1, HE.out.2]
          exact ⟨_, _, _, rfl, by omega, hO9.low (hF2.trans hE8).size, hF2.trans hF9⟩
end Go.Proofs.Ytngffmchjjpfbaa
