/- Slots of directories: what is found, and which is free. -/
import Derived.Test.YtngffmchjjpfbaaSlo
namespace Go.Proofs.Ytngffmchjjpfbaa
set_option linter.unusedVariables false
open Go.RowKit

def zL : List Slot := [zS, zS, zS, zS]
def slotKs : List TypeDesc := [.int .i64, .int .i64, .string, .int .i64, .int .i64, .string, .int .i64, .int .i64, .string, .int .i64, .int .i64, .string]
theorem info_slots : (Try.prog.info? 40).map (·.size) = some 12 := by kernel_rfl
theorem agg_slots (w : World) : (isAgg 40).run Try.prog w = .ok true w := by kernel_rfl
theorem zero_slots : (Try.prog.info? 40).map (·.zero) = some (some (.agg (LV zL).toArray)) := by kernel_rfl
theorem bld_slots (w : World) : (Instr.build 40 #[]).run Try.prog w = .ok (.agg (LV zL).toArray) w := by kernel_rfl
theorem row_slots : isRowT Try.prog 40 = true := by kernel_rfl
theorem flat_slots : flatT Try.prog 10 40 = some slotKs := by kernel_rfl
theorem shape_LV : ∀ (ss : List Slot), Shape (List.replicate ss.length [TypeDesc.int .i64, TypeDesc.int .i64, TypeDesc.string]).flatten (LV ss) := by
  intro ss
  induction ss with
  | nil => exact ⟨rfl, fun i k v hk hv => by simp at hk⟩
  | cons s ss ih =>
    have h1 := shape_slot s
    rw [List.length_cons, List.replicate_succ, List.flatten_cons, LV_cons]
    refine ⟨by simp [h1.1, ih.1]; omega, fun i d v hd hv => ?_⟩
    have hl : (sV s).length = 3 := rfl
    by_cases hi : i < 3
    · rw [List.getElem?_append_left (by simpa using hi)] at hd
      rw [List.getElem?_append_left (by omega)] at hv
      exact h1.2 i d v hd hv
    · rw [List.getElem?_append_right (by simp; omega)] at hd
      rw [List.getElem?_append_right (by omega), hl] at hv
      exact ih.2 _ d v hd hv
theorem shape_slots {ss : List Slot} (h : ss.length = 4) : Shape slotKs (LV ss) := by
  have := shape_LV ss
  rw [h] at this
  exact this
theorem eq_slots (rs ss : List Slot) (hr : rs.length = 4) (hs : ss.length = 4) (w : World) : (Op.equalIn 10000 40 (.agg (LV rs).toArray) (.agg (LV ss).toArray)).run Try.prog w = .ok (decide (rs = ss)) w := by
  have hi := LV_inj (rs := rs) (ss := ss) (by omega)
  have := @run_eql_flat Try.prog 10 40 _ flat_slots (by omega) row_slots w (LV rs) (LV ss) (shape_slots hr) (shape_slots hs) (decidable_of_iff (rs = ss) hi.symm)
  rw [this]
  congr 1
  simp [hi]
theorem idx_slots (ss : List Slot) (hl : ss.length = 4) (k : Nat) (hk : k < 4) (w : World) : (Instr.index 40 (.agg (LV ss).toArray) (.int .i64 (k : Int))).run Try.prog w = .ok (.agg (sV (nS ss k)).toArray) w := by
  have := run_index_row (P := Try.prog) 40 39 4 3 Try.underlying40 row_slot info_slot (LV ss) k hk w
  rwa [LV_nth (by omega)] at this
theorem LV_len4 {ss : List Slot} (h : ss.length = 4) : (LV ss).length = 12 := by rw [LV_len, h]
set_option maxRecDepth 100000 in
set_option maxHeartbeats 1000000 in
theorem dir_Find (ss : List Slot) (hl : ss.length = 4) (nm : ByteArray) (w : World) : Calls Try.prog 31 #[.agg (LV ss).toArray, .string nm] w fun e w' => e = .returned (.int .i64 (findL ss nm)) ∧ Ext w w' := by
  have HL := hide hl
  have HLL := hide (LV_len4 hl)
  have HIX := hide (idx_slots ss hl)
  clear hl
  go_enter Try.func31, Try.ntmps31
  go_wp2_with (first
    | (with_reducible refine ag_box rfl 40 (.tmp 0) rfl _ 12 rfl HLL.out (by omega) (LV_one ss) w.heap.size (Nat.le_refl _) ?_; intro w1 hB hE1 hz1)
    | (with_reducible refine ag_load rfl 40 (.tmp 2) rfl w.heap.size 12 w.heap.size 40 _ rfl hB agg_slots info_slots ?_))
  go_loopw [8] (fun j wr => ∃ k : Nat, k ≤ 4 ∧ j = .int .i64 k ∧ Hid (findL ss nm = findA (isNm nm) (ss.drop k) k) ∧ Ext w wr) (fun j _ => 4 - (intOf j).toNat)
  case atStart => exact ⟨0, by omega, rfl, rfl, hE1⟩
  case round =>
    obtain ⟨k, hk, rfl, ha, hE⟩ := hrel
    have hsz := hE.size
    by_cases hlt : k < 4
    · have hix := HIX.out k hlt
      have hst := findA_step (p := isNm nm) (ss := ss) (k := k) (by rw [HL.out]; exact hlt)
      generalize hs : nS ss k = s at hix hst
      clear hs
      obtain ⟨i, d, a⟩ := s
      have HST := hide hst
      clear hst
      have go3 : ∀ (w' : World), Own w' wr.heap.size 39 (some ⟨wr.heap.size, 0, none⟩) 3 3 (sV (i, d, a)) → w'.cell? ⟨wr.heap.size, 0, none⟩ = some (.int .i64 i) ∧ w'.cell? ⟨wr.heap.size, 2, none⟩ = some (.string a) :=
        fun w' hO => ⟨hO.cellAt 0 (by omega), hO.cellAt 2 (by omega)⟩
      have GO3 := hide go3
      clear go3
      by_cases hi : i = 0
      · subst hi
        have hno : isNm nm (0, d, a) = false := by simp [isNm]
        have HN := hide hno
        clear hno
        go_wp2_with (first
          | (with_reducible refine ag_alloc (o := ⟨some 6, _, _, _, _, _⟩) rfl 39 rfl _ 3 zero_slot rfl (by omega) (sV_one _) wr.heap.size (Nat.le_refl _) ?_; intro w3 hI3 hE3 hz3)
          | (with_reducible refine ag_store (o := ⟨none, _, _, _, _, _⟩) rfl 39 (.tmp 6) (.tmp 11) rfl wr.heap.size 3 wr.heap.size 39 _ (sV (0, d, a)) rfl rfl hI3 rfl (sV_one _) info_slot ?_; intro w4 hI4 hG4; have hE4 : Ext wr w4 := hE3.grown hG4 (by simp); have hx0 := (GO3.out _ hI4).1; have hx2 := (GO3.out _ hI4).2))
        go_roundw
        case rel => exact ⟨k + 1, by omega, by go_num, by rw [ha.out, HST.out, HN.out]; rfl, hE.trans hE4⟩
        case measure => simp [intOf]; omega
      · have hib : (i == 0) = false := by simpa using hi
        have HIB := hide hib
        cases hnm : (a.toList == nm.toList)
        · have HN := hide (show isNm nm (i, d, a) = false by simp only [isNm, hib, hnm]; rfl)
          clear hib
          go_wp2_with (first
            | (with_reducible refine ag_alloc (o := ⟨some 6, _, _, _, _, _⟩) rfl 39 rfl _ 3 zero_slot rfl (by omega) (sV_one _) wr.heap.size (Nat.le_refl _) ?_; intro w3 hI3 hE3 hz3)
            | (with_reducible refine ag_store (o := ⟨none, _, _, _, _, _⟩) rfl 39 (.tmp 6) (.tmp 11) rfl wr.heap.size 3 wr.heap.size 39 _ (sV (i, d, a)) rfl rfl hI3 rfl (sV_one _) info_slot ?_; intro w4 hI4 hG4; have hE4 : Ext wr w4 := hE3.grown hG4 (by simp); have hx0 := (GO3.out _ hI4).1; have hx2 := (GO3.out _ hI4).2))
          go_roundw
          case rel => exact ⟨k + 1, by omega, by go_num, by rw [ha.out, HST.out, HN.out]; rfl, hE.trans hE4⟩
          case measure => simp [intOf]; omega
        · have HN := hide (show isNm nm (i, d, a) = true by simp only [isNm, hib, hnm]; rfl)
          clear hib
          go_wp2_with (first
            | (with_reducible refine ag_alloc (o := ⟨some 6, _, _, _, _, _⟩) rfl 39 rfl _ 3 zero_slot rfl (by omega) (sV_one _) wr.heap.size (Nat.le_refl _) ?_; intro w3 hI3 hE3 hz3)
            | (with_reducible refine ag_store (o := ⟨none, _, _, _, _, _⟩) rfl 39 (.tmp 6) (.tmp 11) rfl wr.heap.size 3 wr.heap.size 39 _ (sV (i, d, a)) rfl rfl hI3 rfl (sV_one _) info_slot ?_; intro w4 hI4 hG4; have hE4 : Ext wr w4 := hE3.grown hG4 (by simp); have hx0 := (GO3.out _ hI4).1; have hx2 := (GO3.out _ hI4).2))
          go_ret
          exact ⟨ret_int (by rw [ha.out, HST.out, if_pos HN.out]), hE.trans hE4⟩
    · obtain rfl : k = 4 := by omega
      go_wp2_with fail
      go_ret
      exact ⟨ret_int (by rw [ha.out, findA_end (by rw [HL.out]; exact Nat.le_refl _)]), hE⟩
set_option maxRecDepth 100000 in
set_option maxHeartbeats 1000000 in
theorem dir_Free (ss : List Slot) (hl : ss.length = 4) (w : World) : Calls Try.prog 33 #[.agg (LV ss).toArray] w fun e w' => e = .returned (.int .i64 (freeL ss)) ∧ Ext w w' := by
  have HL := hide hl
  have HLL := hide (LV_len4 hl)
  have HIX := hide (idx_slots ss hl)
  clear hl
  go_enter Try.func33, Try.ntmps33
  go_wp2_with (first
    | (with_reducible refine ag_box rfl 40 (.tmp 0) rfl _ 12 rfl HLL.out (by omega) (LV_one ss) w.heap.size (Nat.le_refl _) ?_; intro w1 hB hE1 hz1)
    | (with_reducible refine ag_load rfl 40 (.tmp 1) rfl w.heap.size 12 w.heap.size 40 _ rfl hB agg_slots info_slots ?_))
  go_loopw [6] (fun j wr => ∃ k : Nat, k ≤ 4 ∧ j = .int .i64 k ∧ Hid (freeL ss = findA isFr (ss.drop k) k) ∧ Ext w wr) (fun j _ => 4 - (intOf j).toNat)
  case atStart => exact ⟨0, by omega, rfl, rfl, hE1⟩
  case round =>
    obtain ⟨k, hk, rfl, ha, hE⟩ := hrel
    have hsz := hE.size
    by_cases hlt : k < 4
    · have hix := HIX.out k hlt
      have hst := findA_step (p := isFr) (ss := ss) (k := k) (by rw [HL.out]; exact hlt)
      generalize hs : nS ss k = s at hix hst
      clear hs
      obtain ⟨i, d, a⟩ := s
      have HST := hide hst
      clear hst
      have go3 : ∀ (w' : World), Own w' wr.heap.size 39 (some ⟨wr.heap.size, 0, none⟩) 3 3 (sV (i, d, a)) → w'.cell? ⟨wr.heap.size, 0, none⟩ = some (.int .i64 i) :=
        fun w' hO => hO.cellAt 0 (by omega)
      have GO3 := hide go3
      clear go3
      by_cases hi : i = 0
      · subst hi
        have HN := hide (show isFr (0, d, a) = true from rfl)
        go_wp2_with (first
          | (with_reducible refine ag_alloc (o := ⟨some 4, _, _, _, _, _⟩) rfl 39 rfl _ 3 zero_slot rfl (by omega) (sV_one _) wr.heap.size (Nat.le_refl _) ?_; intro w3 hI3 hE3 hz3)
          | (with_reducible refine ag_store (o := ⟨none, _, _, _, _, _⟩) rfl 39 (.tmp 4) (.tmp 9) rfl wr.heap.size 3 wr.heap.size 39 _ (sV (0, d, a)) rfl rfl hI3 rfl (sV_one _) info_slot ?_; intro w4 hI4 hG4; have hE4 : Ext wr w4 := hE3.grown hG4 (by simp); have hx0 := GO3.out _ hI4))
        go_ret
        exact ⟨ret_int (by rw [ha.out, HST.out, if_pos HN.out]), hE.trans hE4⟩
      · have hib : (i == 0) = false := by simpa using hi
        have HN := hide (show isFr (i, d, a) = false from hib)
        clear hib
        go_wp2_with (first
          | (with_reducible refine ag_alloc (o := ⟨some 4, _, _, _, _, _⟩) rfl 39 rfl _ 3 zero_slot rfl (by omega) (sV_one _) wr.heap.size (Nat.le_refl _) ?_; intro w3 hI3 hE3 hz3)
          | (with_reducible refine ag_store (o := ⟨none, _, _, _, _, _⟩) rfl 39 (.tmp 4) (.tmp 9) rfl wr.heap.size 3 wr.heap.size 39 _ (sV (i, d, a)) rfl rfl hI3 rfl (sV_one _) info_slot ?_; intro w4 hI4 hG4; have hE4 : Ext wr w4 := hE3.grown hG4 (by simp); have hx0 := GO3.out _ hI4))
        go_roundw
        case rel => exact ⟨k + 1, by omega, by go_num, by rw [ha.out, HST.out, HN.out]; rfl, hE.trans hE4⟩
        case measure => simp [intOf]; omega
    · obtain rfl : k = 4 := by omega
      go_wp2_with fail
      go_ret
      exact ⟨ret_int (by rw [ha.out, findA_end (by rw [HL.out]; exact Nat.le_refl _)]), hE⟩
set_option maxRecDepth 100000 in
set_option maxHeartbeats 1000000 in
theorem ref9_Find (ss : List Slot) (hl : ss.length = 4) (nm : ByteArray) (w : World) : Calls Try.prog 32 #[.agg (LV ss).toArray, .string nm] w fun e w' => e = .returned (.int .i64 (findL ss nm)) ∧ Ext w w' := by
  have HL := hide hl
  have HLL := hide (LV_len4 hl)
  clear hl
  go_enter Try.func32, Try.ntmps32
  go_wp2_with (with_reducible refine ag_box rfl 40 (.tmp 0) rfl _ 12 rfl HLL.out (by omega) (LV_one ss) w.heap.size (Nat.le_refl _) ?_; intro w1 hB hE1 hz1)
  go_loopw [5] (fun j wr => ∃ k : Nat, k ≤ 4 ∧ j = .int .i64 k ∧ Hid (findL ss nm = findA (isNm nm) (ss.drop k) k) ∧ w1 = wr) (fun j _ => 4 - (intOf j).toNat)
  case atStart => exact ⟨0, by omega, rfl, rfl, rfl⟩
  case round =>
    obtain ⟨k, hk, rfl, ha, rfl⟩ := hrel
    by_cases hlt : k < 4
    · have hst := findA_step (p := isNm nm) (ss := ss) (k := k) (by rw [HL.out]; exact hlt)
      obtain ⟨x0, x1, x2⟩ := LV_at (ss := ss) (k := k) (by rw [HL.out]; exact hlt)
      generalize hs : nS ss k = s at x0 x1 x2 hst
      clear hs
      obtain ⟨i, d, a⟩ := s
      have HST := hide hst
      clear hst
      have c0 : w1.cell? ⟨w.heap.size, k * 3, none⟩ = some (.int .i64 i) := (hB.cellAt (k * 3) (by omega)).trans x0
      have c2 : w1.cell? ⟨w.heap.size, k * 3 + 2, none⟩ = some (.string a) := (hB.cellAt (k * 3 + 2) (by omega)).trans x2
      have hi4 : (k : Int) < 4 := by omega
      clear x0 x1 x2
      by_cases hi : i = 0
      · subst hi
        have hno : isNm nm (0, d, a) = false := by simp [isNm]
        have HN := hide hno
        clear hno
        go_wp2_with fail
        go_roundw
        case rel => exact ⟨k + 1, by omega, by go_num, by rw [ha.out, HST.out, HN.out]; rfl, trivial⟩
        case measure => simp [intOf]; omega
      · have hib : (i == 0) = false := by simpa using hi
        cases hnm : (a.toList == nm.toList)
        · have HN := hide (show isNm nm (i, d, a) = false by simp only [isNm, hib, hnm]; rfl)
          clear hib
          go_wp2_with fail
          go_roundw
          case rel => exact ⟨k + 1, by omega, by go_num, by rw [ha.out, HST.out, HN.out]; rfl, trivial⟩
          case measure => simp [intOf]; omega
        · have HN := hide (show isNm nm (i, d, a) = true by simp only [isNm, hib, hnm]; rfl)
          clear hib
          go_wp2_with fail
          go_ret
          exact ⟨ret_int (by rw [ha.out, HST.out, if_pos HN.out]), hE1⟩
    · obtain rfl : k = 4 := by omega
      go_wp2_with fail
      go_ret
      exact ⟨ret_int (by rw [ha.out, findA_end (by rw [HL.out]; exact Nat.le_refl _)]), hE1⟩
set_option maxRecDepth 100000 in
set_option maxHeartbeats 1000000 in
theorem ref9_Free (ss : List Slot) (hl : ss.length = 4) (w : World) : Calls Try.prog 34 #[.agg (LV ss).toArray] w fun e w' => e = .returned (.int .i64 (freeL ss)) ∧ Ext w w' := by
  have HL := hide hl
  have HLL := hide (LV_len4 hl)
  clear hl
  go_enter Try.func34, Try.ntmps34
  go_wp2_with (with_reducible refine ag_box rfl 40 (.tmp 0) rfl _ 12 rfl HLL.out (by omega) (LV_one ss) w.heap.size (Nat.le_refl _) ?_; intro w1 hB hE1 hz1)
  go_loopw [3] (fun j wr => ∃ k : Nat, k ≤ 4 ∧ j = .int .i64 k ∧ Hid (freeL ss = findA isFr (ss.drop k) k) ∧ w1 = wr) (fun j _ => 4 - (intOf j).toNat)
  case atStart => exact ⟨0, by omega, rfl, rfl, rfl⟩
  case round =>
    obtain ⟨k, hk, rfl, ha, rfl⟩ := hrel
    by_cases hlt : k < 4
    · have hst := findA_step (p := isFr) (ss := ss) (k := k) (by rw [HL.out]; exact hlt)
      obtain ⟨x0, x1, x2⟩ := LV_at (ss := ss) (k := k) (by rw [HL.out]; exact hlt)
      generalize hs : nS ss k = s at x0 x1 x2 hst
      clear hs
      obtain ⟨i, d, a⟩ := s
      have HST := hide hst
      clear hst
      have c0 : w1.cell? ⟨w.heap.size, k * 3, none⟩ = some (.int .i64 i) := (hB.cellAt (k * 3) (by omega)).trans x0
      have hi4 : (k : Int) < 4 := by omega
      clear x0 x1 x2
      by_cases hi : i = 0
      · subst hi
        have HN := hide (show isFr (0, d, a) = true from rfl)
        go_wp2_with fail
        go_ret
        exact ⟨ret_int (by rw [ha.out, HST.out, if_pos HN.out]), hE1⟩
      · have hib : (i == 0) = false := by simpa using hi
        have HN := hide (show isFr (i, d, a) = false from hib)
        clear hib
        go_wp2_with fail
        go_roundw
        case rel => exact ⟨k + 1, by omega, by go_num, by rw [ha.out, HST.out, HN.out]; rfl, trivial⟩
        case measure => simp [intOf]; omega
    · obtain rfl : k = 4 := by omega
      go_wp2_with fail
      go_ret
      exact ⟨ret_int (by rw [ha.out, findA_end (by rw [HL.out]; exact Nat.le_refl _)]), hE1⟩
end Go.Proofs.Ytngffmchjjpfbaa
