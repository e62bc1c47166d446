/- Slots of directories: what was laid is read again. -/
import Derived.Test.YtngffmchjjpfbaaSloS
namespace Go.Proofs.Ytngffmchjjpfbaa
set_option linter.unusedVariables false
open Go.RowKit

theorem rdS_slB (a c : List Nat) (s : Slot) (n : Nat) (h : a.length = n) (hm : mayS s = true) : rdS (a ++ (slB s ++ c)) n = s := by
  obtain ⟨⟨b0, b1⟩, ⟨b2, b3⟩, b4⟩ := mayS_small hm
  obtain ⟨i, d, nm⟩ := s
  dsimp only at b0 b1 b2 b3 b4
  have g0 := getD_append_right' a (slB (i, d, nm) ++ c) 0 n h
  have g1 := getD_append_right' a (slB (i, d, nm) ++ c) 1 n h
  have g2 := getD_append_right' a (slB (i, d, nm) ++ c) 2 n h
  have e : a ++ (slB (i, d, nm) ++ c) = (a ++ (wd2 i ++ [d.toNat % 256])) ++ (nmB nm ++ c) := by simp [slB]
  have n1 := nmL_at (a ++ (wd2 i ++ [d.toNat % 256])) c nm (n + 3) (by simp [wd2, h]) b4
  rw [← e] at n1
  rw [Nat.add_zero] at g0
  unfold rdS wN
  rw [n1, strN_strL, g0, g1, g2]
  refine Prod.ext ?_ (Prod.ext ?_ rfl)
  · show ((i.toNat / 256 % 256 * 256 + i.toNat % 256 : Nat) : Int) = i
    omega
  · show ((d.toNat % 256 : Nat) : Int) = d
    omega
theorem layBS_split (ss : List Slot) {j : Nat} (h : j < 4) : ∃ c, layBS ss 4 = layBS ss j ++ (slB (nS ss j) ++ c) := by
  have s0 := layBS_succ ss 0
  have s1 := layBS_succ ss 1
  have s2 := layBS_succ ss 2
  have s3 := layBS_succ ss 3
  simp only [Nat.zero_add, Nat.reduceAdd] at s0 s1 s2 s3
  rcases (show j = 0 ∨ j = 1 ∨ j = 2 ∨ j = 3 by omega) with rfl | rfl | rfl | rfl
  · exact ⟨_, by rw [s3, s2, s1, s0]; simp only [List.append_assoc]; rfl⟩
  · exact ⟨_, by rw [s3, s2, s1]; simp only [List.append_assoc]; rfl⟩
  · exact ⟨_, by rw [s3, s2]; simp only [List.append_assoc]; rfl⟩
  · exact ⟨[], by rw [s3]; simp⟩
theorem rdD_lay {ss : List Slot} (hl : ss.length = 4) (h : allS ss 4) : rdD (padTo 123 (layBS ss 4)) = ss := by
  have key : ∀ j, j < 4 → rdS (padTo 123 (layBS ss 4)) (j * 28) = nS ss j := by
    intro j hj
    obtain ⟨c, hc⟩ := layBS_split ss hj
    unfold padTo
    rw [hc, List.append_assoc, List.append_assoc]
    exact rdS_slB _ _ _ _ (by rw [layBS_len (fun q hq => h q (by omega))]; omega) (goodS_may (h j hj))
  apply List.ext_getElem?
  intro j
  unfold rdD soD
  by_cases hj : j < 4
  · rw [List.getElem?_append_left (by simpa using hj), List.getElem?_map, List.getElem?_range hj]
    simp only [Option.map_some]
    rw [key j hj]
    simp [nS, List.getD_eq_getElem?_getD, show j < ss.length by omega]
  · rw [List.getElem?_eq_none (by simp; omega), List.getElem?_eq_none (by omega)]
theorem layDL_good {ss : List Slot} (h : allS ss 4) : layDL ss = sealOf 68 (layBS ss 4) ∧ layDE ss = 0 ∧ (layDL ss).length = 128 := by
  have e : layDL ss = sealOf 68 (layBS ss 4) := if_pos h
  exact ⟨e, if_pos h, by rw [e]; exact sealOf_len (by rw [layBS_len h]; omega)⟩
theorem layDL_bad {ss : List Slot} (h : ¬ allS ss 4) : layDL ss = [] ∧ layDE ss = 2 := ⟨if_neg h, if_neg h⟩
theorem readD_laid {ss : List Slot} (hl : ss.length = 4) (h : allS ss 4) : readDL (layDL ss) = ss ∧ readDE (layDL ss) = 0 := by
  rw [(layDL_good h).1]
  have hb1 : (layBS ss 4).length ≤ 123 := by rw [layBS_len h]; omega
  have hk := kindOf_sealOf (k := 68) hb1 (by omega)
  have hb : rdD (bodyOf (sealOf 68 (layBS ss 4))) = ss := by rw [bodyOf_sealOf hb1, rdD_lay hl h]
  have hok : rdOkD (sealOf 68 (layBS ss 4)) := ⟨hk, by rw [hb]; exact h, by rw [hb]⟩
  exact ⟨by rw [show readDL _ = rdD (bodyOf (sealOf 68 (layBS ss 4))) from if_pos hok, hb], if_pos hok⟩
theorem readD_no {b : List Nat} (h : kindOf b ≠ 68) : readDL b = zL ∧ readDE b = 3 := ⟨if_neg fun k => h k.1, if_neg fun k => h k.1⟩
theorem readD_nil : readDL [] = zL ∧ readDE [] = 3 := readD_no (by decide)
theorem Lay_slots (ss : List Slot) (hl : ss.length = 4) (h : allS ss 4) (w : World) : Calls Try.prog 23 #[.agg (LV ss).toArray] w fun e w' => ∃ A' c', e = .returned (.tuple #[.slice A' 128 c', .int .i64 0]) ∧ Own w' w.heap.size 5 A' 128 c' (by8 (layDL ss)) ∧ Ext w w' :=
  (dir_Lay ss hl w).mono (by
    rintro e w' ⟨A', n', c', rfl, hn, hO, hE⟩
    have hl := hO.len
    obtain ⟨_, e2, e3⟩ := layDL_good h
    rw [by8_len, e3] at hl
    rw [e2]
    subst hl
    exact ⟨A', c', rfl, hO, hE⟩)
theorem Lay_slotsN (ss : List Slot) (hl : ss.length = 4) (h : ¬ allS ss 4) (w : World) : Calls Try.prog 23 #[.agg (LV ss).toArray] w fun e w' => ∃ A' c', e = .returned (.tuple #[.slice A' 0 c', .int .i64 2]) ∧ Own w' w.heap.size 5 A' 0 c' (by8 (layDL ss)) ∧ Ext w w' :=
  (dir_Lay ss hl w).mono (by
    rintro e w' ⟨A', n', c', rfl, hn, hO, hE⟩
    have hl := hO.len
    obtain ⟨e1, e2⟩ := layDL_bad h
    rw [by8_len, e1] at hl
    rw [e2]
    obtain rfl : 0 = n' := hl
    exact ⟨A', c', rfl, hO, hE⟩)
/-- Four slots as the statements' frame hands them over. -/
def ssV (x : Slot × Slot × Slot × Slot) : List Value := LV [x.1, x.2.1, x.2.2.1, x.2.2.2]
theorem slot_shape {v0 v1 v2 : Value} {X : List Value} {ks : List TypeDesc} (h : Shape ([.int .i64, .int .i64, .string] ++ ks) (v0 :: v1 :: v2 :: X)) : (∃ s : Slot, [v0, v1, v2] = sV s) ∧ Shape ks X := by
  have c0 := h.2 0 _ _ rfl rfl
  have c1 := h.2 1 _ _ rfl rfl
  have c2 := h.2 2 _ _ rfl rfl
  refine ⟨?_, h.right⟩
  cases v0 <;> simp only [cellIs] at c0
  cases v1 <;> simp only [cellIs] at c1
  cases v2 <;> simp only [cellIs] at c2
  subst c0 c1
  exact ⟨(_, _, _), rfl⟩
theorem slots_shape {X : List Value} (h : Shape slotKs X) : ∃ x : Slot × Slot × Slot × Slot, X = ssV x := by
  match X, h with
  | [v0, v1, v2, v3, v4, v5, v6, v7, v8, v9, v10, v11], h =>
    obtain ⟨⟨a, ha⟩, h⟩ := slot_shape h
    obtain ⟨⟨b, hb⟩, h⟩ := slot_shape (ks := [.int .i64, .int .i64, .string, .int .i64, .int .i64, .string]) h
    obtain ⟨⟨c, hc⟩, h⟩ := slot_shape (ks := [.int .i64, .int .i64, .string]) h
    obtain ⟨⟨d, hd⟩, h⟩ := slot_shape (ks := []) h
    refine ⟨(a, b, c, d), ?_⟩
    show [v0, v1, v2] ++ ([v3, v4, v5] ++ ([v6, v7, v8] ++ ([v9, v10, v11] ++ []))) = _
    rw [ha, hb, hc, hd]
    rfl
end Go.Proofs.Ytngffmchjjpfbaa
