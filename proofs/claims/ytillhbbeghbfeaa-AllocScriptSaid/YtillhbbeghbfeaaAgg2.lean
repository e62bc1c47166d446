/- Arrays and structs within arrays and structs: laws for the walk. -/
import Derived.Test.YtillhbbeghbfeaaAgg
import Derived.Test.YtillhbbeghbfeaaEq
namespace Go.Proofs.Ytillhbbeghbfeaa
set_option linter.unusedVariables false
open Go.RowKit

section
variable {P : Program} {w : World} {ops : Array Oper} {rest : List Oper} {o : Oper} {a : Act} {Q : Exit → Act → World → Prop}

/-- A part of a row that is the call's own, read. -/
theorem ag_loadAt (hw : Region.wanted o (yielded ops a.tmps) = true) (t : TypeId) (x : Operand) (ho : o.op = .load t x) (g off k n c B e : Nat) (vs : List Value)
    (hx : a.eval x = .pointer (some ⟨g, off, none⟩)) (hO : Own w B e (some ⟨g, 0, none⟩) n c vs) (hagg : ∀ w1, (isAgg t).run P w1 = .ok true w1) (hi : (P.info? t).map (·.size) = some k) (hk : off + k ≤ n)
    (h : wpList P ops Q rest (a.put o.dst (.agg ((vs.drop off).take k).toArray)) w) : wpList P ops Q (o :: rest) a w := by
  refine wpList_value hw (v := .agg ((vs.drop off).take k).toArray) (w' := w) ?_ h
  obtain ⟨i, hi', hs⟩ := Option.map_eq_some_iff.1 hi
  have hlen := hO.len
  have hl := run_loadCells_list (P := P) (w := w) ⟨g, off, none⟩ ((vs.drop off).take k) (by
    intro j v hj
    rw [Addr.add_lit]
    rw [List.getElem?_take] at hj
    split at hj
    · rw [List.getElem?_drop] at hj
      have hjl := (List.getElem?_eq_some_iff.1 hj).1
      rw [hO.cellAt (off + j) (by omega)]
      exact hj
    · cases hj)
  have hll : ((vs.drop off).take k).length = k := by rw [List.length_take, List.length_drop]; omega
  rw [hll] at hl
  simp [execOp, ho, hx, Instr.loadAt, Instr.sureAddr, loadVar, hagg, sizeOf, typeInfo, hi', hs, hl]
/-- A part of a row that is the call's own, written. -/
theorem ag_storeAt (hw : Region.wanted o (yielded ops a.tmps) = true) (t : TypeId) (x y : Operand) (ho : o.op = .store t x y) (g off n c B e : Nat) (old vs : List Value)
    (hx : a.eval x = .pointer (some ⟨g, off, none⟩)) (hy : a.eval y = .agg vs.toArray) (hO : Own w B e (some ⟨g, 0, none⟩) n c old) (hk : off + vs.length ≤ n) (h1 : ∀ u ∈ vs, u.oneCell' = true)
    (hi : (P.info? t).map (·.size) = some vs.length)
    (h : ∀ w', Own w' B e (some ⟨g, 0, none⟩) n c (old.take off ++ vs ++ old.drop (off + vs.length)) → w.grownBy w' (some g) → wpList P ops Q rest (a.put o.dst undef) w') : wpList P ops Q (o :: rest) a w := by
  have hol := hO.len
  rcases hO.1.2 with ⟨hv, _⟩ | ⟨g', cap, cur, hv, hB, hh, hnc, hcm, hss, htk⟩
  · simp at hv
  · simp at hv
    obtain ⟨rfl, rfl⟩ := hv
    have hst := run_storeCells_at P g off e vs 0 cur w hh (by simp; omega) h1
    obtain ⟨i, hi', hs⟩ := Option.map_eq_some_iff.1 hi
    refine wpList_skip hw (w' := w.setRow g (cur.toList.take off ++ vs ++ cur.toList.drop (off + vs.length)).toArray) ?_ (h _ ⟨⟨by simp; omega, .inr ⟨g, c, _, rfl, hB, setRow_heap w g cur _ e _ hh, hnc, hcm, by simp; omega, ?_⟩⟩, ?_⟩
      ⟨rfl, rfl, rfl, by simp, fun k _ hk => setRow_other w g k _ (fun e => hk (by rw [e]))⟩)
    · simp only [Nat.add_zero] at hst
      simp [execOp, ho, hx, hy, Instr.storeAt, Instr.sureAddr, storeVar, Value.cells, sizeOf, typeInfo, hi', hs]
      have hst' : Sem.run P (storeCells ⟨g, off, none⟩ vs) w = Result.ok () (w.setRow g (List.take off cur.toList ++ (vs ++ List.drop (off + vs.length) cur.toList)).toArray) := by simpa using hst
      rw [hst']
      simp
    · rw [Nat.mul_one]
      show (cur.toList.take off ++ vs ++ cur.toList.drop (off + vs.length)).take n = _
      rw [← htk]
      rw [List.take_append, List.take_append, List.take_take]
      simp only [List.length_append, List.length_take, Array.length_toList]
      rw [show min n off = off from by omega, show min off cur.size = off from by omega]
      rw [List.take_of_length_le (l := vs) (by omega), List.drop_take, List.take_take, show min off (n * 1) = off from by omega, Nat.mul_one]
    · intro u hu
      rcases List.mem_append.1 hu with hu | hu
      · rcases List.mem_append.1 hu with hu | hu
        · exact hO.2 u (List.mem_of_mem_take hu)
        · exact h1 u hu
      · exact hO.2 u (List.mem_of_mem_drop hu)
end
/-- A part of a row that is the call's own, written: as a step of a region that draws its order. -/
theorem step_storeAt {P : Program} {w : World} {ops : Array Oper} {o : Oper} {a : Act} {K : Act → World → Prop} {Q : Exit → Act → World → Prop} {E : Prop} (hgd : o.guard = none) (t : TypeId) (x y : Operand) (ho : o.op = .store t x y) (g off n c B e : Nat) (old vs : List Value)
    (hx : a.eval x = .pointer (some ⟨g, off, none⟩)) (hy : a.eval y = .agg vs.toArray) (hO : Own w B e (some ⟨g, 0, none⟩) n c old) (hk : off + vs.length ≤ n) (h1 : ∀ u ∈ vs, u.oneCell' = true)
    (hi : (P.info? t).map (·.size) = some vs.length)
    (h : ∀ w', Own w' B e (some ⟨g, 0, none⟩) n c (old.take off ++ vs ++ old.drop (off + vs.length)) → w.grownBy w' (some g) → K (a.put o.dst undef) w') :
    if Region.wanted o (yielded ops a.tmps) = true then Oper.wp P o a w K Q else E := by
  rw [if_pos (by simp [Region.wanted, hgd])]
  have hol := hO.len
  rcases hO.1.2 with ⟨hv, _⟩ | ⟨g', cap, cur, hv, hB, hh, hnc, hcm, hss, htk⟩
  · simp at hv
  · simp at hv
    obtain ⟨rfl, rfl⟩ := hv
    have hst := run_storeCells_at P g off e vs 0 cur w hh (by simp; omega) h1
    obtain ⟨i, hi', hs⟩ := Option.map_eq_some_iff.1 hi
    have hfin := h (w.setRow g (cur.toList.take off ++ vs ++ cur.toList.drop (off + vs.length)).toArray) ⟨⟨by simp; omega, .inr ⟨g, c, _, rfl, hB, setRow_heap w g cur _ e _ hh, hnc, hcm, by simp; omega, by
      rw [Nat.mul_one]
      show (cur.toList.take off ++ vs ++ cur.toList.drop (off + vs.length)).take n = _
      rw [← htk]
      rw [List.take_append, List.take_append, List.take_take]
      simp only [List.length_append, List.length_take, Array.length_toList]
      rw [show min n off = off from by omega, show min off cur.size = off from by omega]
      rw [List.take_of_length_le (l := vs) (by omega), List.drop_take, List.take_take, show min off (n * 1) = off from by omega, Nat.mul_one]⟩⟩, by
      intro u hu
      rcases List.mem_append.1 hu with hu | hu
      · rcases List.mem_append.1 hu with hu | hu
        · exact hO.2 u (List.mem_of_mem_take hu)
        · exact h1 u hu
      · exact hO.2 u (List.mem_of_mem_drop hu)⟩ ⟨rfl, rfl, rfl, by simp, fun k _ hk => setRow_other w g k _ (fun e => hk (by rw [e]))⟩
    have hst' : Sem.run P (storeCells ⟨g, off, none⟩ vs) w = Result.ok () (w.setRow g (cur.toList.take off ++ vs ++ cur.toList.drop (off + vs.length)).toArray) := by simpa using hst
    have hrun : (execOp a.eval o).run P w = .ok .skip (w.setRow g (cur.toList.take off ++ vs ++ cur.toList.drop (off + vs.length)).toArray) := by
      simp [execOp, ho, hx, hy, Instr.storeAt, Instr.sureAddr, storeVar, Value.cells, sizeOf, typeInfo, hi', hs]
      rw [hst']
      simp
    unfold Oper.wp
    rw [hrun]
    exact hfin
/-- An element of an array value, itself a struct or an array. -/
theorem run_index_row {P : Program} (t e : TypeId) (n k : Nat) (ht : P.underlying t = some (.array n e)) (he : isRowT P e = true) (hi : (P.info? e).map (·.size) = some k)
    (vs : List Value) (j : Nat) (hj : j < n) (w : World) : (Instr.index t (.agg vs.toArray) (.int .i64 (j : Int))).run P w = .ok (.agg ((vs.drop (j * k)).take k).toArray) w := by
  obtain ⟨i, hi', hs⟩ := Option.map_eq_some_iff.1 hi
  simp [Instr.index, asIntOf, run_underlying ht, sizeOf, typeInfo, hi', hs, hj, part, agg_of_row he]
end Go.Proofs.Ytillhbbeghbfeaa
