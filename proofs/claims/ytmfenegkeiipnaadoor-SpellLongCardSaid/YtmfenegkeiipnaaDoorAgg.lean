/- Arrays and structs of one-cell parts as values, their variables known whole: laws for the walk. -/
import Derived.Test.YtmfenegkeiipnaaDoorMem
import Derived.Test.YtmfenegkeiipnaaDoorFlat
import Derived.DeepKeys
namespace Go.Proofs.YtmfenegkeiipnaaDoor
open Go.RowKit

section
variable {P : Program} {w : World} {ops : Array Oper} {rest : List Oper} {o : Oper} {a : Act} {Q : Exit → Act → World → Prop}

theorem wpList_value (hw : Region.wanted o (yielded ops a.tmps) = true) {v : Value} {w' : World} (hrun : (execOp a.eval o).run P w = .ok (.value v) w')
    (h : wpList P ops Q rest (a.put o.dst v) w') : wpList P ops Q (o :: rest) a w :=
  wpList_step fun K hK => by
    rw [if_pos hw]
    unfold Oper.wp
    rw [hrun]
    exact hK _ _ h
theorem wpList_skip (hw : Region.wanted o (yielded ops a.tmps) = true) {w' : World} (hrun : (execOp a.eval o).run P w = .ok .skip w')
    (h : wpList P ops Q rest (a.put o.dst undef) w') : wpList P ops Q (o :: rest) a w :=
  wpList_step fun K hK => by
    rw [if_pos hw]
    unfold Oper.wp
    rw [hrun]
    exact hK _ _ h

/-- A struct or an array laid into a variable of its own. -/
theorem ag_box (hw : Region.wanted o (yielded ops a.tmps) = true) (t : TypeId) (x : Operand) (ho : o.op = .box t x) (vs : List Value) (n : Nat) (hx : a.eval x = .agg vs.toArray)
    (hn : vs.length = n) (hm : n ≤ 9223372036854775807) (h1 : ∀ u ∈ vs, u.oneCell' = true) (B : Nat) (hB : B ≤ w.heap.size)
    (h : ∀ w', Own w' B t (some ⟨w.heap.size, 0, none⟩) n n vs → Ext w w' → w.heap.size < w'.heap.size → wpList P ops Q rest (a.put o.dst (.pointer (some ⟨w.heap.size, 0, none⟩))) w') :
    wpList P ops Q (o :: rest) a w := by
  refine wpList_value hw (v := .pointer (some ⟨w.heap.size, 0, none⟩)) (w' := w.alloc (.cells vs.toArray t)) ?_ (h _ ?_ ((Ext.refl w).alloc _) (by simp))
  · simp [execOp, ho, hx, Instr.box, newVar, newRow, Value.cells]
  · have := Own.made (w := w) (B := B) (e := t) (n := n) hB vs.toArray n (by simp only [maxLen]; omega) (Nat.le_refl _) (by simp [hn]) (by simpa [List.take_of_length_le, hn] using h1)
    simpa [List.take_of_length_le, hn] using this

/-- A variable of a struct or array type, of zeros. -/
theorem ag_alloc (hw : Region.wanted o (yielded ops a.tmps) = true) (t : TypeId) (ho : o.op = .alloc t) (vs : List Value) (n : Nat)
    (hz : (P.info? t).map (·.zero) = some (some (.agg vs.toArray)))
    (hn : vs.length = n) (hm : n ≤ 9223372036854775807) (h1 : ∀ u ∈ vs, u.oneCell' = true) (B : Nat) (hB : B ≤ w.heap.size)
    (h : ∀ w', Own w' B t (some ⟨w.heap.size, 0, none⟩) n n vs → Ext w w' → w.heap.size < w'.heap.size → wpList P ops Q rest (a.put o.dst (.pointer (some ⟨w.heap.size, 0, none⟩))) w') :
    wpList P ops Q (o :: rest) a w := by
  refine wpList_value hw (v := .pointer (some ⟨w.heap.size, 0, none⟩)) (w' := w.alloc (.cells vs.toArray t)) ?_ (h _ ?_ ((Ext.refl w).alloc _) (by simp))
  · obtain ⟨i, hi, hz'⟩ := Option.map_eq_some_iff.1 hz
    simp [execOp, ho, Instr.alloc, zeroValue, typeInfo, hi, hz', newVar, newRow, Value.cells]
  · have := Own.made (w := w) (B := B) (e := t) (n := n) hB vs.toArray n (by simp only [maxLen]; omega) (Nat.le_refl _) (by simp [hn]) (by simpa [List.take_of_length_le, hn] using h1)
    simpa [List.take_of_length_le, hn] using this

/-- A literal whose parts are known: its value by a closed fact. -/
theorem ag_build (hw : Region.wanted o (yielded ops a.tmps) = true) (t : TypeId) (parts : Array (Nat × Operand)) (ho : o.op = .build t parts) (v : Value)
    (hrun : (Instr.build t (parts.map fun (i, x) => (i, a.eval x))).run P w = .ok v w) (h : wpList P ops Q rest (a.put o.dst v) w) : wpList P ops Q (o :: rest) a w := by
  refine wpList_value hw (v := v) (w' := w) ?_ h
  simp only [execOp, ho]
  rw [Sem.run_bind, hrun]
  rfl

/-- The zero value, written as a literal. -/
theorem ag_zero (hw : Region.wanted o (yielded ops a.tmps) = true) (t : TypeId) (ho : o.op = .build t #[]) (v : Value)
    (hrun : (Instr.build t #[]).run P w = .ok v w) (h : wpList P ops Q rest (a.put o.dst v) w) : wpList P ops Q (o :: rest) a w :=
  ag_build hw t #[] ho v (by simpa using hrun) h

/-- The whole of it read. -/
theorem ag_load (hw : Region.wanted o (yielded ops a.tmps) = true) (t : TypeId) (x : Operand) (ho : o.op = .load t x) (g n B e : Nat) (vs : List Value)
    (hx : a.eval x = .pointer (some ⟨g, 0, none⟩)) (hO : Own w B e (some ⟨g, 0, none⟩) n n vs) (hagg : ∀ w1, (isAgg t).run P w1 = .ok true w1) (hi : (P.info? t).map (·.size) = some n)
    (h : wpList P ops Q rest (a.put o.dst (.agg vs.toArray)) w) : wpList P ops Q (o :: rest) a w := by
  refine wpList_value hw (v := .agg vs.toArray) (w' := w) ?_ h
  obtain ⟨i, hi', hs⟩ := Option.map_eq_some_iff.1 hi
  have hl := run_loadCells_list (P := P) (w := w) ⟨g, 0, none⟩ vs (by
    intro j v hj
    rw [Addr.add_lit, Nat.zero_add]
    have hjl : j < vs.length := (List.getElem?_eq_some_iff.1 hj).1
    rw [hO.cellAt j (by have := hO.len; omega)]
    exact hj)
  rw [hO.len] at hl
  simp [execOp, ho, hx, Instr.loadAt, Instr.sureAddr, loadVar, hagg, sizeOf, typeInfo, hi', hs, hl]

/-- The whole of it written. -/
theorem ag_store (hw : Region.wanted o (yielded ops a.tmps) = true) (t : TypeId) (x y : Operand) (ho : o.op = .store t x y) (g n B e : Nat) (old vs : List Value)
    (hx : a.eval x = .pointer (some ⟨g, 0, none⟩)) (hy : a.eval y = .agg vs.toArray) (hO : Own w B e (some ⟨g, 0, none⟩) n n old) (hn : vs.length = n) (h1 : ∀ u ∈ vs, u.oneCell' = true)
    (hi : (P.info? t).map (·.size) = some n)
    (h : ∀ w', Own w' B e (some ⟨g, 0, none⟩) n n vs → w.grownBy w' (some g) → wpList P ops Q rest (a.put o.dst undef) w') : wpList P ops Q (o :: rest) a w := by
  have hol := hO.len
  rcases hO.1.2 with ⟨hv, _⟩ | ⟨g', cap, cur, hv, hB, hh, hnc, hcm, hss, htk⟩
  · simp at hv
  · simp at hv
    obtain ⟨rfl, rfl⟩ := hv
    have hst := run_storeCells_at P g 0 e vs 0 cur w hh (by omega) h1
    simp only [Nat.add_zero, Nat.zero_add, List.take_zero, List.nil_append, hn] at hst
    have hd : cur.toList.drop n = [] := List.drop_eq_nil_of_le (by simp; omega)
    rw [hd, List.append_nil] at hst
    obtain ⟨i, hi', hs⟩ := Option.map_eq_some_iff.1 hi
    refine wpList_skip hw (w' := w.setRow g vs.toArray) ?_ (h _ ⟨⟨by omega, .inr ⟨g, n, _, rfl, hB, setRow_heap w g cur _ e _ hh, Nat.le_refl _, hcm, by simp; omega, by rw [List.take_of_length_le (by simp; omega)]⟩⟩, h1⟩
      ⟨rfl, rfl, rfl, by simp, fun k _ hk => setRow_other w g k _ (fun e => hk (by rw [e]))⟩)
    simp [execOp, ho, hx, hy, Instr.storeAt, Instr.sureAddr, storeVar, Value.cells, sizeOf, typeInfo, hi', hs, hn, hst]
end

theorem run_loadVar_own {P : Program} {w : World} (t : TypeId) {g n B e : Nat} {vs : List Value} (hO : Own w B e (some ⟨g, 0, none⟩) n n vs) (hagg : ∀ w1, (isAgg t).run P w1 = .ok true w1)
    (hi : (P.info? t).map (·.size) = some n) : (loadVar t ⟨g, 0, none⟩).run P w = .ok (.agg vs.toArray) w := by
  obtain ⟨i, hi', hs⟩ := Option.map_eq_some_iff.1 hi
  have hl := run_loadCells_list (P := P) (w := w) ⟨g, 0, none⟩ vs (by
    intro j v hj
    rw [Addr.add_lit, Nat.zero_add]
    have hjl : j < vs.length := (List.getElem?_eq_some_iff.1 hj).1
    rw [hO.cellAt j (by have := hO.len; omega)]
    exact hj)
  rw [hO.len] at hl
  simp [loadVar, hagg, sizeOf, typeInfo, hi', hs, hl]
/-- 'return' where the first result lies in memory and the second in a slot. -/
theorem results_agg {P : Program} {w : World} {fn : Func} {p u : Tmp} {t : TypeId} (h : fn.results = #[.cell p t, .tmp u]) (tmps : Array Value) {g n B e : Nat} {vs : List Value} {v : Value}
    (hp : tmps.getD p undef = .pointer (some ⟨g, 0, none⟩)) (hu : tmps.getD u undef = v) (hO : Own w B e (some ⟨g, 0, none⟩) n n vs) (hagg : ∀ w1, (isAgg t).run P w1 = .ok true w1)
    (hi : (P.info? t).map (·.size) = some n) : (results fn tmps).run P w = .ok (.tuple #[.agg vs.toArray, v]) w := by
  rw [results_cell_tmp h, hp, hu]
  simp [asAddr, run_loadVar_own t hO hagg hi]
theorem fill_step {α : Type} (L : List α) (z : α) (n k : Nat) (x : α) (hl : L.length = n) (hk : k < n) (hx : L[k]? = some x) :
    (L.take k ++ List.replicate (n - k) z).set k x = L.take (k + 1) ++ List.replicate (n - (k + 1)) z := by
  rw [List.set_append_right _ _ (by simp; omega)]
  rw [show n - k = (n - (k + 1)) + 1 from by omega, List.replicate_succ]
  rw [List.take_add_one, hx]
  simp [List.length_take, show k - min k L.length = 0 from by omega]

/-- An element of an array value. -/
theorem run_index_one {P : Program} (t e : TypeId) (n : Nat) (ht : P.underlying t = some (.array n e)) (he : P.plainKey e = true) {i : TypeInfo} (hi : P.info? e = some i) (hs : i.size = 1)
    (vs : List Value) (k : Nat) (u : Value) (hk : vs[k]? = some u) (hn : vs.length = n) (w : World) : (Instr.index t (.agg vs.toArray) (.int .i64 (k : Int))).run P w = .ok u w := by
  have hkn : k < n := by have := (List.getElem?_eq_some_iff.1 hk).1; omega
  have h1 := run_part_plain (P := P) w (e := e) he (xs := vs.toArray) (off := k) (v := u) (by simpa using hk)
  simp [Instr.index, asIntOf, run_underlying ht, sizeOf, typeInfo, hi, hs, hkn, h1]
end Go.Proofs.YtmfenegkeiipnaaDoor
