/- '==' on arrays of integers, whatever their length. -/
import Derived.WalkKit
import Derived.WalkLawsBesides
import Derived.DeepKeys
import Derived.Deep.RegionHeld3
import Derived.Test.YtmfenegkeiipnaaDoorMem
namespace Go.Proofs.YtmfenegkeiipnaaDoor
open Go.RowKit

theorem run_eqItems_ints {P : Program} (w : World) (d : Nat) {e : TypeId} {k : IntKind} (he : P.underlying e = some (.int k)) (X Y : List Int) :
    ∀ l : List Nat, (∀ i ∈ l, i < X.length ∧ i < Y.length) →
      (Op.eqItems (d + 1) e 1 (X.map (Value.int k)).toArray (Y.map (Value.int k)).toArray l).run P w = .ok (l.all fun i => X[i]? == Y[i]?) w := by
  intro l
  induction l with
  | nil => intro _; simp [Op.eqItems]
  | cons i l ih =>
    intro h
    obtain ⟨hx, hy⟩ := h i (by simp)
    have hk : P.plainKey e = true := by simp [Program.plainKey, he]
    have h1 := run_part_plain (P := P) w (e := e) hk (xs := (X.map (Value.int k)).toArray) (off := i * 1) (v := .int k X[i]) (by simp [hx])
    have h2 := run_part_plain (P := P) w (e := e) hk (xs := (Y.map (Value.int k)).toArray) (off := i * 1) (v := .int k Y[i]) (by simp [hy])
    have h3 := run_equalIn_int (P := P) w d e k k X[i] Y[i] he
    simp only [Op.eqItems, Sem.run_bind, h1, h2, h3, Result.andThen_ok, List.all_cons]
    by_cases hxy : X[i] = Y[i]
    · rw [show (X[i] == Y[i]) = true from by simp [hxy]]
      simp only [Bool.not_true, Bool.false_eq_true, if_false]
      rw [ih (fun j hj => h j (by simp [hj]))]
      simp [hx, hy, hxy]
    · rw [show (X[i] == Y[i]) = false from by simp [hxy]]
      simp [hx, hy, hxy]

theorem run_eql_ints {P : Program} (w : World) (t : TypeId) {e : TypeId} {n : Nat} {k : IntKind} {i : TypeInfo} (ht : P.underlying t = some (.array n e)) (he : P.underlying e = some (.int k))
    (hi : P.info? e = some i) (hs : i.size = 1) (X Y : List Int) (hX : X.length = n) (hY : Y.length = n) :
    (Op.equalIn 10000 t (.agg (X.map (Value.int k)).toArray) (.agg (Y.map (Value.int k)).toArray)).run P w = .ok (decide (X = Y)) w := by
  have hc : P.cellsOf e = 1 := by unfold Program.cellsOf; rw [hi]; simp [hs]
  rw [run_equalIn_array w 9999 _ _ ht hi, hc, run_eqItems_ints w 9998 he X Y _ (fun j hj => by have := List.mem_range.1 hj; omega)]
  congr 1
  rw [Bool.eq_iff_iff, List.all_eq_true]
  constructor
  · intro h
    rw [decide_eq_true_iff]
    apply List.ext_getElem?
    intro j
    by_cases hj : j < n
    · have := h j (List.mem_range.2 hj)
      simpa using this
    · rw [List.getElem?_eq_none (by omega), List.getElem?_eq_none (by omega)]
  · intro h j _
    rw [decide_eq_true_iff] at h
    subst h
    simp
theorem by8_ints (xs : List Nat) : by8 xs = (xs.map fun x : Nat => (x : Int)).map (Value.int .u8) := by
  unfold by8; rw [List.map_map]; rfl
theorem run_eql_by8 {P : Program} (w : World) (t : TypeId) {e : TypeId} {n : Nat} {i : TypeInfo} (ht : P.underlying t = some (.array n e)) (he : P.underlying e = some (.int .u8))
    (hi : P.info? e = some i) (hs : i.size = 1) (X Y : List Nat) (hX : X.length = n) (hY : Y.length = n) :
    (Op.equalIn 10000 t (.agg (by8 X).toArray) (.agg (by8 Y).toArray)).run P w = .ok (decide (X = Y)) w := by
  rw [by8_ints, by8_ints, run_eql_ints w t ht he hi hs _ _ (by simp [hX]) (by simp [hY])]
  congr 2
  rw [eq_iff_iff]
  constructor
  · intro h
    exact by8_inj (by rw [by8_ints, by8_ints, h])
  · intro h; rw [h]
/-- A row of the call's own, known whole, as a block. -/
theorem Own.row {w : World} {B e g c : Nat} {vs : List Value} (h : Own w B e (some ⟨g, 0, none⟩) c c vs) : w.heap[g]? = some (.cells vs.toArray e (0, 0)) := by
  rcases h.1.2 with ⟨hv, _⟩ | ⟨g', cap, cur, hv, hB, hh, hnc, hcm, hss, htk⟩
  · simp at hv
  · simp at hv
    obtain ⟨rfl, rfl⟩ := hv
    rw [hh]
    have : cur = vs.toArray := by
      apply Array.ext'
      rw [← htk, List.take_of_length_le (by simp; omega)]
    rw [this]
/-- A whole array, or struct, read out of a block known whole. -/
theorem wp_ldarr {P : Program} {o : Oper} {a : Act} {w : World} {K : Act → World → Prop} {Q : Exit → Act → World → Prop} (ty : TypeId) (x : Operand) (ho : o.op = Op.load ty x) (g : Nat)
    (hx : a.eval x = .pointer (some ⟨g, 0, none⟩)) (t : TypeId) (cs : Array Value) (hg : w.heap[g]? = some (.cells cs t (0, 0))) {n e : Nat} (hu : P.underlying ty = some (.array n e))
    (hi : (P.info? ty).map (·.size) = some cs.size) (h : K (a.put o.dst (.agg cs)) w) : Oper.wp P o a w K Q :=
  wp_load_row ty x ho g hx t cs (0, 0) _ hg hu rfl hi h
/-- The same at the list of a plain region's operations, behind a guard that says yes. -/
theorem wpList_ldarr {P : Program} {ops : Array Oper} {rest : List Oper} {o : Oper} {a : Act} {w : World} {Q : Exit → Act → World → Prop} (ty : TypeId) (x : Operand) (ho : o.op = Op.load ty x)
    (hw : Region.wanted o (yielded ops a.tmps) = true) (g : Nat)
    (hx : a.eval x = .pointer (some ⟨g, 0, none⟩)) (t : TypeId) (cs : Array Value) (hg : w.heap[g]? = some (.cells cs t (0, 0))) {n e : Nat} (hu : P.underlying ty = some (.array n e))
    (hi : (P.info? ty).map (·.size) = some cs.size) (h : wpList P ops Q rest (a.put o.dst (.agg cs)) w) : wpList P ops Q (o :: rest) a w :=
  wpList_step fun K hK => by
    rw [if_pos hw]
    exact wp_ldarr ty x ho g hx t cs hg hu hi (hK _ _ h)
/-- A row of the call's own as a range of cells. -/
theorem Own.range {w : World} {B e g c n : Nat} {vs : List Value} (h : Own w B e (some ⟨g, 0, none⟩) n c vs) : w.rangeAt g 0 vs := by
  intro j v hj
  have hjl : j < vs.length := (List.getElem?_eq_some_iff.1 hj).1
  rw [Nat.zero_add, h.cellAt j (by have := h.len; omega)]
  exact hj

/-! A region that draws its order, walked step by step (the walk's own tactic serves one long array to a theorem). -/
section
variable {P : Program} {ops : Array Oper} {Q : Exit → Act → World → Prop} {md : Region.Mode} {S : World → Prop} {fuel : Nat} {listed : Array Bool} {a : Act} {w : World} {oi : Oper} {rest : List Oper}
theorem drop_get {i : Nat} (hi : ops.toList.drop i = oi :: rest) : ops[i]? = some oi := by
  have h : ops.toList[i]? = some oi := by
    rw [← List.head?_drop, hi]; rfl
  simpa using h
theorem held_take (i : Nat) (hi : ops.toList.drop i = oi :: rest) (hs : Region.noSelect ops = true) (hf : Region.free md ops listed i = true) (hr : (Region.ready md ops listed).contains i = true)
    (hQ : ∀ (v : Value) c a w, Q (.panic c) (a.put oi.dst v) w → Q (.panic c) a w) (hw : Region.wanted oi (yielded ops a.tmps) = true) (v : Value) (hy : ∀ w, S w → (execOp a.eval oi).run P w = .ok (.value v) w) (hS : S w)
    (h : wpAnyH P md ops Q S fuel (listed.setIfInBounds i true) (a.put oi.dst v) w) : wpAnyH P md ops Q S (fuel + 1) listed a w :=
  wpAnyH_take (drop_get hi) hs hf hr (hQ v) (Or.inl ⟨hw, hy⟩) hS h
theorem held_bld {f : Operand → Value} {t : TypeId} {v : Value} (ho : oi.op = .build t #[]) (h : ∀ w, (Instr.build t #[]).run P w = .ok v w) (w : World) : (execOp f oi).run P w = .ok (.value v) w := by
  simp only [execOp, ho]
  rw [Sem.run_bind]
  have h2 : (Instr.build t (Array.map (fun (i, x) => (i, f x)) #[])).run P w = .ok v w := by simpa using h w
  rw [h2]
  rfl
theorem held_skip (i : Nat) (hi : ops.toList.drop i = oi :: rest) (hs : Region.noSelect ops = true) (hf : Region.free md ops listed i = true) (hr : (Region.ready md ops listed).contains i = true)
    (hQ : ∀ (v : Value) c a w, Q (.panic c) (a.put oi.dst v) w → Q (.panic c) a w) (hw : Region.wanted oi (yielded ops a.tmps) = false) (hS : S w)
    (h : wpAnyH P md ops Q S fuel (listed.setIfInBounds i true) (a.put oi.dst undef) w) : wpAnyH P md ops Q S (fuel + 1) listed a w :=
  wpAnyH_take (drop_get hi) hs hf hr (hQ undef) (Or.inr ⟨hw, rfl⟩) hS h
theorem held_load (i : Nat) (hi : ops.toList.drop i = oi :: rest) (hs : Region.noSelect ops = true) (hf : Region.free md ops listed i = true) (hr : (Region.ready md ops listed).contains i = true)
    (hQ : ∀ (v : Value) c a w, Q (.panic c) (a.put oi.dst v) w → Q (.panic c) a w) (hw : Region.wanted oi (yielded ops a.tmps) = true)
    (ty : TypeId) (x : Operand) (ho : oi.op = .load ty x) (b : Nat) (cs : List Value) (d : TypeDesc) (hx : a.eval x = .pointer (some ⟨b, 0, none⟩)) (hS' : ∀ w, S w → w.rangeAt b 0 cs)
    (hu : P.underlying ty = some d) (hd : d.isRow = true) (hin : (P.info? ty).map (·.size) = some cs.length) (hS : S w)
    (h : wpAnyH P md ops Q S fuel (listed.setIfInBounds i true) (a.put oi.dst (.agg cs.toArray)) w) : wpAnyH P md ops Q S (fuel + 1) listed a w :=
  wpAnyH_take (drop_get hi) hs hf hr (hQ _) (yieldsIf_load_mid hw ty x ho b 0 hx cs d hS' hu hd hin) hS h
theorem held_call (i : Nat) (hi : ops.toList.drop i = oi :: rest) (hr : Region.ready md ops listed = [i])
    (h : ∀ K' : Act → World → Prop, Shut (∀ a w, S w → (S w → wpAnyH P md ops Q S fuel (listed.setIfInBounds i true) a w) → K' a w) → if Region.wanted oi (yielded ops a.tmps) = true then Oper.wp P oi a w K' Q else K' (a.put oi.dst undef) w) :
    wpAnyH P md ops Q S (fuel + 1) listed a w :=
  wpAnyH_ready hr (by simp) (AllReadyH.cons (drop_get hi) h AllReadyH.nil)
end

/-- append onto a row that is full: it is copied, whatever may be said of the old one. -/
theorem run_app_full {P : Program} {w : World} (B : Nat) (t ty e : TypeId) (i : TypeInfo) (z : Value) (bytes : Nat) (ht : P.underlying t = some (.slice e)) (hi : P.info? e = some i) (hz : i.zero = some z)
    (hsize : i.size = 1) (hby : i.bytes = bytes) (hzs : z.cells.size = 1)
    (A : Addr) (n c : Nat) (xs : List Value) (hs : Sl w (some A) n c xs)
    (A2 : Addr) (m c2 : Nat) (ys : List Value) (hsl : Sl w (some A2) m c2 ys) (hfull : c < n + m) (hbytes : (n + m) * bytes ≤ 140737488355328) (hby0 : 0 < bytes) (hB : B ≤ w.heap.size) :
    ∃ A' c' w', (Builtin.append_ #[t, t] ty #[.slice (some A) n c, .slice (some A2) m c2]).run P w = .ok (.slice A' (n + m) c') w' ∧ Own w' B e A' (n + m) c' (xs ++ ys) ∧ Ext w w' := by
  have hnm : n + m ≤ 140737488355328 := Nat.le_trans (Nat.le_mul_of_pos_right _ hby0) hbytes
  have cells : ∀ (D : Addr) (k d : Nat) (vs : List Value), Sl w (some D) k d vs → ∀ j u, vs[j]? = some u → w.cell? (D.add j) = some u := by
    intro D k d vs h j u hu
    obtain ⟨b, o, hA, hc⟩ := h.cell j u hu
    injection hA with hA
    subst hA
    rw [Addr.add_lit]
    exact hc
  have h63 : n + m ≤ maxLen := by simp only [maxLen]; omega
  have hl : xs.length = n * i.size := by rw [hsize, Nat.mul_one]; exact hs.len
  have hl2 : ys.length = m * i.size := by rw [hsize, Nat.mul_one]; exact hsl.len
  have hr := run_append_grow (P := P) w t ty e i z ht hi hz A n c xs hl (cells A n c xs hs) A2 m c2 ys hl2 (cells A2 m c2 ys hsl) (by omega) (by omega) (growslice_fits (by omega) (by rw [hby]; exact hbytes))
  have hge := grownCap_ge w (n + m) c e
  have hcm : grownCap w (n + m) c e ≤ maxLen := grownCap_le_maxLen w (n + m) c e h63
  refine ⟨_, _, _, hr, ?_, ((Ext.refl w).drew).alloc _⟩
  have hm := Own.made (w := w.drew) (B := B) (e := e) (n := n + m) hB (xs.toArray ++ ys.toArray ++ Builtin.zeroCells z.cells (grownCap w (n + m) c e - (n + m))) (grownCap w (n + m) c e) hcm hge
    (by simp only [Array.size_append, List.size_toArray, size_zeroCells, hzs, hs.len, hsl.len]; omega) ?_
  · have e1 : (xs.toArray ++ ys.toArray ++ Builtin.zeroCells z.cells (grownCap w (n + m) c e - (n + m))).toList.take (n + m) = xs ++ ys := by
      simp only [Array.toList_append]
      rw [List.take_append_of_le_length (by simp [hs.len, hsl.len]), List.take_of_length_le (by simp [hs.len, hsl.len])]
    rw [e1] at hm
    exact hm
  · intro u hu
    simp only [Array.toList_append] at hu
    rw [List.take_append_of_le_length (by simp [hs.len, hsl.len]), List.take_of_length_le (by simp [hs.len, hsl.len])] at hu
    rcases List.mem_append.1 hu with h | h
    · exact hs.one u h
    · exact hsl.one u h
theorem wpList_app_full {P : Program} {w : World} {ops : Array Oper} {rest : List Oper} {o : Oper} {a : Act} {Q : Exit → Act → World → Prop} (hgd : o.guard = none) (s x : Operand) (t : TypeId)
    (ho : o.op = .call { callee := .builtin .append, args := #[s, x], argTypes := #[t, t] })
    (B : Nat) (e : TypeId) (i : TypeInfo) (z : Value) (bytes : Nat) (ht : P.underlying t = some (.slice e)) (hi : P.info? e = some i) (hz : i.zero = some z)
    (hsize : i.size = 1) (hby : i.bytes = bytes) (hzs : z.cells.size = 1)
    (A : Addr) (n c : Nat) (xs : List Value) (hev : a.eval s = .slice (some A) n c) (hs : Sl w (some A) n c xs)
    (A2 : Addr) (m c2 : Nat) (ys : List Value) (hx : a.eval x = .slice (some A2) m c2) (hsl : Sl w (some A2) m c2 ys) (hfull : c < n + m) (hbytes : (n + m) * bytes ≤ 140737488355328) (hby0 : 0 < bytes) (hB : B ≤ w.heap.size)
    (h : ∀ A' c' w', Own w' B e A' (n + m) c' (xs ++ ys) → Ext w w' → wpList P ops Q rest (a.put o.dst (.slice A' (n + m) c')) w') : wpList P ops Q (o :: rest) a w := by
  refine wpList_plain hgd fun K hK => ?_
  obtain ⟨A', c', w', hr, h2, h3⟩ := run_app_full (P := P) (w := w) B t o.type e i z bytes ht hi hz hsize hby hzs A n c xs hs A2 m c2 ys hsl hfull hbytes hby0 hB
  unfold Oper.wp execOp
  simp only [ho, resolve, invoke, builtin, Sem.run_bind, Sem.run_pure, Result.andThen_ok, List.map_toArray, List.map_cons, List.map_nil, hev, hx, hr]
  exact hK _ _ (h A' c' w' h2 h3)
/-- The row of a constant's bytes, marked. -/
theorem Sl.litF (w : World) (cs : Array Value) (e : TypeId) (fz : Nat × Nat) (n : Nat) (hn : cs.size = n) (hm : n ≤ 9223372036854775807) (h1 : ∀ u ∈ cs.toList, u.oneCell' = true) :
    Sl (w.alloc (.cells cs e fz)) (some ⟨w.heap.size, 0, none⟩) n n cs.toList :=
  ⟨by simp [hn], Nat.le_refl _, hm, (fun h => by cases h), (fun k u hk => ⟨_, _, rfl, by
    rw [cell_of_row (w.alloc (.cells cs e fz)) w.heap.size (0 + k) cs e fz (heap_alloc_new w _)]
    simpa using hk⟩), h1⟩
end Go.Proofs.YtmfenegkeiipnaaDoor
