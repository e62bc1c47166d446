/- '==' on arrays of integers, whatever their length. -/
import Derived.WalkKit
import Derived.WalkLawsBesides
import Derived.DeepKeys
import Derived.Test.YthfkacgehdfciaaMem
namespace Go.Proofs.Ythfkacgehdfciaa
open Go.RowKit

theorem run_eqItems_ints {P : Program} (w : World) (d : Nat) {e : TypeId} {k : IntKind} (he : P.underlying e = some (.int k)) (X Y : List Int) :
    ∀ l : List Nat, (∀ i ∈ l, i < X.length ∧ i < Y.length) →
      (Op.eqItems (d + 1) e 1 (X.map (Value.int k)).toArray (Y.map (Value.int k)).toArray l).run P w = .ok (l.all fun i => X[i]? == Y[i]?) w := by
  intro l
  induction l with
  | nil => intro _; simp [Op.eqItems]
  | cons i l ih =>
    intro h
    obtain ⟨hx, hy⟩ := h i (by simp)
    have hk : P.plainKey e = true := by simp [Program.plainKey, he]
    have h1 := run_part_plain (P := P) w (e := e) hk (xs := (X.map (Value.int k)).toArray) (off := i * 1) (v := .int k X[i]) (by simp [hx])
    have h2 := run_part_plain (P := P) w (e := e) hk (xs := (Y.map (Value.int k)).toArray) (off := i * 1) (v := .int k Y[i]) (by simp [hy])
    have h3 := run_equalIn_int (P := P) w d e k k X[i] Y[i] he
    simp only [Op.eqItems, Sem.run_bind, h1, h2, h3, Result.andThen_ok, List.all_cons]
    by_cases hxy : X[i] = Y[i]
    · rw [show (X[i] == Y[i]) = true from by simp [hxy]]
      simp only [Bool.not_true, Bool.false_eq_true, if_false]
      rw [ih (fun j hj => h j (by simp [hj]))]
      simp [hx, hy, hxy]
    · rw [show (X[i] == Y[i]) = false from by simp [hxy]]
      simp [hx, hy, hxy]

theorem run_eql_ints {P : Program} (w : World) (t : TypeId) {e : TypeId} {n : Nat} {k : IntKind} {i : TypeInfo} (ht : P.underlying t = some (.array n e)) (he : P.underlying e = some (.int k))
    (hi : P.info? e = some i) (hs : i.size = 1) (X Y : List Int) (hX : X.length = n) (hY : Y.length = n) :
    (Op.equalIn 10000 t (.agg (X.map (Value.int k)).toArray) (.agg (Y.map (Value.int k)).toArray)).run P w = .ok (decide (X = Y)) w := by
  have hc : P.cellsOf e = 1 := by unfold Program.cellsOf; rw [hi]; simp [hs]
  rw [run_equalIn_array w 9999 _ _ ht hi, hc, run_eqItems_ints w 9998 he X Y _ (fun j hj => by have := List.mem_range.1 hj; omega)]
  congr 1
  rw [Bool.eq_iff_iff, List.all_eq_true]
  constructor
  · intro h
    rw [decide_eq_true_iff]
    apply List.ext_getElem?
    intro j
    by_cases hj : j < n
    · have := h j (List.mem_range.2 hj)
      simpa using this
    · rw [List.getElem?_eq_none (by omega), List.getElem?_eq_none (by omega)]
  · intro h j _
    rw [decide_eq_true_iff] at h
    subst h
    simp
theorem by8_ints (xs : List Nat) : by8 xs = (xs.map fun x : Nat => (x : Int)).map (Value.int .u8) := by
  unfold by8; rw [List.map_map]; rfl
theorem run_eql_by8 {P : Program} (w : World) (t : TypeId) {e : TypeId} {n : Nat} {i : TypeInfo} (ht : P.underlying t = some (.array n e)) (he : P.underlying e = some (.int .u8))
    (hi : P.info? e = some i) (hs : i.size = 1) (X Y : List Nat) (hX : X.length = n) (hY : Y.length = n) :
    (Op.equalIn 10000 t (.agg (by8 X).toArray) (.agg (by8 Y).toArray)).run P w = .ok (decide (X = Y)) w := by
  rw [by8_ints, by8_ints, run_eql_ints w t ht he hi hs _ _ (by simp [hX]) (by simp [hY])]
  congr 2
  rw [eq_iff_iff]
  constructor
  · intro h
    exact by8_inj (by rw [by8_ints, by8_ints, h])
  · intro h; rw [h]
/-- A row of the call's own, known whole, as a block. -/
theorem Own.row {w : World} {B e g c : Nat} {vs : List Value} (h : Own w B e (some ⟨g, 0, none⟩) c c vs) : w.heap[g]? = some (.cells vs.toArray e (0, 0)) := by
  rcases h.1.2 with ⟨hv, _⟩ | ⟨g', cap, cur, hv, hB, hh, hnc, hcm, hss, htk⟩
  · simp at hv
  · simp at hv
    obtain ⟨rfl, rfl⟩ := hv
    rw [hh]
    have : cur = vs.toArray := by
      apply Array.ext'
      rw [← htk, List.take_of_length_le (by simp; omega)]
    rw [this]
/-- A whole array, or struct, read out of a block known whole. -/
theorem wp_ldarr {P : Program} {o : Oper} {a : Act} {w : World} {K : Act → World → Prop} {Q : Exit → Act → World → Prop} (ty : TypeId) (x : Operand) (ho : o.op = Op.load ty x) (g : Nat)
    (hx : a.eval x = .pointer (some ⟨g, 0, none⟩)) (t : TypeId) (cs : Array Value) (hg : w.heap[g]? = some (.cells cs t (0, 0))) {n e : Nat} (hu : P.underlying ty = some (.array n e))
    (hi : (P.info? ty).map (·.size) = some cs.size) (h : K (a.put o.dst (.agg cs)) w) : Oper.wp P o a w K Q :=
  wp_load_row ty x ho g hx t cs (0, 0) _ hg hu rfl hi h
/-- The same at the list of a plain region's operations, behind a guard that says yes. -/
theorem wpList_ldarr {P : Program} {ops : Array Oper} {rest : List Oper} {o : Oper} {a : Act} {w : World} {Q : Exit → Act → World → Prop} (ty : TypeId) (x : Operand) (ho : o.op = Op.load ty x)
    (hw : Region.wanted o (yielded ops a.tmps) = true) (g : Nat)
    (hx : a.eval x = .pointer (some ⟨g, 0, none⟩)) (t : TypeId) (cs : Array Value) (hg : w.heap[g]? = some (.cells cs t (0, 0))) {n e : Nat} (hu : P.underlying ty = some (.array n e))
    (hi : (P.info? ty).map (·.size) = some cs.size) (h : wpList P ops Q rest (a.put o.dst (.agg cs)) w) : wpList P ops Q (o :: rest) a w :=
  wpList_step fun K hK => by
    rw [if_pos hw]
    exact wp_ldarr ty x ho g hx t cs hg hu hi (hK _ _ h)
end Go.Proofs.Ythfkacgehdfciaa
