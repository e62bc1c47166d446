/- '==' on structs and arrays of numbers, truths and texts, whatever their depth; parts of them. -/
import Derived.WalkKit
import Derived.WalkLawsBesides
import Derived.DeepKeys
import Derived.Test.YtmfenegkeiipnaaDoorMem
namespace Go.Proofs.YtmfenegkeiipnaaDoor
set_option linter.unusedVariables false
open Go.RowKit

/-- Is a value of a leaf's kind? -/
def cellIs : TypeDesc → Value → Prop
  | .bool, .bool _ => True
  | .int k, .int k' _ => k' = k
  | .string, .string _ => True
  | _, _ => False
def isRowT (P : Program) (t : TypeId) : Bool := match P.underlying t with | some (.array _ _) => true | some (.struct _) => true | _ => false
/-- The fields' leaves, one behind the other. -/
def flatFs (f : TypeId → Option (List TypeDesc)) : List Field → Nat → Option (List TypeDesc)
  | [], _ => some []
  | g :: fs, off => if g.name = "_" ∨ g.offset ≠ off then none else
    match f g.type with
    | none => none
    | some l => match flatFs f fs (off + l.length) with
      | none => none
      | some r => some (l ++ r)
/-- A type's leaves. -/
def flatT (P : Program) : Nat → TypeId → Option (List TypeDesc)
  | 0, _ => none
  | d + 1, t => match P.underlying t with
    | some .bool => if (P.info? t).map (·.size) = some 1 then some [.bool] else none
    | some (.int k) => if (P.info? t).map (·.size) = some 1 then some [.int k] else none
    | some .string => if (P.info? t).map (·.size) = some 1 then some [.string] else none
    | some (.array n e) => match flatT P d e with
      | none => none
      | some l => if (P.info? t).map (·.size) = some (n * l.length) then some (List.replicate n l).flatten else none
    | some (.struct fs) => if P.stoodInHeld t = true then none else match flatFs (flatT P d) fs.toList 0 with
      | none => none
      | some l => if (P.info? t).map (·.size) = some l.length then some l else none
    | _ => none
def Shape (ks : List TypeDesc) (X : List Value) : Prop := X.length = ks.length ∧ ∀ (i : Nat) k v, ks[i]? = some k → X[i]? = some v → cellIs k v
theorem Shape.left {a b : List TypeDesc} {X : List Value} (h : Shape (a ++ b) X) : Shape a (X.take a.length) := by
  have hl := h.1
  rw [List.length_append] at hl
  refine ⟨by rw [List.length_take]; omega, fun i k v hk hv => ?_⟩
  have hi := (List.getElem?_eq_some_iff.1 hk).1
  rw [List.getElem?_take, if_pos hi] at hv
  exact h.2 i k v (by rw [List.getElem?_append_left hi]; exact hk) hv
theorem Shape.right {a b : List TypeDesc} {X : List Value} (h : Shape (a ++ b) X) : Shape b (X.drop a.length) := by
  have hl := h.1
  rw [List.length_append] at hl
  refine ⟨by rw [List.length_drop]; omega, fun i k v hk hv => ?_⟩
  rw [List.getElem?_drop] at hv
  exact h.2 (a.length + i) k v (by rw [List.getElem?_append_right (by omega)]; rw [Nat.add_sub_cancel_left]; exact hk) hv
theorem Shape.one {k : TypeDesc} {X : List Value} (h : Shape [k] X) : ∃ v, X = [v] ∧ cellIs k v := by
  match X, h with
  | [v], h => exact ⟨v, rfl, h.2 0 k v rfl rfl⟩
/-- A value of a type, by its cells. -/
def valT (P : Program) (t : TypeId) (X : List Value) : Value := if isRowT P t = true then .agg X.toArray else X.headD undef
theorem flat_size {P : Program} {d : Nat} {t : TypeId} {ks : List TypeDesc} (h : flatT P d t = some ks) : (P.info? t).map (·.size) = some ks.length := by
  cases d with
  | zero => simp [flatT] at h
  | succ d =>
    unfold flatT at h
    cases hu : P.underlying t with
    | none => simp [hu] at h
    | some kd =>
      rw [hu] at h
      cases kd <;> simp only at h <;> try (cases h; done)
      case bool => split at h <;> simp at h; subst h; assumption
      case int => split at h <;> simp at h; subst h; assumption
      case string => split at h <;> simp at h; subst h; assumption
      case array n e =>
        cases he : flatT P d e with
        | none => rw [he] at h; cases h
        | some l =>
          rw [he] at h
          simp only at h
          split at h
          · rename_i hs
            simp at h
            subst h
            rw [hs]
            simp
          · cases h
      case struct fs =>
        split at h
        · cases h
        · cases he : flatFs (flatT P d) fs.toList 0 with
          | none => rw [he] at h; cases h
          | some l =>
            rw [he] at h
            simp only at h
            split at h
            · rename_i hs
              simp at h
              subst h
              exact hs
            · cases h
theorem flat_leaf {P : Program} {d : Nat} {t : TypeId} {ks : List TypeDesc} (h : flatT P d t = some ks) (hr : isRowT P t = false) : ∃ k, ks = [k] ∧ P.underlying t = some k ∧ (k = .bool ∨ (∃ q, k = .int q) ∨ k = .string) := by
  cases d with
  | zero => simp [flatT] at h
  | succ d =>
    unfold flatT at h
    unfold isRowT at hr
    cases hu : P.underlying t with
    | none => simp [hu] at h
    | some kd =>
      rw [hu] at h hr
      cases kd <;> simp only at h hr <;> try (cases h; done)
      case bool => split at h <;> simp at h; exact ⟨_, h.symm, rfl, .inl rfl⟩
      case int q => split at h <;> simp at h; exact ⟨_, h.symm, rfl, .inr (.inl ⟨q, rfl⟩)⟩
      case string => split at h <;> simp at h; exact ⟨_, h.symm, rfl, .inr (.inr rfl)⟩
      case array => cases hr
      case struct => cases hr
theorem agg_of_row {P : Program} {t : TypeId} (h : isRowT P t = true) (w : World) : (isAgg t).run P w = .ok true w := by
  unfold isRowT at h
  cases hu : P.underlying t with
  | none => simp [hu] at h
  | some kd =>
    rw [hu] at h
    cases kd <;> simp at h
    all_goals simp [isAgg, run_underlying hu]
theorem agg_of_leaf {P : Program} {d : Nat} {t : TypeId} {ks : List TypeDesc} (h : flatT P d t = some ks) (hr : isRowT P t = false) (w : World) : (isAgg t).run P w = .ok false w := by
  obtain ⟨k, _, hu, hk⟩ := flat_leaf h hr
  rcases hk with rfl | ⟨q, rfl⟩ | rfl <;> simp [isAgg, run_underlying hu]
theorem toArray_cut (X : List Value) (off n : Nat) : X.toArray.extract off (off + n) = ((X.drop off).take n).toArray := by
  apply Array.ext'
  simp [List.extract_eq_take_drop]
/-- A part. -/
theorem run_part_flat {P : Program} {d : Nat} {t : TypeId} {ks : List TypeDesc} (h : flatT P d t = some ks) (X : List Value) (off : Nat) (hl : off + ks.length ≤ X.length) (w : World) :
    (part t X.toArray off).run P w = .ok (valT P t ((X.drop off).take ks.length)) w := by
  obtain ⟨i, hi, hs⟩ := Option.map_eq_some_iff.1 (flat_size h)
  unfold valT
  cases hr : isRowT P t with
  | true => simp [part, agg_of_row hr, sizeOf, typeInfo, hi, hs]
  | false =>
    obtain ⟨k, rfl, _, _⟩ := flat_leaf h hr
    simp only [List.length_singleton] at *
    have hlt : off < X.length := by omega
    simp [part, agg_of_leaf h hr, hlt]
    rw [List.drop_eq_getElem_cons hlt]
    rfl
theorem cells_leaf {P : Program} (w : World) {D : Nat} {t : TypeId} {k : TypeDesc} (hu : P.underlying t = some k) (hk : k = .bool ∨ (∃ q, k = .int q) ∨ k = .string) {a b : Value} (ha : cellIs k a) (hb : cellIs k b) :
    ∃ r, (Op.equalIn (D + 1) t a b).run P w = .ok r w ∧ (r = true ↔ a = b) := by
  rcases hk with rfl | ⟨q, rfl⟩ | rfl
  · cases a <;> simp only [cellIs] at ha
    cases b <;> simp only [cellIs] at hb
    exact ⟨_, run_equalIn_bool' (P := P) w D t _ _ hu, by simp⟩
  · cases a <;> simp only [cellIs] at ha
    cases b <;> simp only [cellIs] at hb
    subst ha hb
    exact ⟨_, run_equalIn_int (P := P) w D t _ _ _ _ hu, by simp⟩
  · cases a <;> simp only [cellIs] at ha
    cases b <;> simp only [cellIs] at hb
    rename_i x y
    refine ⟨_, run_equalIn_string (P := P) w D t _ _ hu, ?_⟩
    rw [beq_iff_eq, ByteArray.toList_eq, ByteArray.toList_eq]
    obtain ⟨⟨x⟩⟩ := x
    obtain ⟨⟨y⟩⟩ := y
    simp
theorem take_drop_eq {α : Type} {X Y : List α} (n : Nat) : X = Y ↔ X.take n = Y.take n ∧ X.drop n = Y.drop n := by
  constructor
  · rintro rfl; exact ⟨rfl, rfl⟩
  · rintro ⟨h1, h2⟩
    rw [← List.take_append_drop n X, h1, h2, List.take_append_drop]
/-- What '==' answers on a type: just if the cells are alike. -/
def EqT (P : Program) (D : Nat) (t : TypeId) (ks : List TypeDesc) : Prop :=
  ∀ (w : World) (X Y : List Value), Shape ks X → Shape ks Y → ∃ r, (Op.equalIn D t (valT P t X) (valT P t Y)).run P w = .ok r w ∧ (r = true ↔ X = Y)
theorem eq_fields {P : Program} {D : Nat} {f : TypeId → Option (List TypeDesc)} (hf : ∀ t l, f t = some l → EqT P D t l ∧ ∃ d, flatT P d t = some l) (w : World) :
    ∀ (fs : List Field) (off : Nat) (ks : List TypeDesc), flatFs f fs off = some ks → ∀ X Y : List Value, off ≤ X.length → off ≤ Y.length → Shape ks (X.drop off) → Shape ks (Y.drop off) →
      ∃ r, (Op.eqFields D X.toArray Y.toArray fs).run P w = .ok r w ∧ (r = true ↔ X.drop off = Y.drop off) := by
  intro fs
  induction fs with
  | nil =>
    intro off ks h X Y _ _ hX hY
    simp [flatFs] at h
    subst h
    refine ⟨true, by simp [Op.eqFields], ?_⟩
    have h1 := List.eq_nil_of_length_eq_zero hX.1
    have h2 := List.eq_nil_of_length_eq_zero hY.1
    simp [h1, h2]
  | cons g fs ih =>
    intro off ks h X Y lX lY hX hY
    unfold flatFs at h
    split at h
    · cases h
    rename_i hg
    have hg1 : g.name ≠ "_" := fun e => hg (.inl e)
    have hg2 : g.offset = off := Classical.byContradiction fun e => hg (.inr e)
    cases hl : f g.type with
    | none => rw [hl] at h; cases h
    | some l =>
      rw [hl] at h
      simp only at h
      cases hr : flatFs f fs (off + l.length) with
      | none => rw [hr] at h; cases h
      | some r =>
        rw [hr] at h
        simp at h
        subst h
        obtain ⟨he, d, hd⟩ := hf g.type l hl
        have sX := hX.1
        have sY := hY.1
        rw [List.length_append, List.length_drop] at sX sY
        have pX := run_part_flat hd X off (by omega) w
        have pY := run_part_flat hd Y off (by omega) w
        obtain ⟨b, hb, hbi⟩ := he w _ _ hX.left hY.left
        have hX2 := hX.right
        have hY2 := hY.right
        rw [List.drop_drop] at hX2 hY2
        obtain ⟨b2, hb2, hbi2⟩ := ih (off + l.length) r hr X Y (by omega) (by omega) hX2 hY2
        rw [← hg2] at pX pY
        rw [hg2] at pX pY
        simp only [Op.eqFields, if_pos hg1, Sem.run_bind, hg2, pX, pY, Result.andThen_ok, hb]
        cases b with
        | false =>
          refine ⟨false, by simp, ?_⟩
          rw [take_drop_eq (X := X.drop off) l.length]
          constructor
          · intro h; cases h
          · rintro ⟨h1, _⟩
            exact absurd (hbi.2 h1) (by simp)
        | true =>
          refine ⟨b2, by simpa using hb2, ?_⟩
          rw [take_drop_eq (X := X.drop off) l.length, hbi2, List.drop_drop, List.drop_drop]
          exact ⟨fun h => ⟨hbi.1 rfl, h⟩, fun h => h.2⟩
theorem eq_items {P : Program} {D d : Nat} {e : TypeId} {l : List TypeDesc} (he : EqT P D e l) (hd : flatT P d e = some l) (w : World) :
    ∀ (n i : Nat) (X Y : List Value), (i + n) * l.length ≤ X.length → (i + n) * l.length ≤ Y.length → Shape (List.replicate n l).flatten ((X.drop (i * l.length)).take (n * l.length)) → Shape (List.replicate n l).flatten ((Y.drop (i * l.length)).take (n * l.length)) →
      ∃ r, (Op.eqItems D e l.length X.toArray Y.toArray (List.range' i n)).run P w = .ok r w ∧ (r = true ↔ (X.drop (i * l.length)).take (n * l.length) = (Y.drop (i * l.length)).take (n * l.length)) := by
  intro n
  induction n with
  | zero => intro i X Y _ _ _ _; exact ⟨true, by simp [Op.eqItems], by simp⟩
  | succ n ih =>
    intro i X Y lX lY hX hY
    have q1 : (i + (n + 1)) * l.length = i * l.length + n * l.length + l.length := by rw [Nat.add_mul, Nat.add_mul]; omega
    have q2 : (n + 1) * l.length = n * l.length + l.length := by rw [Nat.add_mul]; omega
    have q3 : (i + 1) * l.length = i * l.length + l.length := by rw [Nat.add_mul]; omega
    have q4 : (i + 1 + n) * l.length = i * l.length + n * l.length + l.length := by rw [Nat.add_mul, Nat.add_mul]; omega
    have hfl : (List.replicate (n + 1) l).flatten = l ++ (List.replicate n l).flatten := by rw [List.replicate_succ, List.flatten_cons]
    have eX : (X.drop (i * l.length)).take ((n + 1) * l.length) = (X.drop (i * l.length)).take l.length ++ (X.drop ((i + 1) * l.length)).take (n * l.length) := by
      rw [q2, Nat.add_comm, List.take_add, List.drop_drop, q3]
    have eY : (Y.drop (i * l.length)).take ((n + 1) * l.length) = (Y.drop (i * l.length)).take l.length ++ (Y.drop ((i + 1) * l.length)).take (n * l.length) := by
      rw [q2, Nat.add_comm, List.take_add, List.drop_drop, q3]
    rw [hfl, eX] at hX
    rw [hfl, eY] at hY
    have t1 : ((X.drop (i * l.length)).take l.length).length = l.length := by rw [List.length_take, List.length_drop]; omega
    have t2 : ((Y.drop (i * l.length)).take l.length).length = l.length := by rw [List.length_take, List.length_drop]; omega
    have a1 := hX.left
    have a2 := hX.right
    have a3 := hY.left
    have a4 := hY.right
    rw [List.take_left' t1] at a1
    rw [List.drop_left' t1] at a2
    rw [List.take_left' t2] at a3
    rw [List.drop_left' t2] at a4
    have pX := run_part_flat hd X (i * l.length) (by omega) w
    have pY := run_part_flat hd Y (i * l.length) (by omega) w
    obtain ⟨b, hb, hbi⟩ := he w _ _ a1 a3
    obtain ⟨b2, hb2, hbi2⟩ := ih (i + 1) X Y (by omega) (by omega) a2 a4
    rw [List.range'_succ]
    simp only [Op.eqItems, Sem.run_bind, pX, pY, Result.andThen_ok, hb]
    rw [eX, eY]
    cases b with
    | false =>
      refine ⟨false, by simp, ?_⟩
      constructor
      · intro h; cases h
      · intro h
        have := (List.append_inj h (by rw [t1, t2])).1
        exact absurd (hbi.2 this) (by simp)
    | true =>
      refine ⟨b2, by simpa using hb2, ?_⟩
      rw [hbi2, hbi.1 rfl]
      exact ⟨fun h => by rw [h], fun h => List.append_cancel_left h⟩
theorem eq_flat {P : Program} : ∀ (d D : Nat) (t : TypeId) (ks : List TypeDesc), d ≤ D → flatT P d t = some ks → EqT P D t ks := by
  intro d
  induction d with
  | zero => intro D t ks _ h; simp [flatT] at h
  | succ d ih =>
    intro D t ks hD h w X Y hX hY
    obtain ⟨D, rfl⟩ : ∃ D', D = D' + 1 := ⟨D - 1, by omega⟩
    cases hr : isRowT P t with
    | false =>
      obtain ⟨k, rfl, hu, hk⟩ := flat_leaf h hr
      obtain ⟨a, rfl, ha⟩ := hX.one
      obtain ⟨b, rfl, hb⟩ := hY.one
      obtain ⟨r, h1, h2⟩ := cells_leaf w (D := D) hu hk ha hb
      refine ⟨r, ?_, by rw [h2]; simp⟩
      unfold valT
      rw [hr]
      exact h1
    | true =>
      unfold valT
      rw [if_pos hr, if_pos hr]
      unfold flatT at h
      unfold isRowT at hr
      cases hu : P.underlying t with
      | none => simp [hu] at h
      | some kd =>
        rw [hu] at h hr
        cases kd <;> simp only at h hr <;> try (cases hr; done)
        case array n e =>
          cases he : flatT P d e with
          | none => rw [he] at h; cases h
          | some l =>
            rw [he] at h
            simp only at h
            split at h
            · simp at h
              subst h
              obtain ⟨i, hi, hs⟩ := Option.map_eq_some_iff.1 (flat_size he)
              have hc : P.cellsOf e = l.length := by unfold Program.cellsOf; rw [hi]; simp [hs]
              have lX := hX.1
              have lY := hY.1
              simp at lX lY
              rw [run_equalIn_array w D _ _ hu hi, hc, List.range_eq_range']
              have := eq_items (ih D e l (by omega) he) he w n 0 X Y (by rw [Nat.zero_add, lX]; exact Nat.le_refl _) (by rw [Nat.zero_add, lY]; exact Nat.le_refl _)
                (by rw [Nat.zero_mul, List.drop_zero, List.take_of_length_le (by rw [lX]; exact Nat.le_refl _)]; exact hX) (by rw [Nat.zero_mul, List.drop_zero, List.take_of_length_le (by rw [lY]; exact Nat.le_refl _)]; exact hY)
              rw [Nat.zero_mul, List.drop_zero, List.drop_zero, List.take_of_length_le (by rw [lX]; exact Nat.le_refl _), List.take_of_length_le (by rw [lY]; exact Nat.le_refl _)] at this
              exact this
            · cases h
        case struct fs =>
          split at h
          · cases h
          · rename_i hst
            cases he : flatFs (flatT P d) fs.toList 0 with
            | none => rw [he] at h; cases h
            | some l =>
              rw [he] at h
              simp only at h
              split at h
              · simp at h
                subst h
                have hfo : P.fieldsOf t = fs := by unfold Program.fieldsOf; rw [hu]
                rw [run_equalIn_struct w D t _ _ (by rw [hfo]; exact hu) (by simpa using hst), hfo]
                have := eq_fields (D := D) (f := flatT P d) (fun t l hl => ⟨ih D t l (by omega) hl, d, hl⟩) w fs.toList 0 l he X Y (Nat.zero_le _) (Nat.zero_le _) (by simpa using hX) (by simpa using hY)
                simpa using this
              · cases h
/-- '==' on a row type. -/
theorem run_eql_flat {P : Program} {d : Nat} {t : TypeId} {ks : List TypeDesc} (h : flatT P d t = some ks) (hd : d ≤ 10000) (hr : isRowT P t = true) (w : World) (X Y : List Value) (hX : Shape ks X) (hY : Shape ks Y) [Decidable (X = Y)] :
    (Op.equalIn 10000 t (.agg X.toArray) (.agg Y.toArray)).run P w = .ok (decide (X = Y)) w := by
  obtain ⟨r, h1, h2⟩ := eq_flat d 10000 t ks hd h w X Y hX hY
  unfold valT at h1
  rw [if_pos hr, if_pos hr] at h1
  rw [h1]
  congr 1
  rw [Bool.eq_iff_iff, h2, decide_eq_true_iff]
end Go.Proofs.YtmfenegkeiipnaaDoor
