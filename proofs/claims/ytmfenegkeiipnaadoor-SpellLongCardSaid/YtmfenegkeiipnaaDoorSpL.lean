/- Lines of operations: what the program reads: the preparations. -/
import Derived.Test.YtmfenegkeiipnaaDoorSpK
import Derived.Test.YtmfenegkeiipnaaDoorAgg
import Derived.WalkMore
namespace Go.Proofs.YtmfenegkeiipnaaDoor
set_option linter.unusedVariables false
set_option linter.unusedSimpArgs false
open Go.RowKit

def opL (o : Opp) (A : Option Addr) (n c : Nat) : List Value := [.int .i64 o.k, .int .i64 o.fd, .int .i64 o.n, .int .i64 o.off, .int .i64 o.fl, .string (toB o.pa), .string (toB o.to), .slice A n c]
theorem opL_len (o : Opp) (A : Option Addr) (n c : Nat) : (opL o A n c).length = 8 := rfl
theorem opL_arr (o : Opp) (A : Option Addr) (n c : Nat) : (opL o A n c).toArray = opV o A n c := rfl
theorem opL_one (o : Opp) (A : Option Addr) (n c : Nat) : ∀ u ∈ opL o A n c, u.oneCell' = true := by
  intro u hu
  simp [opL] at hu
  rcases hu with rfl | rfl | rfl | rfl | rfl | rfl | rfl | rfl <;> rfl
theorem zero_op : (Tryd.prog.info? 24).map (·.zero) = some (some (.agg (opL noOp none 0 0).toArray)) := by kernel_rfl
theorem info_op : (Tryd.prog.info? 24).map (·.size) = some 8 := by kernel_rfl
theorem agg_op (w : World) : (isAgg 24).run Tryd.prog w = .ok true w := by kernel_rfl
theorem bld_op (w : World) : (Instr.build 24 #[]).run Tryd.prog w = .ok (.agg (opL noOp none 0 0).toArray) w := by kernel_rfl
/-- A row that was read: none, or one of the call's own, from block B on, marked. -/
def DatA (w : World) (B : Nat) (A : Option Addr) (n c : Nat) (l : L8) : Prop :=
  (A = none ∧ n = 0 ∧ c = 0 ∧ l = []) ∨ ∃ g fz cs, A = some ⟨g, 0, none⟩ ∧ B ≤ g ∧ w.heap[g]? = some (.cells cs 5 fz) ∧ fz = (cs.size, cs.size + 1) ∧ l.length = n ∧ n ≤ c ∧ c = cs.size ∧ c ≤ 9223372036854775807 ∧ cs.toList.take n = by8 (nat8 l)
theorem DatA.nilS (w : World) (B : Nat) : DatA w B none 0 0 [] := Or.inl ⟨rfl, rfl, rfl, rfl⟩
theorem DatA.ext {w w' : World} {B : Nat} {A : Option Addr} {n c : Nat} {l : L8} (h : DatA w B A n c l) (hE : Ext w w') : DatA w' B A n c l := by
  rcases h with h | ⟨g, fz, cs, h1, h2, h3, h4⟩
  · exact Or.inl h
  · refine Or.inr ⟨g, fz, cs, h1, h2, ?_, h4⟩
    have hlt := (Array.getElem?_eq_some_iff.1 h3).1
    exact (hE.block _ hlt).trans h3
theorem DatA.setCell {w : World} {B : Nat} {A : Option Addr} {n c : Nat} {l : L8} (h : DatA w B A n c l) {b i : Nat} (hb : b < B) (u : Value) : DatA (w.setCell ⟨b, i, none⟩ u) B A n c l := by
  rcases h with h | ⟨g, fz, cs, h1, h2, h3, h4⟩
  · exact Or.inl h
  · refine Or.inr ⟨g, fz, cs, h1, h2, ?_, h4⟩
    rw [← h3]
    unfold World.setCell
    simp [Array.getElem?_modify]
    omega
theorem DatA.sl {w : World} {B : Nat} {A : Option Addr} {n c : Nat} {l : L8} (h : DatA w B A n c l) : Sl w A n c (by8 (nat8 l)) := by
  rcases h with ⟨rfl, rfl, rfl, rfl⟩ | ⟨g, fz, cs, rfl, h2, h3, h4, h5, h6, h7, h8, h9⟩
  · exact Sl.nilS w
  · have hl : (by8 (nat8 l)).length = n := by rw [by8_len, nat8_len, h5]
    refine ⟨hl, h6, h8, (fun e => by cases e), (fun k u hk => ⟨g, 0, rfl, ?_⟩), by8_one _⟩
    rw [Nat.zero_add]
    unfold World.cell?
    simp only [h3]
    have hkn : k < n := by rw [← hl]; exact (List.getElem?_eq_some_iff.1 hk).1
    have e : cs[k]? = (cs.toList.take n)[k]? := by rw [List.getElem?_take, if_pos hkn, Array.getElem?_toList]
    rw [e, h9, hk]
    rfl
theorem conv_data (l : L8) (w : World) (hl : l.length ≤ 1000000) : ∃ c w', (convert 9 22 (.string (toB l))).run Tryd.prog w = .ok (.slice (some ⟨w.heap.size, 0, none⟩) l.length c) w' ∧ Ext w w' ∧ DatA w' w.heap.size (some ⟨w.heap.size, 0, none⟩) l.length c l := by
  have hs := toB_size l
  have hg := grownCap_ge w (toB l).size 0 5
  have hg2 := grownCap_le_maxLen w (toB l).size 0 5 (by simp only [maxLen]; omega)
  have hsz : (Lib.bytesCells w 5 (toB l)).size = grownCap w (toB l).size 0 5 := by
    unfold Lib.bytesCells
    have : (toB l).data.size = (toB l).size := rfl
    rw [Array.size_append, Array.size_map, Array.size_replicate, this]
    omega
  refine ⟨grownCap w (toB l).size 0 5, Lib.bytesWorld w 5 (toB l), ?_, bw_ext _ _ _, Or.inr ⟨w.heap.size, _, _, rfl, Nat.le_refl _, Lib.bytesWorld_at_new w 5 (toB l), rfl, rfl, by omega, hsz.symm, by simp only [maxLen] at hg2; omega, ?_⟩⟩
  · have h := Lib.run_convert_string_bytes w 9 22 5 (toB l) Tryd.underlying9 Tryd.underlying22 Tryd.underlying5
    rw [h, hs]
  · unfold Lib.bytesCells
    rw [Array.toList_append, Array.toList_map, List.take_append_of_le_length (by rw [List.length_map]; exact Nat.le_of_eq rfl)]
    rw [List.take_of_length_le (by rw [List.length_map]; exact Nat.le_of_eq rfl)]
    unfold by8 nat8
    rw [List.map_map]
    rfl
/-- A number heard, or a text. -/
theorem fieldS_by {o : Opp} {p : L8} (h : isB (keyOf p) = true) : fieldS o p = some (setB o (keyOf p) (unhex (valOf p))) := by unfold fieldS; rw [if_pos h]
theorem fieldS_num {o : Opp} {p : L8} {v : Int} (h : isB (keyOf p) = false) (hv : numS (valOf p) = some v) : fieldS o p = some (setN o (keyOf p) v) := by
  unfold fieldS
  rw [if_neg (by rw [h]; decide)]
  unfold numS at hv
  split at hv
  · rename_i x hx
    rw [hx]
    injection hv with hv
    rw [hv]
  · cases hv
theorem fieldS_no {o : Opp} {p : L8} (h : isB (keyOf p) = false) (hv : numS (valOf p) = none) : fieldS o p = none := by
  unfold fieldS
  rw [if_neg (by rw [h]; decide)]
  unfold numS at hv
  rcases h2 : Lib.atoiAll (valOf p) with v | _ | _
  · rw [h2] at hv; cases hv
  · rfl
  · rfl
theorem foldS_cons {o : Opp} {p : L8} {ps : List L8} : foldS o (p :: ps) = match fieldS o p with | some o' => foldS o' ps | none => none := rfl
theorem key_len (p : L8) : (keyOf p).length ≤ p.length := by unfold keyOf; exact (List.takeWhile_prefix _).length_le
theorem val_len (p : L8) : (valOf p).length ≤ p.length := by
  unfold valOf
  rw [List.length_drop]
  have := (List.dropWhile_suffix (fun x : UInt8 => x != 61) (l := p)).length_le
  omega
end Go.Proofs.YtmfenegkeiipnaaDoor
