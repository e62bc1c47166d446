/- Lines of operations: what was answered is written over. -/
import Derived.Test.YtmfenegkeiipnaaDoorSpO
import Derived.Laws.IdiomCopy
namespace Go.Proofs.YtmfenegkeiipnaaDoor
set_option linter.unusedVariables false
set_option linter.unusedSimpArgs false
open Go.RowKit

/-- A marked row of bytes of the call's own. -/
def RowM (w : World) (g n c : Nat) : Prop := ∃ cs fz, w.heap[g]? = some (.cells cs 5 fz) ∧ fz = (c, c + 1) ∧ cs.size = c ∧ n ≤ c ∧ c ≤ 9223372036854775807 ∧ ∃ xs : List Nat, cs.toList.take n = by8 xs
theorem RowM.cell {w : World} {g n c i : Nat} (h : RowM w g n c) (hi : i < n) : ∃ u, w.cell? ⟨g, i, none⟩ = some u := by
  obtain ⟨cs, fz, h1, h2, h3, h4, h5, h6⟩ := h
  refine ⟨cs[i]'(by omega), ?_⟩
  unfold World.cell?
  simp only [h1]
  rw [Array.getElem?_eq_getElem (by omega)]
  rfl
theorem RowM.cellc {w : World} {g n c i : Nat} (h : RowM w g n c) (hi : i < c) : ∃ u, w.cell? ⟨g, i, none⟩ = some u := by
  obtain ⟨cs, fz, h1, h2, h3, h4, h5, h6⟩ := h
  refine ⟨cs[i]'(by omega), ?_⟩
  unfold World.cell?
  simp only [h1]
  rw [Array.getElem?_eq_getElem (by omega)]
  rfl
theorem RowM.frozen {w : World} {g n c i : Nat} (h : RowM w g n c) (hi : i < c) : w.frozen? ⟨g, i, none⟩ = false := by
  obtain ⟨cs, fz, h1, h2, h3, h4, h5, h6⟩ := h
  unfold World.frozen?
  simp only [h1, h2]
  simp
  omega
theorem RowM.set {w : World} {g n c i : Nat} (h : RowM w g n c) (hi : i < n) (x : Nat) : RowM (w.setCell ⟨g, i, none⟩ (.int .u8 (x : Int))) g n c := by
  obtain ⟨cs, fz, h1, h2, h3, h4, h5, xs, h6⟩ := h
  refine ⟨cs.setIfInBounds i (.int .u8 (x : Int)), fz, ?_, h2, by simp [h3], h4, h5, xs.set i x, ?_⟩
  · unfold World.setCell
    simp [Array.getElem?_modify, h1]
  · rw [Array.toList_setIfInBounds, List.take_set, h6, by8_set]
theorem RowM.ext {w w' : World} {g n c : Nat} (h : RowM w g n c) (hE : Ext w w') : RowM w' g n c := by
  obtain ⟨cs, fz, h1, h2⟩ := h
  exact ⟨cs, fz, (hE.block _ (Array.getElem?_eq_some_iff.1 h1).1).trans h1, h2⟩
theorem RowM.sl {w : World} {g n c : Nat} (h : RowM w g n c) : ∃ xs : List Nat, Sl w (some ⟨g, 0, none⟩) n c (by8 xs) := by
  obtain ⟨cs, fz, h1, h2, h3, h4, h5, xs, h6⟩ := h
  have hl : (by8 xs).length = n := by
    rw [← h6, List.length_take, Array.length_toList]
    omega
  refine ⟨xs, hl, h4, h5, (fun e => by cases e), (fun k u hk => ⟨g, 0, rfl, ?_⟩), by8_one _⟩
  rw [Nat.zero_add]
  unfold World.cell?
  simp only [h1]
  have hkn : k < n := by rw [← hl]; exact (List.getElem?_eq_some_iff.1 hk).1
  have e : cs[k]? = (cs.toList.take n)[k]? := by rw [List.getElem?_take, if_pos hkn, Array.getElem?_toList]
  rw [e, h6, hk]
  rfl
/-- One byte appended to such a row: wherever it comes to lie, what is older stays. -/
theorem run_appM {w w0 : World} (ty : TypeId) (g n c : Nat) (h : RowM w g n c) (hn : n ≤ 1000000) (A2 : Addr) (x : Nat) (hsl : Sl w (some A2) 1 1 (by8 [x])) (hE : Ext w0 w) (hg : w0.heap.size ≤ g) :
    ∃ v w', (Builtin.append_ #[22, 22] ty #[.slice (some ⟨g, 0, none⟩) n c, .slice (some A2) 1 1]).run Tryd.prog w = .ok v w' ∧ Ext w0 w' := by
  obtain ⟨i0, hi0, hz0, hz1, hz2⟩ := info_parts info_u8
  by_cases hroom : n + 1 ≤ c
  · have hnews : ∀ j u, (by8 [x])[j]? = some u → w.cell? (A2.add j) = some u := by
      intro j u hu
      obtain ⟨b, o, hA, hc⟩ := hsl.cell j u hu
      injection hA with hA
      subst hA
      rw [Addr.add_lit]
      exact hc
    have hf := run_firstCells_some (P := Tryd.prog) w i0.size 1 A2 1 1 (by8 [x]) (by rw [hz1]; rfl) hnews
    have hst := run_storeCells_cells (P := Tryd.prog) g n (by8 [x]) 0 w (by
      intro j hj
      obtain ⟨u, hu⟩ := h.cellc (i := n + 0 + j) (by simp [by8] at hj; omega)
      rw [hu]
      rfl) (by
      intro j hj
      exact h.frozen (by simp [by8] at hj; omega)) (by8_one _)
    rw [hz1] at hf
    refine ⟨.slice (some ⟨g, 0, none⟩) (n + 1) c, w.setCells g (n + 0) (by8 [x]), ?_, hE.setCell (p := ⟨g, n + 0, none⟩) hg (.int .u8 (x : Int))⟩
    simp [Builtin.append_, run_underlying Tryd.underlying22, sizeOf, typeInfo, hi0, hz1, Builtin.lenOf, hroom, hf, Addr.add_lit, hst]
  · obtain ⟨xs, hs⟩ := h.sl
    obtain ⟨A', c', w', h1, h2, h3⟩ := run_app_full (P := Tryd.prog) (w := w) w.heap.size 22 ty 5 i0 _ 1 Tryd.underlying22 hi0 hz0 hz1 hz2 rfl ⟨g, 0, none⟩ n c (by8 xs) hs A2 1 1 (by8 [x]) hsl (by omega) (by omega) (by omega) (Nat.le_refl _)
    exact ⟨_, w', h1, hE.trans h3⟩
theorem wpList_appM {w w0 : World} {ops : Array Oper} {rest : List Oper} {o : Oper} {a : Act} {Q : Exit → Act → World → Prop} (hgd : o.guard = none) (s x : Operand)
    (ho : o.op = .call { callee := .builtin .append, args := #[s, x], argTypes := #[22, 22] })
    (g n c : Nat) (hM : RowM w g n c) (hn : n ≤ 1000000) (hs : a.eval s = .slice (some ⟨g, 0, none⟩) n c) (A2 : Addr) (b : Nat) (hx : a.eval x = .slice (some A2) 1 1) (hsl : Sl w (some A2) 1 1 (by8 [b])) (hE : Ext w0 w) (hg : w0.heap.size ≤ g)
    (h : ∀ v w', Ext w0 w' → wpList Tryd.prog ops Q rest (a.put o.dst v) w') : wpList Tryd.prog ops Q (o :: rest) a w := by
  refine wpList_plain hgd fun K hK => ?_
  obtain ⟨v, w', hr, h2⟩ := run_appM (w := w) o.type g n c hM hn A2 b hsl hE hg
  unfold Oper.wp execOp
  simp only [ho, resolve, invoke, builtin, Sem.run_bind, Sem.run_pure, Result.andThen_ok, List.map_toArray, List.map_cons, List.map_nil, hs, hx, hr]
  exact hK _ _ (h v w' h2)
set_option maxHeartbeats 1000000 in
theorem f_OverM (w w0 : World) (g n c : Nat) (hM : RowM w g n c) (hn : n ≤ 1000000) (hE : Ext w0 w) (hg : w0.heap.size ≤ g) :
    Calls Tryd.prog 13 #[.slice (some ⟨g, 0, none⟩) n c] w fun e w' => e = .returned (.tuple #[]) ∧ Ext w0 w' := by
  go_enter Tryd.func13, Tryd.ntmps13
  go_wp2_with fail
  go_loopw [2] (fun i wr => ∃ k : Nat, k ≤ n ∧ i = .int .i64 k ∧ RowM wr g n c ∧ Ext w0 wr) (fun i _ => n - (intOf i).toNat)
  case atStart => exact ⟨0, by omega, rfl, hM, hE⟩
  case round =>
    clear hM hE
    obtain ⟨k, hk, rfl, hM, hE⟩ := hrel
    have hnc : n ≤ c := by obtain ⟨_, _, _, _, _, h, _⟩ := hM; exact h
    by_cases hlt : k < n
    · obtain ⟨u, hc⟩ := hM.cell hlt
      have hf := hM.frozen (i := k) (by omega)
      have i1 : (k : Int) < (n : Int) := by omega
      have HM := hide (hM.set hlt 238)
      have HE := hide (hE.setCell (p := ⟨g, k, none⟩) hg (.int .u8 (238 : Int)))
      clear hM hE
      go_wp2_with fail
      go_roundw
      case rel => exact ⟨k + 1, by omega, by go_num, HM.out, HE.out⟩
      case measure => simp [intOf] <;> omega
    · obtain rfl : k = n := by omega
      have hM2 := hM.ext ((Ext.refl wr).alloc (.cells #[.int .u8 238] 5))
      have hE2 := hE.alloc (.cells #[.int .u8 238] 5)
      have hs2 : Sl (wr.alloc (.cells #[.int .u8 238] 5)) (some ⟨wr.heap.size, 0, none⟩) 1 1 (by8 [238]) := Sl.lit wr #[.int .u8 238] 5 1 rfl (by omega) (by simp [Value.oneCell'])
      go_wp2_with (at_builtin; refine wpList_appM rfl (.tmp 12) (.tmp 13) rfl g k c hM2 hn rfl _ 238 rfl hs2 hE2 hg ?_; intro v w1 hE1)
      go_end0
      exact ⟨rfl, hE1⟩
theorem f_OverData (w w0 : World) (B : Nat) (A : Option Addr) (n c : Nat) (l : L8) (hD : DatA w B A n c l) (hn : n ≤ 1000000) (hE : Ext w0 w) (hB : w0.heap.size ≤ B) :
    Calls Tryd.prog 13 #[.slice A n c] w fun e w' => e = .returned (.tuple #[]) ∧ Ext w0 w' := by
  rcases hD with ⟨rfl, rfl, rfl, rfl⟩ | ⟨g, fz, cs, rfl, h2, h3, h4, h5, h6, h7, h8, h9⟩
  · refine (OverBytes w.heap.size none 0 0 [] w (Own.nilS _ _ _) (Nat.le_refl _) (by omega)).mono ?_
    rintro e w' ⟨rfl, hG⟩
    exact ⟨rfl, hE.grown hG (fun k hk => by simp [Value.ownBlock] at hk)⟩
  · exact f_OverM w w0 g n c ⟨cs, fz, h3, by rw [h4, h7], h7.symm, h6, h8, nat8 l, h9⟩ hn hE (by omega)
end Go.Proofs.YtmfenegkeiipnaaDoor
