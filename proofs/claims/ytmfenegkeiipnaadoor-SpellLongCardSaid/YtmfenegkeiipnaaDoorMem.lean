/- Memory words of my own: a slice that reads as a list (Sl), a slice that the call owns (Own), worlds that only grew (Ext), and the laws of the walk over them. Plain theorems over any program. -/
import Derived.WalkKit
import Derived.WalkLawsBesides
import Derived.WalkSpells
import Derived.Laws.CopyOwn
import Derived.Laws.AppendOwnNone
import Derived.Maps.AppendAt
import Derived.Deep.Draws
import Derived.Deep.AppendLies
import Derived.Lib.AppendStr
namespace Go.Proofs.YtmfenegkeiipnaaDoor
open Go.RowKit

theorem hide {p : Prop} (h : p) : Hid p := h

/-- All blocks of w are in w' as they were. -/
def Ext (w w' : World) : Prop := Below w.heap.size w w'

theorem Ext.refl (w : World) : Ext w w := Below.refl _ _
theorem Ext.size {w w' : World} (h : Ext w w') : w.heap.size ≤ w'.heap.size := Below.size h
theorem Ext.trans {a b c : World} (h : Ext a b) (k : Ext b c) : Ext a c := Below.trans h (Below.mono k h.size)
theorem Ext.drew {a w : World} (h : Ext a w) : Ext a w.drew := Below.drew h
theorem Ext.drewN {a w : World} (h : Ext a w) (n : Nat) : Ext a (w.drewN n) := ⟨h.os, h.tape, h.output, h.size, h.block⟩
theorem Ext.alloc {a w : World} (h : Ext a w) (o : Obj) : Ext a (w.alloc o) := Below.alloc h h.size o
theorem Ext.setCell {a w : World} (h : Ext a w) {p : Addr} (hp : a.heap.size ≤ p.block) (u : Value) : Ext a (w.setCell p u) := Below.setCell h hp u
theorem Ext.grown {a w w' : World} {row : Option Nat} (h : Ext a w) (hg : w.grownBy w' row) (hr : ∀ k, row = some k → a.heap.size ≤ k) : Ext a w' := Below.grown h hg h.size hr
theorem Ext.cell {w w' : World} (h : Ext w w') {p : Addr} {u : Value} (hc : w.cell? p = some u) : w'.cell? p = some u := by
  rw [Below.cell h (World.block_lt_of_cell? w p hc)]; exact hc
theorem Ext.frozen {w w' : World} (h : Ext w w') {p : Addr} (hp : p.block < w.heap.size) : w'.frozen? p = w.frozen? p := Below.frozen h hp

/-- The slice value '.slice A n c' reads as vs. -/
structure Sl (w : World) (A : Option Addr) (n c : Nat) (vs : List Value) : Prop where
  len : vs.length = n
  nc : n ≤ c
  cm : c ≤ 9223372036854775807
  nil : A = none → c = 0
  cell : ∀ k u, vs[k]? = some u → ∃ b o, A = some ⟨b, o, none⟩ ∧ w.cell? ⟨b, o + k, none⟩ = some u
  one : ∀ u ∈ vs, u.oneCell' = true

theorem Sl.ext {w w' : World} {A : Option Addr} {n c : Nat} {vs : List Value} (h : Sl w A n c vs) (hE : Ext w w') : Sl w' A n c vs :=
  ⟨h.len, h.nc, h.cm, h.nil, fun k u hk => by
    obtain ⟨b, o, rfl, hc⟩ := h.cell k u hk
    exact ⟨b, o, rfl, hE.cell hc⟩, h.one⟩

theorem Sl.at_ {w : World} {A : Option Addr} {n c : Nat} {vs : List Value} (h : Sl w A n c vs) {k : Nat} (hk : k < n) :
    ∃ b o u, A = some ⟨b, o, none⟩ ∧ Hid (vs[k]? = some u) ∧ w.cell? ⟨b, o + k, none⟩ = some u := by
  have hl : k < vs.length := by have := h.len; omega
  obtain ⟨b, o, hA, hc⟩ := h.cell k _ (List.getElem?_eq_getElem hl)
  exact ⟨b, o, _, hA, List.getElem?_eq_getElem hl, hc⟩

theorem Sl.nilS (w : World) : Sl w none 0 0 [] := ⟨rfl, Nat.le_refl _, by omega, fun _ => rfl, fun k u h => by simp at h, fun u h => by simp at h⟩

theorem Sl.pre {w : World} {A : Option Addr} {n c m : Nat} {vs : List Value} (h : Sl w A n c vs) (hm : m ≤ n) : Sl w A m c (vs.take m) :=
  ⟨by rw [List.length_take, h.len]; omega, by have := h.nc; omega, h.cm, h.nil, (fun k u hk => by
    rw [List.getElem?_take] at hk
    split at hk
    · exact h.cell k u hk
    · cases hk), fun u hu => h.one u (List.mem_of_mem_take hu)⟩

/-- A cut from l on: the address as the walk spells it. -/
theorem Sl.cut {w : World} {A : Option Addr} {n c l : Nat} {vs : List Value} (h : Sl w A n c vs) (hl : l ≤ n) :
    Sl w (if c = l then A else A.map (·.add l)) (n - l) (c - l) (vs.drop l) := by
  refine ⟨by rw [List.length_drop, h.len], by have := h.nc; omega, by have := h.cm; omega, ?_, ?_, fun u hu => h.one u (List.mem_of_mem_drop hu)⟩
  · split
    · intro hA; have := h.nil hA; omega
    · intro hA
      cases A with
      | none => have := h.nil rfl; omega
      | some a => simp at hA
  · intro k u hk
    rw [List.getElem?_drop] at hk
    obtain ⟨b, o, hA, hc⟩ := h.cell _ u hk
    have hlt : l + k < n := by
      have := (List.getElem?_eq_some_iff.1 hk).1
      have := h.len
      omega
    have hnc := h.nc
    rw [if_neg (by omega)]
    subst hA
    exact ⟨b, o + l, by simp [Addr.add_lit], by rw [Nat.add_assoc]; exact hc⟩

/-- A slice whose row, from its head on, is the call's own (blocks from B on). -/
def Own (w : World) (B e : Nat) (A : Option Addr) (n c : Nat) (vs : List Value) : Prop :=
  w.ownsRow B e 1 (.slice A n c) n vs ∧ ∀ u ∈ vs, u.oneCell' = true

theorem Own.nilS (w : World) (B e : Nat) : Own w B e none 0 0 [] := ⟨World.ownsRow_nil _ _ _ _, fun u h => by simp at h⟩
theorem Own.len {w : World} {B e : Nat} {A : Option Addr} {n c : Nat} {vs : List Value} (h : Own w B e A n c vs) : vs.length = n := by
  have := h.1.1; omega
theorem Own.sl {w : World} {B e : Nat} {A : Option Addr} {n c : Nat} {vs : List Value} (h : Own w B e A n c vs) : Sl w A n c vs := by
  refine ⟨h.len, ?_, ?_, ?_, ?_, h.2⟩
  · rcases h.1.2 with ⟨hv, hn⟩ | ⟨g, cap, cur, hv, _, _, hnc, _⟩
    · simp at hv; omega
    · simp at hv; omega
  · rcases h.1.2 with ⟨hv, hn⟩ | ⟨g, cap, cur, hv, _, _, hnc, hcm, _⟩
    · simp at hv; omega
    · simp at hv; simp only [maxLen] at hcm; omega
  · rcases h.1.2 with ⟨hv, hn⟩ | ⟨g, cap, cur, hv, _, _, hnc, hcm, _⟩
    · simp at hv; omega
    · simp at hv; intro hA; rw [hA] at hv; simp at hv
  · intro k u hk
    rcases h.1.2 with ⟨hv, hn⟩ | ⟨g, cap, cur, hv, hB, hh, hnc, hcm, hs, ht⟩
    · have := h.len
      have hl := (List.getElem?_eq_some_iff.1 hk).1
      omega
    · simp at hv
      refine ⟨g, 0, hv.1, ?_⟩
      rw [cell_of_row w g (0 + k) cur e (0, 0) hh]
      rw [← ht, List.getElem?_take] at hk
      split at hk
      · simpa using hk
      · cases hk
theorem Own.ext {w w' : World} {B e : Nat} {A : Option Addr} {n c : Nat} {vs : List Value} (h : Own w B e A n c vs) (hE : Ext w w') : Own w' B e A n c vs := by
  refine ⟨⟨h.1.1, ?_⟩, h.2⟩
  rcases h.1.2 with hv | ⟨g, cap, cur, hv, hB, hh, r⟩
  · exact .inl hv
  · exact .inr ⟨g, cap, cur, hv, hB, by rw [hE.block g (Array.getElem?_eq_some_iff.1 hh).1]; exact hh, r⟩
theorem Own.low {w : World} {B B' e : Nat} {A : Option Addr} {n c : Nat} {vs : List Value} (h : Own w B e A n c vs) (hB : B' ≤ B) : Own w B' e A n c vs := by
  refine ⟨⟨h.1.1, ?_⟩, h.2⟩
  rcases h.1.2 with hv | ⟨g, cap, cur, hv, hg, r⟩
  · exact .inl hv
  · exact .inr ⟨g, cap, cur, hv, by omega, r⟩
/-- Behind writes to another block of the call's own. -/
theorem Own.kept {w w' : World} {B e : Nat} {A : Option Addr} {n c : Nat} {vs : List Value} {row : Option Nat} (h : Own w B e A n c vs) (hg : w.grownBy w' row) (hne : ∀ a, A = some a → some a.block ≠ row) : Own w' B e A n c vs := by
  refine ⟨h.1.kept hg ?_, h.2⟩
  cases A with
  | none => exact .inl rfl
  | some a => exact .inr (hne a rfl)
/-- With an element at least it begins at a block's head. -/
theorem Own.head {w : World} {B e : Nat} {A : Option Addr} {n c : Nat} {vs : List Value} (h : Own w B e A n c vs) (hn : 0 < c) :
    ∃ g, A = some ⟨g, 0, none⟩ ∧ B ≤ g ∧ g < w.heap.size := by
  rcases h.1.2 with ⟨hv, hn⟩ | ⟨g, cap, cur, hv, hB, hh, r⟩
  · simp at hv; omega
  · simp at hv; exact ⟨g, hv.1, hB, (Array.getElem?_eq_some_iff.1 hh).1⟩
theorem Own.block {w : World} {B e : Nat} {A : Option Addr} {n c : Nat} {vs : List Value} (h : Own w B e A n c vs) : ∀ k, (Value.slice A n c).ownBlock = some k → B ≤ k ∧ k < w.heap.size := h.1.lt
theorem Own.pre {w : World} {B e : Nat} {A : Option Addr} {n c m : Nat} {vs : List Value} (h : Own w B e A n c vs) (hm : m ≤ n) : Own w B e A m c (vs.take m) := by
  refine ⟨⟨by rw [List.length_take, h.len]; omega, ?_⟩, fun u hu => h.2 u (List.mem_of_mem_take hu)⟩
  rcases h.1.2 with ⟨hv, hn⟩ | ⟨g, cap, cur, hv, hB, hh, hnc, hcm, hs, ht⟩
  · simp at hv
    refine .inl ⟨?_, by omega⟩
    obtain ⟨rfl, h2, rfl⟩ := hv
    simp; omega
  · simp at hv
    obtain ⟨rfl, rfl⟩ := hv
    refine .inr ⟨g, c, cur, rfl, hB, hh, by omega, hcm, hs, ?_⟩
    rw [← ht, List.take_take]
    congr 1
    omega
/-- One of its elements is written. -/
theorem Own.store {w : World} {B e g n c : Nat} {vs : List Value} (h : Own w B e (some ⟨g, 0, none⟩) n c vs) (j : Nat) (u : Value) (hu : u.oneCell' = true) :
    Own (w.setCell ⟨g, j, none⟩ u) B e (some ⟨g, 0, none⟩) n c (vs.set j u) :=
  ⟨(h.1.stored j u).1, fun x hx => by
    rcases List.mem_or_eq_of_mem_set hx with hx | rfl
    · exact h.2 x hx
    · exact hu⟩
theorem Own.cellAt {w : World} {B e g n c : Nat} {vs : List Value} (h : Own w B e (some ⟨g, 0, none⟩) n c vs) (j : Nat) (hj : j < n) : w.cell? ⟨g, j, none⟩ = vs[j]? := h.1.cellAt j (by omega)
theorem Own.elem {w : World} {B e g n c : Nat} {vs : List Value} (h : Own w B e (some ⟨g, 0, none⟩) n c vs) {j : Nat} (hj : j < n) : ∃ u, Hid (vs[j]? = some u) ∧ w.cell? ⟨g, j, none⟩ = some u := by
  have hl : j < vs.length := by have := h.len; omega
  exact ⟨vs[j], List.getElem?_eq_getElem hl, by rw [h.cellAt j hj, List.getElem?_eq_getElem hl]⟩
theorem Own.frozenAt {w : World} {B e g n c : Nat} {vs : List Value} (h : Own w B e (some ⟨g, 0, none⟩) n c vs) (j : Nat) : w.frozen? ⟨g, j, none⟩ = false := h.1.frozenAt j
theorem Own.made {w : World} {B e n : Nat} (hB : B ≤ w.heap.size) (cs : Array Value) (c : Nat) (hc : c ≤ maxLen) (hn : n ≤ c) (hs : cs.size = c) (h1 : ∀ u ∈ cs.toList.take n, u.oneCell' = true) :
    Own (w.alloc (.cells cs e)) B e (some ⟨w.heap.size, 0, none⟩) n c (cs.toList.take n) :=
  ⟨⟨by rw [List.length_take]; simp; omega, .inr ⟨w.heap.size, c, cs, rfl, hB, heap_alloc_new w _, hn, hc, by omega, by simp⟩⟩, h1⟩

section
variable {P : Program} {w : World}

/-- append onto a slice of the call's own; the source nil, empty or not. -/
theorem run_app (B : Nat) (t ty e : TypeId) (i : TypeInfo) (z : Value) (bytes : Nat) (ht : P.underlying t = some (.slice e)) (hi : P.info? e = some i) (hz : i.zero = some z)
    (hsize : i.size = 1) (hby : i.bytes = bytes) (hzs : z.cells.size = 1)
    (A : Option Addr) (n c : Nat) (xs : List Value) (hown : Own w B e A n c xs)
    (A2 : Option Addr) (m c2 : Nat) (ys : List Value) (hsl : Sl w A2 m c2 ys) (hbytes : (n + m) * bytes ≤ 140737488355328) (hby0 : 0 < bytes) (hB : B ≤ w.heap.size) :
    ∃ A' c' w', (Builtin.append_ #[t, t] ty #[.slice A n c, .slice A2 m c2]).run P w = .ok (.slice A' (n + m) c') w' ∧ Own w' B e A' (n + m) c' (xs ++ ys) ∧ w.grownBy w' (Value.slice A n c).ownBlock := by
  have hnm : n + m ≤ 140737488355328 := Nat.le_trans (Nat.le_mul_of_pos_right _ hby0) hbytes
  cases A2 with
  | none =>
    have hc2 := hsl.nil rfl
    have hm : m = 0 := by have := hsl.nc; omega
    subst hc2 hm
    have hy : ys = [] := List.eq_nil_of_length_eq_zero hsl.len
    subst hy
    exact ⟨A, c, w, run_append_owned_none (P := P) w B t ty e i 1 ht hi _ n xs hown.1, by simpa using hown, World.grownBy.refl _ _⟩
  | some a =>
    have hcells : ∀ j u, ys[j]? = some u → w.cell? (a.add j) = some u := by
      intro j u hu
      obtain ⟨b, o, hA, hc⟩ := hsl.cell j u hu
      injection hA with hA
      subst hA
      rw [Addr.add_lit]
      exact hc
    obtain ⟨v', w', hrun, h2, h3, _⟩ := run_append_own (P := P) w B t ty e i z 1 bytes ht hi hz hsize hby hzs (by omega) _ n xs hown.1 a m c2 ys (by have := hsl.len; omega) hcells hsl.one
      (by simp only [maxLen]; omega) hbytes hB
    have hform : ∃ A' c', v' = .slice A' (n + m) c' := by
      rcases h2.2 with ⟨hv, hn⟩ | ⟨g, cap, cur, hv, _⟩
      · exact ⟨none, 0, by rw [hv, hn]⟩
      · exact ⟨_, _, hv⟩
    obtain ⟨A', c', rfl⟩ := hform
    refine ⟨A', c', w', hrun, ⟨h2, fun u hu => ?_⟩, h3⟩
    rcases List.mem_append.1 hu with h | h
    · exact hown.2 u h
    · exact hsl.one u h

theorem wpList_app {ops : Array Oper} {rest : List Oper} {o : Oper} {a : Act} {Q : Exit → Act → World → Prop} (hgd : o.guard = none) (s x : Operand) (t : TypeId)
    (ho : o.op = .call { callee := .builtin .append, args := #[s, x], argTypes := #[t, t] })
    (B : Nat) (e : TypeId) (i : TypeInfo) (z : Value) (bytes : Nat) (ht : P.underlying t = some (.slice e)) (hi : P.info? e = some i) (hz : i.zero = some z)
    (hsize : i.size = 1) (hby : i.bytes = bytes) (hzs : z.cells.size = 1)
    (A : Option Addr) (n c : Nat) (xs : List Value) (hs : a.eval s = .slice A n c) (hown : Own w B e A n c xs)
    (A2 : Option Addr) (m c2 : Nat) (ys : List Value) (hx : a.eval x = .slice A2 m c2) (hsl : Sl w A2 m c2 ys) (hbytes : (n + m) * bytes ≤ 140737488355328) (hby0 : 0 < bytes) (hB : B ≤ w.heap.size)
    (h : ∀ A' c' w', Own w' B e A' (n + m) c' (xs ++ ys) → w.grownBy w' (Value.slice A n c).ownBlock → wpList P ops Q rest (a.put o.dst (.slice A' (n + m) c')) w') : wpList P ops Q (o :: rest) a w := by
  refine wpList_plain hgd fun K hK => ?_
  obtain ⟨A', c', w', hr, h2, h3⟩ := run_app (P := P) (w := w) B t o.type e i z bytes ht hi hz hsize hby hzs A n c xs hown A2 m c2 ys hsl hbytes hby0 hB
  unfold Oper.wp execOp
  simp only [ho, resolve, invoke, builtin, Sem.run_bind, Sem.run_pure, Result.andThen_ok, List.map_toArray, List.map_cons, List.map_nil, hs, hx, hr]
  exact hK _ _ (h A' c' w' h2 h3)

theorem step_app {ops : Array Oper} {o : Oper} {a : Act} {K : Act → World → Prop} {Q : Exit → Act → World → Prop} {E : Prop} (hgd : o.guard = none) (s x : Operand) (t : TypeId)
    (ho : o.op = .call { callee := .builtin .append, args := #[s, x], argTypes := #[t, t] })
    (B : Nat) (e : TypeId) (i : TypeInfo) (z : Value) (bytes : Nat) (ht : P.underlying t = some (.slice e)) (hi : P.info? e = some i) (hz : i.zero = some z)
    (hsize : i.size = 1) (hby : i.bytes = bytes) (hzs : z.cells.size = 1)
    (A : Option Addr) (n c : Nat) (xs : List Value) (hs : a.eval s = .slice A n c) (hown : Own w B e A n c xs)
    (A2 : Option Addr) (m c2 : Nat) (ys : List Value) (hx : a.eval x = .slice A2 m c2) (hsl : Sl w A2 m c2 ys) (hbytes : (n + m) * bytes ≤ 140737488355328) (hby0 : 0 < bytes) (hB : B ≤ w.heap.size)
    (h : ∀ A' c' w', Own w' B e A' (n + m) c' (xs ++ ys) → w.grownBy w' (Value.slice A n c).ownBlock → K (a.put o.dst (.slice A' (n + m) c')) w') :
    if Region.wanted o (yielded ops a.tmps) = true then Oper.wp P o a w K Q else E := by
  rw [if_pos (by simp [Region.wanted, hgd])]
  obtain ⟨A', c', w', hr, h2, h3⟩ := run_app (P := P) (w := w) B t o.type e i z bytes ht hi hz hsize hby hzs A n c xs hown A2 m c2 ys hsl hbytes hby0 hB
  unfold Oper.wp execOp
  simp only [ho, resolve, invoke, builtin, Sem.run_bind, Sem.run_pure, Result.andThen_ok, List.map_toArray, List.map_cons, List.map_nil, hs, hx, hr]
  exact h A' c' w' h2 h3
end

section
variable {P : Program} {w : World}
/-- append within the capacity, the whole row known. -/
theorem run_app_room (B : Nat) (t ty e : TypeId) (i : TypeInfo) (ht : P.underlying t = some (.slice e)) (hi : P.info? e = some i) (hsize : i.size = 1)
    (g n c : Nat) (full : List Value) (hown : Own w B e (some ⟨g, 0, none⟩) c c full)
    (A2 : Option Addr) (m c2 : Nat) (ys : List Value) (hsl : Sl w A2 m c2 ys) (hroom : n + m ≤ c) :
    ∃ w', (Builtin.append_ #[t, t] ty #[.slice (some ⟨g, 0, none⟩) n c, .slice A2 m c2]).run P w = .ok (.slice (some ⟨g, 0, none⟩) (n + m) c) w' ∧
      Own w' B e (some ⟨g, 0, none⟩) c c (full.take n ++ ys ++ full.drop (n + m)) ∧ w.grownBy w' (some g) := by
  cases A2 with
  | none =>
    have hc2 := hsl.nil rfl
    have hm : m = 0 := by have := hsl.nc; omega
    subst hc2 hm
    have hy : ys = [] := List.eq_nil_of_length_eq_zero hsl.len
    subst hy
    exact ⟨w, run_append_owned_none (P := P) w B t ty e i 1 ht hi _ n (full.take n) (hown.pre (m := n) (by omega)).1, by simpa using hown, World.grownBy.refl _ _⟩
  | some a =>
    have hcells : ∀ j u, ys[j]? = some u → w.cell? (a.add j) = some u := by
      intro j u hu
      obtain ⟨b, o, hA, hc⟩ := hsl.cell j u hu
      injection hA with hA
      subst hA
      rw [Addr.add_lit]
      exact hc
    have hlen := hown.len
    have hyl := hsl.len
    rcases hown.1.2 with ⟨hv, _⟩ | ⟨g', cap, cur, hv, hB, hh, hnc, hcm, hs, htk⟩
    · simp at hv
    · simp at hv
      obtain ⟨rfl, rfl⟩ := hv
      have hcur : cur.toList = full := by rw [← htk, List.take_of_length_le (by simp; omega)]
      have hr := run_append_room (P := P) w t ty e i ht hi g n c cur hh a m c2 ys (by rw [hsize]; omega) hcells hsl.one hroom (by rw [hsize]; omega)
      rw [hcur, hsize, Nat.mul_one, hyl] at hr
      refine ⟨_, hr, ⟨⟨?_, .inr ⟨g, c, _, rfl, hB, setRow_heap w g cur _ e _ hh, Nat.le_refl _, hcm, ?_, ?_⟩⟩, ?_⟩, ⟨rfl, rfl, rfl, by simp, fun k _ hk => setRow_other w g k _ (fun e => hk (by rw [e]))⟩⟩
      · simp; omega
      · simp; omega
      · rw [List.take_of_length_le (by simp; omega)]
      · intro u hu
        rcases List.mem_append.1 hu with h | h
        · rcases List.mem_append.1 h with h | h
          · exact hown.2 u (List.mem_of_mem_take h)
          · exact hsl.one u h
        · exact hown.2 u (List.mem_of_mem_drop h)

theorem wpList_app_room {ops : Array Oper} {rest : List Oper} {o : Oper} {a : Act} {Q : Exit → Act → World → Prop} (hgd : o.guard = none) (s x : Operand) (t : TypeId)
    (ho : o.op = .call { callee := .builtin .append, args := #[s, x], argTypes := #[t, t] })
    (B : Nat) (e : TypeId) (i : TypeInfo) (ht : P.underlying t = some (.slice e)) (hi : P.info? e = some i) (hsize : i.size = 1)
    (g n c : Nat) (full : List Value) (hs : a.eval s = .slice (some ⟨g, 0, none⟩) n c) (hown : Own w B e (some ⟨g, 0, none⟩) c c full)
    (A2 : Option Addr) (m c2 : Nat) (ys : List Value) (hx : a.eval x = .slice A2 m c2) (hsl : Sl w A2 m c2 ys) (hroom : n + m ≤ c)
    (h : ∀ w', Own w' B e (some ⟨g, 0, none⟩) c c (full.take n ++ ys ++ full.drop (n + m)) → w.grownBy w' (some g) → wpList P ops Q rest (a.put o.dst (.slice (some ⟨g, 0, none⟩) (n + m) c)) w') : wpList P ops Q (o :: rest) a w := by
  refine wpList_plain hgd fun K hK => ?_
  obtain ⟨w', hr, h2, h3⟩ := run_app_room (P := P) (w := w) B t o.type e i ht hi hsize g n c full hown A2 m c2 ys hsl hroom
  unfold Oper.wp execOp
  simp only [ho, resolve, invoke, builtin, Sem.run_bind, Sem.run_pure, Result.andThen_ok, List.map_toArray, List.map_cons, List.map_nil, hs, hx, hr]
  exact hK _ _ (h w' h2 h3)

theorem splice_eq {α : Type} (L : List α) (off : Nat) (cs : List α) : splice L off cs = L.take off ++ (cs ++ L.drop (off + cs.length)) := by unfold splice; rfl

/-- copy into a row of the call's own, the source whatever. -/
theorem wpList_cpy {ops : Array Oper} {rest : List Oper} {o : Oper} {a : Act} {Q : Exit → Act → World → Prop} (hgd : o.guard = none)
    (d s : Operand) (t : TypeId) (ho : o.op = .call { callee := .builtin .copy, args := #[d, s], argTypes := #[t, t] }) (B e eb : Nat)
    (hu : P.underlying t = some (.slice e)) (hsz : (P.info? e).map (fun x => x.size) = some 1)
    (g off dLen dCap : Nat) (hd : a.eval d = .slice (some ⟨g, off, none⟩) dLen dCap) (A2 : Option Addr) (m c2 : Nat) (ys : List Value) (hs : a.eval s = .slice A2 m c2) (hsl : Sl w A2 m c2 ys)
    (c : Nat) (full : List Value) (hown : Own w B eb (some ⟨g, 0, none⟩) c c full) (hfit : off + dLen ≤ c)
    (h : ∀ w', Own w' B eb (some ⟨g, 0, none⟩) c c (full.take off ++ (ys.take dLen ++ full.drop (off + min m dLen))) → w.grownBy w' (some g) → wpList P ops Q rest (a.put o.dst (goInt (min m dLen : Nat))) w') :
    wpList P ops Q (o :: rest) a w := by
  have hlen := hown.len
  have hyl := hsl.len
  rcases hown.1.2 with ⟨hv, _⟩ | ⟨g', cap, cur, hv, hB, hh, hnc, hcm, hss, htk⟩
  · simp at hv
  · simp at hv
    obtain ⟨rfl, rfl⟩ := hv
    have hcur : cur.toList = full := by rw [← htk, List.take_of_length_le (by simp; omega)]
    have htl : (ys.take dLen).length = min m dLen := by rw [List.length_take, hyl]; omega
    cases A2 with
    | none =>
      have hc2 := hsl.nil rfl
      have hm : m = 0 := by have := hsl.nc; omega
      subst hc2 hm
      have hy : ys = [] := List.eq_nil_of_length_eq_zero hsl.len
      subst hy
      refine wpList_copy_nothing hgd d s t t ho e hu hsz _ _ dLen dCap 0 0 hd hs (by simp) ?_
      have := h w (by simpa using hown) (World.grownBy.refl _ _)
      simpa using this
    | some ad =>
      refine wpList_copy_own hgd d s t t ho e hu hsz g off dLen dCap ad m c2 hd hs cur eb hh (ys.take dLen) (by rw [htl]) ?_ (by rw [htl]; omega) (fun v hv => hsl.one v (List.mem_of_mem_take hv)) ?_
      · intro j v hj
        rw [List.getElem?_take] at hj
        split at hj
        · obtain ⟨b, o, hA, hc⟩ := hsl.cell j v hj
          injection hA with hA
          subst hA
          rw [Addr.add_lit]
          exact hc
        · cases hj
      · rw [htl, hcur]
        refine h _ ⟨⟨?_, .inr ⟨g, c, _, rfl, hB, setRow_heap w g cur _ eb _ hh, Nat.le_refl _, hcm, ?_, ?_⟩⟩, ?_⟩ ⟨rfl, rfl, rfl, by simp, fun k _ hk => setRow_other w g k _ (fun e => hk (by rw [e]))⟩
        · simp; omega
        · simp; omega
        · rw [List.take_of_length_le (by simp; omega)]
        · intro u hu
          rcases List.mem_append.1 hu with h | h
          · exact hown.2 u (List.mem_of_mem_take h)
          · rcases List.mem_append.1 h with h | h
            · exact hsl.one u (List.mem_of_mem_take h)
            · exact hown.2 u (List.mem_of_mem_drop h)
end

theorem zeroCells_one (z : Value) (n : Nat) : Builtin.zeroCells #[z] n = (List.replicate n z).toArray := by
  apply Array.ext'
  simp only [Builtin.zeroCells, List.size_toArray, List.length_cons, List.length_nil, Nat.mul_one, Nat.zero_add, Nat.mod_one, Array.toList_map, Array.toList_range]
  simp [List.map_const']

/-- 'append(s, make([]T, m)...)' onto a slice of the call's own. -/
theorem run_app_zeros {P : Program} {w : World} (B : Nat) (t tI ty e : TypeId) (i : TypeInfo) (z : Value) (bytes : Nat) (ht : P.underlying t = some (.slice e)) (hI : P.underlying tI = some (.int .i64)) (hi : P.info? e = some i) (hz : i.zero = some z)
    (hsize : i.size = 1) (hby : i.bytes = bytes) (hz1 : z.cells = #[z]) (hz2 : z.oneCell' = true)
    (A : Option Addr) (n c : Nat) (xs : List Value) (hown : Own w B e A n c xs) (m : Nat) (hbytes : (n + m) * bytes ≤ 140737488355328) (hby0 : 0 < bytes) (hB : B ≤ w.heap.size) :
    ∃ A' c' w', (Builtin.append_ #[t, tI] ty #[.slice A n c, .int .i64 (m : Int)]).run P w = .ok (.slice A' (n + m) c') w' ∧ Own w' B e A' (n + m) c' (xs ++ List.replicate m z) ∧ w.grownBy w' (Value.slice A n c).ownBlock := by
  subst hby
  have hnm : n + m ≤ 140737488355328 := Nat.le_trans (Nat.le_mul_of_pos_right _ hby0) hbytes
  have hwrap : IntKind.i64.wrap (m : Int) = m := IntWalk.i64_in _ (by omega)
  have hlen := hown.len
  have hmb : m * i.bytes ≤ 140737488355328 := Nat.le_trans (Nat.mul_le_mul_right _ (by omega)) hbytes
  have hm48 : ¬ (281474976710656 < (m : Int) * (i.bytes : Int)) := by
    have : ((m * i.bytes : Nat) : Int) ≤ 140737488355328 := by omega
    rw [Int.natCast_mul] at this
    omega
  have hm0 : ¬ ((m : Int) < 0) := by omega
  have hone : ∀ u ∈ xs ++ List.replicate m z, u.oneCell' = true := by
    intro u hu
    rcases List.mem_append.1 hu with h | h
    · exact hown.2 u h
    · rw [List.eq_of_mem_replicate h]; exact hz2
  have grown : ∀ (old : Nat), old < n + m → ∀ (row : Option Nat),
      Own (w.drew.alloc (.cells (xs.toArray ++ (List.replicate m z).toArray ++ Builtin.zeroCells z.cells (grownCap w (n + m) old e - (n + m))) e)) B e
        (some ⟨w.heap.size, 0, none⟩) (n + m) (grownCap w (n + m) old e) (xs ++ List.replicate m z) ∧
      w.grownBy (w.drew.alloc (.cells (xs.toArray ++ (List.replicate m z).toArray ++ Builtin.zeroCells z.cells (grownCap w (n + m) old e - (n + m))) e)) row := by
    intro old ho row
    have hge := grownCap_ge w (n + m) old e
    have hcm : grownCap w (n + m) old e ≤ maxLen := grownCap_le_maxLen w (n + m) old e (by simp only [maxLen]; omega)
    refine ⟨⟨⟨by simp; omega, .inr ⟨w.heap.size, _, _, rfl, hB, heap_alloc_new w.drew _, hge, hcm, ?_, ?_⟩⟩, hone⟩, ⟨rfl, rfl, rfl, (by simp), fun k hk _ => Below.heap_alloc w.drew _ k hk⟩⟩
    · rw [hz1, zeroCells_one]; simp; omega
    · rw [hz1, zeroCells_one]
      simp only [Array.toList_append, List.append_assoc]
      rw [← List.append_assoc, List.take_append_of_le_length (by simp; omega), List.take_of_length_le (by simp; omega)]
  rcases hown.1.2 with ⟨hv, hn0⟩ | ⟨g, cap, cur, hv, hBg, hh, hnc, hcm, hcs, htk⟩
  · simp at hv
    obtain ⟨rfl, rfl, rfl⟩ := hv
    have hx : xs = [] := List.eq_nil_of_length_eq_zero hlen
    subst hx
    by_cases hm : m = 0
    · subst hm
      refine ⟨none, 0, w, ?_, by simpa using hown, World.grownBy.refl _ _⟩
      have hzw := hwrap
      simp at hzw
      simp [Builtin.append_, run_underlying ht, run_underlying hI, sizeOf, typeInfo, hi, asInt, asIntOf, hzw]
    · obtain ⟨g1, g2⟩ := grown 0 (by omega) (Value.ownBlock (.slice none 0 0))
      refine ⟨_, _, _, ?_, g1, g2⟩
      have h63 : ¬ (9223372036854775807 < (m : Int)) := by omega
      have h48 : ¬ (281474976710656 < Builtin.nextslicecap m 0 * i.bytes) := by rw [nextslicecap_zero (by omega)]; omega
      simp [Builtin.append_, run_underlying ht, run_underlying hI, sizeOf, typeInfo, hi, hsize, asInt, asIntOf, hwrap, hm0, hm48, hm, h63, h48, Question.forced, run_firstCells_none, zeroValue, hz, hz1, zeroCells_one, newRow, grownCap]
  · simp at hv
    obtain ⟨rfl, rfl⟩ := hv
    by_cases h0 : m = 0
    · subst h0
      refine ⟨some ⟨g, 0, none⟩, c, w, ?_, by simpa using hown, World.grownBy.refl _ _⟩
      have hzw := hwrap
      simp at hzw
      simp [Builtin.append_, run_underlying ht, run_underlying hI, sizeOf, typeInfo, hi, asInt, asIntOf, hzw, hnc, storeCells]
    by_cases hroom : n + m ≤ c
    · have hst := run_storeCells_at P g n e (List.replicate m z) 0 cur w hh (by simp; omega) (fun u hu => by rw [List.eq_of_mem_replicate hu]; exact hz2)
      simp only [Nat.add_zero, List.length_replicate] at hst
      refine ⟨some ⟨g, 0, none⟩, c, w.setRow g (cur.toList.take n ++ List.replicate m z ++ cur.toList.drop (n + m)).toArray, ?_, ⟨⟨by simp; omega, .inr ⟨g, c, _, rfl, hBg, setRow_heap w g cur _ e _ hh, hroom, hcm, ?_, ?_⟩⟩, hone⟩, ⟨rfl, rfl, rfl, by simp, fun k _ hk => setRow_other w g k _ (fun e => hk (by simp [Value.ownBlock, e]))⟩⟩
      · simp [Builtin.append_, run_underlying ht, run_underlying hI, sizeOf, typeInfo, hi, hsize, asInt, asIntOf, hwrap, hm0, hm48, h0, hroom, zeroValue, hz, hz1, zeroCells_one, Addr.add_lit, hst]
      · simp; omega
      · have h2 : List.take n cur.toList = xs := by simpa using htk
        simp only [h2, List.append_assoc]
        rw [← List.append_assoc, List.take_append_of_le_length (by simp; omega), List.take_of_length_le (by simp; omega)]
    · have holds : ∀ j u, xs[j]? = some u → w.cell? ((⟨g, 0, none⟩ : Addr).add j) = some u := hown.1.cells (g := g) rfl
      obtain ⟨g1, g2⟩ := grown c (by omega) (Value.ownBlock (.slice (some ⟨g, 0, none⟩) n c))
      refine ⟨_, _, _, ?_, g1, g2⟩
      have h63 : ¬ (9223372036854775807 < ((n : Int) + (m : Int))) := by omega
      have h48 : ¬ (281474976710656 < Builtin.nextslicecap (n + m) c * i.bytes) := by have := growslice_fits (need := n + m) (old := c) (bytes := i.bytes) (by omega) hbytes; omega
      have hfo := run_firstCells_some (P := P) w.drew 1 n ⟨g, 0, none⟩ n c xs (by omega) (by simpa using holds)
      simp [Builtin.append_, run_underlying ht, run_underlying hI, sizeOf, typeInfo, hi, hsize, asInt, asIntOf, hwrap, hm0, hm48, h0, hroom, h63, h48, Question.forced, hfo, zeroValue, hz, hz1, zeroCells_one, newRow, grownCap]

theorem wpList_app_zeros {P : Program} {w : World} {ops : Array Oper} {rest : List Oper} {o : Oper} {a : Act} {Q : Exit → Act → World → Prop} (hgd : o.guard = none) (s x : Operand) (t tI : TypeId)
    (ho : o.op = .call { callee := .builtin .append, args := #[s, x], argTypes := #[t, tI] })
    (B : Nat) (e : TypeId) (i : TypeInfo) (z : Value) (bytes : Nat) (ht : P.underlying t = some (.slice e)) (hI : P.underlying tI = some (.int .i64)) (hi : P.info? e = some i) (hz : i.zero = some z)
    (hsize : i.size = 1) (hby : i.bytes = bytes) (hz1 : z.cells = #[z]) (hz2 : z.oneCell' = true)
    (A : Option Addr) (n c : Nat) (xs : List Value) (hs : a.eval s = .slice A n c) (hown : Own w B e A n c xs) (M : Int) (m : Nat) (hx : a.eval x = .int .i64 M) (hM : M = m)
    (hbytes : (n + m) * bytes ≤ 140737488355328) (hby0 : 0 < bytes) (hB : B ≤ w.heap.size)
    (h : ∀ A' c' w', Own w' B e A' (n + m) c' (xs ++ List.replicate m z) → w.grownBy w' (Value.slice A n c).ownBlock → wpList P ops Q rest (a.put o.dst (.slice A' (n + m) c')) w') : wpList P ops Q (o :: rest) a w := by
  subst hM
  refine wpList_plain hgd fun K hK => ?_
  obtain ⟨A', c', w', hr, h2, h3⟩ := run_app_zeros (P := P) (w := w) B t tI o.type e i z bytes ht hI hi hz hsize hby hz1 hz2 A n c xs hown m hbytes hby0 hB
  unfold Oper.wp execOp
  simp only [ho, resolve, invoke, builtin, Sem.run_bind, Sem.run_pure, Result.andThen_ok, List.map_toArray, List.map_cons, List.map_nil, hs, hx, hr]
  exact hK _ _ (h A' c' w' h2 h3)

/-- append of a string's bytes onto bytes of the call's own. -/
theorem wpList_app_str {P : Program} {w : World} {ops : Array Oper} {rest : List Oper} {o : Oper} {a : Act} {Q : Exit → Act → World → Prop} (hgd : o.guard = none) (s x : Operand) (t u : TypeId)
    (ho : o.op = .call { callee := .builtin .append, args := #[s, x], argTypes := #[t, u] })
    (B : Nat) (e : TypeId) (i : TypeInfo) (ht : P.underlying t = some (.slice e)) (hu : P.underlying u = some .string) (hi : P.info? e = some i) (hz : i.zero = some (.int .u8 0))
    (hsize : i.size = 1) (hby : i.bytes = 1)
    (A : Option Addr) (n c : Nat) (xs : List Value) (hs : a.eval s = .slice A n c) (hown : Own w B e A n c xs) (st : ByteArray) (hx : a.eval x = .string st)
    (hbytes : n + st.size ≤ 140737488355328) (hB : B ≤ w.heap.size)
    (h : ∀ A' c' w', Own w' B e A' (n + st.size) c' (xs ++ Lib.strCells st) → w.grownBy w' (Value.slice A n c).ownBlock → wpList P ops Q rest (a.put o.dst (.slice A' (n + st.size) c')) w') : wpList P ops Q (o :: rest) a w := by
  refine wpList_plain hgd fun K hK => ?_
  obtain ⟨v', w', hr, h2, h3, _⟩ := Lib.run_append_own_string (P := P) w B t u o.type e i ht hu hi hz hsize hby _ n xs hown.1 st (by simp only [maxLen]; omega) hbytes hB
  have hform : ∃ A' c', v' = .slice A' (n + st.size) c' := by
    rcases h2.2 with ⟨hv, hn⟩ | ⟨g, cap, cur, hv, _⟩
    · exact ⟨none, 0, by rw [hv, hn]⟩
    · exact ⟨_, _, hv⟩
  obtain ⟨A', c', rfl⟩ := hform
  unfold Oper.wp execOp
  simp only [ho, resolve, invoke, builtin, Sem.run_bind, Sem.run_pure, Result.andThen_ok, List.map_toArray, List.map_cons, List.map_nil, hs, hx, hr]
  refine hK _ _ (h A' c' w' ⟨h2, fun v hv => ?_⟩ h3)
  rcases List.mem_append.1 hv with h | h
  · exact hown.2 v h
  · exact Lib.strCells_oneCell st v h

/-- 'make([]T, n, c)' as an equation for every world. -/
theorem run_mk {P : Program} (t e : TypeId) (z : Value) (bytes : Nat) (ht : P.underlying t = some (.slice e)) (hinfo : (P.info? e).map (fun i => (i.zero, i.size, i.bytes)) = some (some z, 1, bytes))
    (hz1 : z.cells = #[z]) (kl kc : IntKind) (L C : Int) (n c : Nat) (hL : L = n) (hC : C = c) (hnc : n ≤ c) (hbytes : bytes * c ≤ 281474976710656) (h63 : c ≤ 9223372036854775807) (w : World) :
    (Instr.makeSlice t (.int kl L) (.int kc C)).run P w = .ok (.slice (some ⟨w.heap.size, 0, none⟩) n c) (w.alloc (.cells (madeCells #[z] c) e)) := by
  obtain ⟨i, hi, hz, hsize, hby⟩ := info_parts hinfo
  subst hL hC hby
  have hb : (i.bytes : Int) * (c : Int) ≤ 281474976710656 := by
    have h : ((i.bytes * c : Nat) : Int) ≤ 281474976710656 := by omega
    rwa [Int.natCast_mul] at h
  have hr := run_make (P := P) w t e i z ht hi hz kl kc n c (by omega) (by omega) hb (by omega)
  simp only [Int.toNat_natCast, hsize, Nat.mul_one, hz1] at hr
  exact hr

theorem Own.mk {w : World} {B e : Nat} (hB : B ≤ w.heap.size) (z : Value) (c : Nat) (hc : c ≤ 9223372036854775807) (h1 : z.oneCell' = true) :
    Own (w.alloc (.cells (madeCells #[z] c) e)) B e (some ⟨w.heap.size, 0, none⟩) c c (List.replicate c z) := by
  have h := Own.made (w := w) (B := B) (e := e) (n := c) hB (madeCells #[z] c) c (by simp only [maxLen]; omega) (Nat.le_refl _) (by simp [size_madeCells]) (by
    rw [toList_madeCells_one]; intro u hu; rw [List.eq_of_mem_replicate (List.mem_of_mem_take hu)]; exact h1)
  rw [toList_madeCells_one, List.take_of_length_le (by simp)] at h
  exact h

/-- 'make([]T, n, c)' in the walk: the world behind it a letter. -/
theorem wpList_mk {P : Program} {w : World} {ops : Array Oper} {rest : List Oper} {o : Oper} {a : Act} {Q : Exit → Act → World → Prop}
    (hg : o.guard = none) (l cp : Operand) (t : TypeId) (hop : o.op = Op.makeSlice t l cp) (e : TypeId) (z : Value) (bytes : Nat) (ht : P.underlying t = some (.slice e))
    (hinfo : (P.info? e).map (fun i => (i.zero, i.size, i.bytes)) = some (some z, 1, bytes)) (hz1 : z.cells = #[z]) (hz2 : z.oneCell' = true)
    (kl kc : IntKind) (L C : Int) (n c : Nat) (hl : a.eval l = .int kl L) (hc : a.eval cp = .int kc C) (hL : L = n) (hC : C = c) (hnc : n ≤ c) (hbytes : bytes * c ≤ 281474976710656) (h63 : c ≤ 9223372036854775807)
    (B : Nat) (hB : B ≤ w.heap.size)
    (hK : ∀ w', Own w' B e (some ⟨w.heap.size, 0, none⟩) c c (List.replicate c z) → Ext w w' → wpList P ops Q rest (a.put o.dst (.slice (some ⟨w.heap.size, 0, none⟩) n c)) w') :
    wpList P ops Q (o :: rest) a w := by
  refine wpList_plain hg fun K hK' => ?_
  have hrun := run_mk (P := P) t e z bytes ht hinfo hz1 kl kc L C n c hL hC hnc hbytes h63 w
  unfold Oper.wp
  simp [execOp, hop, hl, hc, hrun, Result.andThen]
  exact hK' _ _ (hK _ (Own.mk hB z c h63 hz2) ((Ext.refl w).alloc _))

/-- A variable of an array type, of one-cell zeros: the world behind it a letter. -/
theorem wpList_al {P : Program} {w : World} {ops : Array Oper} {rest : List Oper} {o : Oper} {a : Act} {Q : Exit → Act → World → Prop} (hg : o.guard = none) (t : TypeId) (hop : o.op = Op.alloc t)
    (z : Value) (c : Nat) (hrun : (Instr.alloc t true (.tuple #[])).run P w = .ok (.pointer (some ⟨w.heap.size, 0, none⟩)) (w.alloc (.cells (madeCells #[z] c) t))) (h63 : c ≤ 9223372036854775807) (hz : z.oneCell' = true)
    (B : Nat) (hB : B ≤ w.heap.size)
    (hK : ∀ w', Own w' B t (some ⟨w.heap.size, 0, none⟩) c c (List.replicate c z) → Ext w w' → w.heap.size < w'.heap.size → wpList P ops Q rest (a.put o.dst (.pointer (some ⟨w.heap.size, 0, none⟩))) w') :
    wpList P ops Q (o :: rest) a w := by
  refine wpList_plain hg fun K hK' => ?_
  unfold Oper.wp
  simp [execOp, hop, hrun, Result.andThen]
  exact hK' _ _ (hK _ (Own.mk hB z c h63 hz) ((Ext.refl w).alloc _) (by simp))

/-- A literal block of one-cell values, as a slice. -/
theorem Sl.lit (w : World) (cs : Array Value) (e : TypeId) (n : Nat) (hn : cs.size = n) (hm : n ≤ 9223372036854775807) (h1 : ∀ u ∈ cs.toList, u.oneCell' = true) :
    Sl (w.alloc (.cells cs e)) (some ⟨w.heap.size, 0, none⟩) n n cs.toList :=
  ⟨by simp [hn], Nat.le_refl _, hm, (fun h => by cases h), (fun k u hk => ⟨_, _, rfl, by
    rw [cell_of_row (w.alloc (.cells cs e)) w.heap.size (0 + k) cs e (0, 0) (heap_alloc_new w _)]
    simpa using hk⟩), h1⟩

/-- Bytes. -/
def by8 (xs : List Nat) : List Value := xs.map fun x : Nat => Value.int .u8 (x : Int)
def Bytes (xs : List Nat) : Prop := ∀ x ∈ xs, x < 256
theorem by8_one (xs : List Nat) : ∀ u ∈ by8 xs, u.oneCell' = true := by
  intro u hu
  obtain ⟨_, _, rfl⟩ := List.mem_map.1 hu
  rfl
theorem by8_len (xs : List Nat) : (by8 xs).length = xs.length := by simp [by8]
theorem by8_append (xs ys : List Nat) : by8 (xs ++ ys) = by8 xs ++ by8 ys := by simp [by8]
theorem by8_take (xs : List Nat) (n : Nat) : (by8 xs).take n = by8 (xs.take n) := by simp [by8, List.map_take]
theorem by8_drop (xs : List Nat) (n : Nat) : (by8 xs).drop n = by8 (xs.drop n) := by simp [by8, List.map_drop]
theorem by8_set (xs : List Nat) (n x : Nat) : (by8 xs).set n (.int .u8 (x : Int)) = by8 (xs.set n x) := by simp [by8, List.map_set]
theorem by8_get {xs : List Nat} {k : Nat} {u : Value} (h : (by8 xs)[k]? = some u) : ∃ x, xs[k]? = some x ∧ u = .int .u8 (x : Int) := by
  simp only [by8, List.getElem?_map, Option.map_eq_some_iff] at h
  obtain ⟨x, h1, h2⟩ := h
  exact ⟨x, h1, h2.symm⟩
theorem by8_inj {xs ys : List Nat} (h : by8 xs = by8 ys) : xs = ys := by
  refine List.map_inj_right (f := fun x : Nat => Value.int .u8 (x : Int)) (fun a b hab => ?_) |>.1 h
  simp at hab
  omega
theorem Bytes.take {xs : List Nat} (h : Bytes xs) (n : Nat) : Bytes (xs.take n) := fun x hx => h x (List.mem_of_mem_take hx)
theorem Bytes.drop {xs : List Nat} (h : Bytes xs) (n : Nat) : Bytes (xs.drop n) := fun x hx => h x (List.mem_of_mem_drop hx)
theorem Bytes.append {xs ys : List Nat} (h : Bytes xs) (k : Bytes ys) : Bytes (xs ++ ys) := fun x hx => by
  rcases List.mem_append.1 hx with h1 | h1
  · exact h x h1
  · exact k x h1
theorem Bytes.cons {x : Nat} {ys : List Nat} (h : x < 256) (k : Bytes ys) : Bytes (x :: ys) := fun y hy => by
  rcases List.mem_cons.1 hy with rfl | h1
  · exact h
  · exact k y h1
theorem Bytes.nil : Bytes [] := fun x h => by simp at h
theorem Bytes.rep (n : Nat) : Bytes (List.replicate n 0) := fun x hx => by have := List.eq_of_mem_replicate hx; omega
theorem Bytes.set {xs : List Nat} (h : Bytes xs) (n : Nat) {x : Nat} (hx : x < 256) : Bytes (xs.set n x) := fun y hy => by
  rcases List.mem_or_eq_of_mem_set hy with h1 | rfl
  · exact h y h1
  · exact hx
theorem Bytes.get {xs : List Nat} (h : Bytes xs) {k x : Nat} (hk : xs[k]? = some x) : x < 256 := h x (List.mem_of_getElem? hk)

/-- In a round: the cell and the byte. -/
theorem Sl.at8 {w : World} {A : Option Addr} {n c : Nat} {xs : List Nat} (h : Sl w A n c (by8 xs)) (hb : Bytes xs) {k : Nat} (hk : k < n) :
    ∃ b o x, A = some ⟨b, o, none⟩ ∧ Hid (xs[k]? = some x) ∧ w.cell? ⟨b, o + k, none⟩ = some (.int .u8 (x : Nat)) ∧ x < 256 := by
  obtain ⟨b, o, u, hA, hu, hc⟩ := h.at_ hk
  obtain ⟨x, hx, rfl⟩ := by8_get hu.out
  exact ⟨b, o, x, hA, hx, hc, hb.get hx⟩
theorem drop_cons {α : Type} {xs : List α} {k : Nat} {x : α} (h : xs[k]? = some x) : xs.drop k = x :: xs.drop (k + 1) := by
  obtain ⟨hk, rfl⟩ := List.getElem?_eq_some_iff.1 h
  exact List.drop_eq_getElem_cons hk
theorem mark_step (xs : List Nat) (k n : Nat) (hl : xs.length = n) (hk : k < 3) :
    (xs ++ (List.replicate k 119 ++ List.replicate (3 - k) 0)).set (n + k) 119 = xs ++ (List.replicate (k + 1) 119 ++ List.replicate (3 - (k + 1)) 0) := by
  subst hl
  rw [List.set_append_right _ _ (by omega)]
  match k, hk with
  | 0, _ => simp [List.replicate_succ]
  | 1, _ => simp [List.replicate_succ]
  | 2, _ => simp [List.replicate_succ]

/-- The string of some bytes. -/
def strN (xs : List Nat) : ByteArray := ⟨(xs.map UInt8.ofNat).toArray⟩
theorem strN_list (xs : List Nat) : (strN xs).data.toList = xs.map UInt8.ofNat := rfl
theorem strN_size (xs : List Nat) : (strN xs).size = xs.length := by simp [strN, ByteArray.size]
theorem map_u8_inj {xs ys : List Nat} (hx : Bytes xs) (hy : Bytes ys) (h : xs.map UInt8.ofNat = ys.map UInt8.ofNat) : xs = ys := by
  have key : ∀ zs : List Nat, Bytes zs → (zs.map UInt8.ofNat).map UInt8.toNat = zs := by
    intro zs hz
    rw [List.map_map]
    conv => rhs; rw [← List.map_id zs]
    apply List.map_congr_left
    intro a ha
    have := hz a ha
    simp [UInt8.toNat_ofNat']
    omega
  rw [← key xs hx, ← key ys hy, h]
theorem strN_inj {xs ys : List Nat} (hx : Bytes xs) (hy : Bytes ys) : strN xs = strN ys ↔ xs = ys :=
  ⟨fun h => map_u8_inj hx hy (by rw [← strN_list, ← strN_list, h]), fun h => by rw [h]⟩
theorem strN_eq {xs ys : List Nat} (hx : Bytes xs) (hy : Bytes ys) : ((strN xs).toList == (strN ys).toList) = decide (xs = ys) := by
  rw [ByteArray.toList_eq, ByteArray.toList_eq, strN_list, strN_list]
  by_cases h : xs = ys
  · subst h; simp
  · have hne : ¬ xs.map UInt8.ofNat = ys.map UInt8.ofNat := fun e => h (map_u8_inj hx hy e)
    simp only [h, decide_false]
    exact beq_eq_false_iff_ne.2 hne
theorem run_str {P : Program} {w : World} (src e dst : TypeId) (hs : P.underlying src = some (.slice e)) (he : P.underlying e = some (.int .u8)) (hd : P.underlying dst = some .string)
    {A : Option Addr} {n c : Nat} {xs : List Nat} (h : Sl w A n c (by8 xs)) : (convert src dst (.slice A n c)).run P w = .ok (.string (strN xs)) w := by
  have hl : xs.length = n := by have := h.len; rwa [by8_len] at this
  rw [run_convert_bytes_string w src dst e A n c hs he hd]
  cases A with
  | none =>
    have h0 := h.nil rfl
    have h1 := h.nc
    obtain rfl : n = 0 := by omega
    have : xs = [] := List.eq_nil_of_length_eq_zero hl
    subst this
    rfl
  | some a =>
    have hload : (loadCells a n).run P w = .ok ((xs.map fun x : Nat => (x : Int)).map (Value.int .u8)).toArray w := by
      have hcs : ∀ j v, (by8 xs)[j]? = some v → w.cell? (a.add j) = some v := by
        intro j u hu
        obtain ⟨b, o, hA, hc⟩ := h.cell j u hu
        injection hA with hA
        subst hA
        rw [Addr.add_lit]
        exact hc
      have hr := run_loadCells_list (P := P) (w := w) a (by8 xs) hcs
      rw [by8_len, hl] at hr
      rw [hr]
      simp [by8, List.map_map, Function.comp_def]
    rw [run_bytesToString w a n c _ hload, foldl_push_bytes]
    simp [strN, Function.comp_def]

/-- What any integer is modulo n, as 'Low' says it. -/
def low (x : Int) (n : Nat) : Nat := (x % 18446744073709551616).toNat % n
theorem low_lt (x : Int) {n : Nat} (hn : 0 < n) : low x n < n := Nat.mod_lt _ hn
theorem low_small {x n : Nat} (h : x < 18446744073709551616) : low (x : Int) n = x % n := by
  unfold low
  rw [show ((x : Int) % 18446744073709551616).toNat = x from by omega]
end Go.Proofs.YtmfenegkeiipnaaDoor
