/- Memory words for spaces of inodes and blocks: rows of sets, and what a call has turned. -/
import Derived.Test.YtillhbbeghbfeaaBitsF
import Derived.Test.YtillhbbeghbfeaaGeomW
import Derived.Test.YtillhbbeghbfeaaBst
import Derived.Test.YtillhbbeghbfeaaAgg2
import Derived.Test.YtillhbbeghbfeaaApart
namespace Go.Proofs.Ytillhbbeghbfeaa
set_option linter.unusedVariables false
open Go.RowKit

/-- All blocks but some are as they were. -/
structure Turned (gs : List Nat) (w w' : World) : Prop where
  os : w'.os = w.os
  tape : w'.tape = w.tape
  output : w'.output = w.output
  size : w.heap.size ≤ w'.heap.size
  block : ∀ k, k < w.heap.size → k ∉ gs → w'.heap[k]? = w.heap[k]?

theorem Ext.turned {w w' : World} (h : Ext w w') (gs : List Nat) : Turned gs w w' := ⟨h.os, h.tape, h.output, Below.size h, fun k hk _ => Below.block h k hk⟩
theorem Turned.refl (gs : List Nat) (w : World) : Turned gs w w := (Ext.refl w).turned gs
theorem Turned.trans {gs : List Nat} {a b c : World} (h : Turned gs a b) (k : Turned gs b c) : Turned gs a c :=
  ⟨k.os.trans h.os, k.tape.trans h.tape, k.output.trans h.output, Nat.le_trans h.size k.size, fun i hi hn => (k.block i (Nat.lt_of_lt_of_le hi h.size) hn).trans (h.block i hi hn)⟩
theorem Turned.mono {gs hs : List Nat} {a b : World} (h : Turned gs a b) (hg : ∀ x ∈ gs, x ∈ hs) : Turned hs a b :=
  ⟨h.os, h.tape, h.output, h.size, fun i hi hn => h.block i hi (fun hx => hn (hg i hx))⟩
theorem Turned.ext {gs : List Nat} {a w w' : World} (h : Ext a w) (k : Turned gs w w') (hg : ∀ g ∈ gs, a.heap.size ≤ g) : Ext a w' :=
  ⟨k.os.trans h.os, k.tape.trans h.tape, k.output.trans h.output, Nat.le_trans h.size k.size, fun i hi => (k.block i (Nat.lt_of_lt_of_le hi h.size) (fun hx => by have := hg i hx; omega)).trans (Below.block h i hi)⟩
theorem Turned.setCell (w : World) (g j : Nat) (v : Value) : Turned [g] w (w.setCell ⟨g, j, none⟩ v) := by
  have h := grown_setCell w g j v
  exact ⟨h.os, h.tape, h.output, h.size, fun k hk hn => h.block k hk (fun e => hn (by simp at e; simp [e]))⟩
theorem Turned.grown {w w' : World} {row : Option Nat} (h : w.grownBy w' row) : Turned row.toList w w' :=
  ⟨h.os, h.tape, h.output, h.size, fun k hk hn => h.block k hk (fun e => hn (by rw [← e]; simp))⟩
theorem Turned.cell {gs : List Nat} {w w' : World} (h : Turned gs w w') {p : Addr} {u : Value} (hc : w.cell? p = some u) (hp : p.block ∉ gs) : w'.cell? p = some u := by
  rw [World.cell?_of_block (h.block p.block (World.block_lt_of_cell? w p hc) hp)]; exact hc
theorem Turned.own {gs : List Nat} {w w' : World} {B e : Nat} {A : Option Addr} {n c : Nat} {vs : List Value} (h : Own w B e A n c vs) (ht : Turned gs w w') (ha : ∀ a, A = some a → a.block ∉ gs) : Own w' B e A n c vs := by
  refine ⟨⟨h.1.1, ?_⟩, h.2⟩
  rcases h.1.2 with hv | ⟨g, cap, cur, hv, hB, hh, r⟩
  · exact .inl hv
  · refine .inr ⟨g, cap, cur, hv, hB, ?_, r⟩
    rw [ht.block g (Array.getElem?_eq_some_iff.1 hh).1 (ha ⟨g, 0, none⟩ (by simp at hv; exact hv.1))]
    exact hh

/-- Of which type a block's cells are. -/
def Tag (w : World) (g e : Nat) : Prop := ∃ cs, w.heap[g]? = some (.cells cs e (0, 0))
theorem Tag.uniq {w : World} {g e f : Nat} (h : Tag w g e) (k : Tag w g f) : e = f := by
  obtain ⟨_, h⟩ := h
  obtain ⟨_, k⟩ := k
  rw [h] at k
  simp at k
  exact k.2
theorem Tag.lt {w : World} {g e : Nat} (h : Tag w g e) : g < w.heap.size := by
  obtain ⟨_, h⟩ := h
  exact (Array.getElem?_eq_some_iff.1 h).1
theorem Own.tag {w : World} {B e : Nat} {a : Addr} {n c : Nat} {vs : List Value} (h : Own w B e (some a) n c vs) : Tag w a.block e := by
  rcases h.1.2 with ⟨hv, hn⟩ | ⟨g, cap, cur, hv, hB, hh, r⟩
  · simp at hv
  · simp at hv
    obtain ⟨rfl, rfl⟩ := hv
    exact ⟨_, hh⟩
theorem Own.base {w : World} {B e : Nat} {a : Addr} {n c : Nat} {vs : List Value} (h : Own w B e (some a) n c vs) : B ≤ a.block := (h.block a.block rfl).1
theorem Own.lt {w : World} {B e : Nat} {a : Addr} {n c : Nat} {vs : List Value} (h : Own w B e (some a) n c vs) : a.block < w.heap.size := (h.block a.block rfl).2
/-- Blocks of another type are others. -/
theorem Own.off {w : World} {B e : Nat} {A : Option Addr} {n c : Nat} {vs : List Value} (h : Own w B e A n c vs) {gs : List Nat} (hg : ∀ x ∈ gs, ¬ Tag w x e) : ∀ a, A = some a → a.block ∉ gs := by
  rintro a rfl hx
  exact hg _ hx h.tag

/-- A slice of sets. -/
def RowsIs (w : World) (B g c : Nat) (xss : List (List Nat)) : Prop :=
  ∃ vs : List Value, Own w B 43 (some ⟨g, 0, none⟩) xss.length c vs ∧ ∀ (k : Nat) (xs : List Nat), xss[k]? = some xs → ∃ (A : Option Addr) (n cA : Nat), vs[k]? = some (Value.slice A n cA) ∧ Own w B 5 A n cA (by8 xs) ∧ Bytes xs
theorem RowsIs.tag {w : World} {B g c : Nat} {xss : List (List Nat)} (h : RowsIs w B g c xss) : Tag w g 43 := by
  obtain ⟨vs, h1, _⟩ := h
  exact h1.tag
theorem RowsIs.base {w : World} {B g c : Nat} {xss : List (List Nat)} (h : RowsIs w B g c xss) : B ≤ g := by
  obtain ⟨vs, h1, _⟩ := h
  exact h1.base
theorem RowsIs.turn {w w' : World} {B g c : Nat} {xss : List (List Nat)} (h : RowsIs w B g c xss) {gs : List Nat} (ht : Turned gs w w') (hg : g ∉ gs) (h8 : ∀ x ∈ gs, ¬ Tag w x 5) : RowsIs w' B g c xss := by
  obtain ⟨vs, h1, h2⟩ := h
  refine ⟨vs, ht.own h1 (fun a ha => by cases ha; exact hg), fun k xs hk => ?_⟩
  obtain ⟨A, n, cA, hv, hO, hb⟩ := h2 k xs hk
  exact ⟨A, n, cA, hv, ht.own hO (hO.off h8), hb⟩
theorem RowsIs.ext {w w' : World} {B g c : Nat} {xss : List (List Nat)} (h : RowsIs w B g c xss) (hE : Ext w w') : RowsIs w' B g c xss := h.turn (hE.turned []) (by simp) (by simp)
theorem RowsIs.low {w : World} {B B' g c : Nat} {xss : List (List Nat)} (h : RowsIs w B g c xss) (hB : B' ≤ B) : RowsIs w B' g c xss := by
  obtain ⟨vs, h1, h2⟩ := h
  refine ⟨vs, h1.low hB, fun k xs hk => ?_⟩
  obtain ⟨A, n, cA, hv, hO, hb⟩ := h2 k xs hk
  exact ⟨A, n, cA, hv, hO.low hB, hb⟩
theorem RowsIs.row {w : World} {B g c : Nat} {xss : List (List Nat)} (h : RowsIs w B g c xss) {k : Nat} {xs : List Nat} (hk : xss[k]? = some xs) :
    ∃ A n cA, w.cell? ⟨g, k, none⟩ = some (Value.slice A n cA) ∧ w.frozen? ⟨g, k, none⟩ = false ∧ Own w B 5 A n cA (by8 xs) ∧ Bytes xs := by
  obtain ⟨vs, h1, h2⟩ := h
  obtain ⟨A, n, cA, hv, hO, hb⟩ := h2 k xs hk
  have hl := (List.getElem?_eq_some_iff.1 hk).1
  exact ⟨A, n, cA, by rw [h1.cellAt k hl, hv], h1.frozenAt k, hO, hb⟩
theorem RowsIs.store {w : World} {B g c : Nat} {xss : List (List Nat)} (h : RowsIs w B g c xss) {k : Nat} {xs : List Nat} {A : Option Addr} {n cA : Nat} (hO : Own w B 5 A n cA (by8 xs)) (hb : Bytes xs) :
    RowsIs (w.setCell ⟨g, k, none⟩ (Value.slice A n cA)) B g c (xss.set k xs) := by
  have hT := h.tag
  obtain ⟨vs, h1, h2⟩ := h
  have h8 : ∀ x ∈ [g], ¬ Tag w x 5 := by
    intro x hx ht
    rw [List.mem_singleton] at hx
    subst hx
    exact absurd (hT.uniq ht) (by decide)
  have hK : ∀ {A' : Option Addr} {n' c' : Nat} {ys : List Nat}, Own w B 5 A' n' c' (by8 ys) → Own (w.setCell ⟨g, k, none⟩ (Value.slice A n cA)) B 5 A' n' c' (by8 ys) :=
    fun hO' => (Turned.setCell w g k _).own hO' (hO'.off h8)
  refine ⟨vs.set k (Value.slice A n cA), by rw [List.length_set]; exact h1.store k _ rfl, fun j ys hj => ?_⟩
  have hlv := h1.len
  by_cases hjk : k = j
  · subst hjk
    have hl : k < xss.length := by have := (List.getElem?_eq_some_iff.1 hj).1; simpa using this
    rw [List.getElem?_set_self hl] at hj
    cases hj
    exact ⟨A, n, cA, by rw [List.getElem?_set_self (by omega)], hK hO, hb⟩
  · rw [List.getElem?_set_ne hjk] at hj
    obtain ⟨A', n', c', hv, hO', hb'⟩ := h2 j ys hj
    exact ⟨A', n', c', by rw [List.getElem?_set_ne hjk]; exact hv, hK hO', hb'⟩

/-- One more at the end. -/
theorem RowsIs.snoc {w w1 : World} {B g c g' c' : Nat} {xss : List (List Nat)} {vs : List Value} {A : Option Addr} {n cA : Nat} {xs : List Nat}
    (h2 : ∀ (k : Nat) (xs : List Nat), xss[k]? = some xs → ∃ (A : Option Addr) (n cA : Nat), vs[k]? = some (Value.slice A n cA) ∧ Own w B 5 A n cA (by8 xs) ∧ Bytes xs) (hl : vs.length = xss.length)
    (h1 : Own w B 43 (some ⟨g', 0, none⟩) (xss.length + 1) c' (vs ++ [Value.slice A n cA])) (hO : Own w B 5 A n cA (by8 xs)) (hb : Bytes xs) : RowsIs w B g' c' (xss ++ [xs]) := by
  refine ⟨vs ++ [Value.slice A n cA], by simpa using h1, fun k ys hk => ?_⟩
  by_cases hkl : k < xss.length
  · rw [List.getElem?_append_left hkl] at hk
    obtain ⟨A', n', c', hv, hO', hb'⟩ := h2 k ys hk
    exact ⟨A', n', c', by rw [List.getElem?_append_left (by omega)]; exact hv, hO', hb'⟩
  · have hkl' : k = xss.length := by
      have := (List.getElem?_eq_some_iff.1 hk).1
      simp at this
      omega
    subst hkl'
    rw [List.getElem?_append_right (Nat.le_refl _)] at hk
    simp at hk
    subst hk
    exact ⟨A, n, cA, by rw [← hl, List.getElem?_append_right (Nat.le_refl _)]; simp, hO, hb⟩

/-- Of a set in memory: how many each group has, what is taken, what is deferred. -/
structure SetAt (w : World) (B g o each g1 c1 g2 c2 : Nat) (t d : List (List Nat)) : Prop where
  ce : w.cell? ⟨g, o, none⟩ = some (.int .i64 (each : Int))
  ct : w.cell? ⟨g, o + 1, none⟩ = some (Value.slice (some ⟨g1, 0, none⟩) t.length c1)
  cd : w.cell? ⟨g, o + 2, none⟩ = some (Value.slice (some ⟨g2, 0, none⟩) d.length c2)
  rt : RowsIs w B g1 c1 t
  rd : RowsIs w B g2 c2 d
  ne : g1 ≠ g2
  n1 : g ≠ g1
  n2 : g ≠ g2
  le : each ≤ 1000
  wt : ∀ xs ∈ t, xs.length = (each + 7) / 8
  wd : ∀ xs ∈ d, xs.length = (each + 7) / 8
  l1 : t.length = d.length
  l2 : t.length ≤ 1000

/-- Where the four rows of a space lie. -/
structure Pl where
  (g1 c1 g2 c2 g3 c3 g4 c4 : Nat)
def spc (G N M : Nat) (p : Pl) : List Value :=
  [.int .i64 (G : Int), .int .i64 (N : Int), .int .i64 (M : Int), .int .i64 (N : Int), .slice (some ⟨p.g1, 0, none⟩) G p.c1, .slice (some ⟨p.g2, 0, none⟩) G p.c2,
   .int .i64 (M : Int), .slice (some ⟨p.g3, 0, none⟩) G p.c3, .slice (some ⟨p.g4, 0, none⟩) G p.c4]
structure SpaceAt (w : World) (B g : Nat) (p : Pl) (G N M : Nat) (tn dn tb db : List (List Nat)) : Prop where
  own : Own w B 64 (some ⟨g, 0, none⟩) 9 9 (spc G N M p)
  r1 : RowsIs w B p.g1 p.c1 tn
  r2 : RowsIs w B p.g2 p.c2 dn
  r3 : RowsIs w B p.g3 p.c3 tb
  r4 : RowsIs w B p.g4 p.c4 db
  n12 : p.g1 ≠ p.g2
  n13 : p.g1 ≠ p.g3
  n14 : p.g1 ≠ p.g4
  n23 : p.g2 ≠ p.g3
  n24 : p.g2 ≠ p.g4
  n34 : p.g3 ≠ p.g4
  l1 : tn.length = G
  l2 : dn.length = G
  l3 : tb.length = G
  l4 : db.length = G
  w1 : ∀ xs ∈ tn, xs.length = (N + 7) / 8
  w2 : ∀ xs ∈ dn, xs.length = (N + 7) / 8
  w3 : ∀ xs ∈ tb, xs.length = (M + 7) / 8
  w4 : ∀ xs ∈ db, xs.length = (M + 7) / 8
  may : mayG (G : Int) (N : Int) (M : Int)
theorem SpaceAt.nog {w : World} {B g : Nat} {p : Pl} {G N M : Nat} {tn dn tb db : List (List Nat)} (h : SpaceAt w B g p G N M tn dn tb db) :
    g ≠ p.g1 ∧ g ≠ p.g2 ∧ g ≠ p.g3 ∧ g ≠ p.g4 := by
  have key : ∀ {x c : Nat} {xss : List (List Nat)}, RowsIs w B x c xss → g ≠ x := by
    intro x c xss hr he
    subst he
    exact absurd (h.own.tag.uniq hr.tag) (by decide)
  exact ⟨key h.r1, key h.r2, key h.r3, key h.r4⟩
theorem mayG_nat {G N M : Nat} (h : mayG (G : Int) (N : Int) (M : Int)) : 1 ≤ G ∧ G ≤ 8 ∧ 4 ≤ N ∧ N ≤ 32 ∧ N % 4 = 0 ∧ 16 ≤ M ∧ M ≤ 96 := by unfold mayG at h; omega
theorem SpaceAt.nodes {w : World} {B g : Nat} {p : Pl} {G N M : Nat} {tn dn tb db : List (List Nat)} (h : SpaceAt w B g p G N M tn dn tb db) : SetAt w B g 3 N p.g1 p.c1 p.g2 p.c2 tn dn := by
  obtain ⟨a1, a2, a3, a4⟩ := h.nog
  have hm := mayG_nat h.may
  refine ⟨?_, ?_, ?_, h.r1, h.r2, h.n12, a1, a2, by omega, h.w1, h.w2, by rw [h.l1, h.l2], by rw [h.l1]; omega⟩
  · rw [h.own.cellAt 3 (by omega)]; rfl
  · rw [h.own.cellAt 4 (by omega), h.l1]; rfl
  · rw [h.own.cellAt 5 (by omega), h.l2]; rfl
theorem SpaceAt.blocks {w : World} {B g : Nat} {p : Pl} {G N M : Nat} {tn dn tb db : List (List Nat)} (h : SpaceAt w B g p G N M tn dn tb db) : SetAt w B g 6 M p.g3 p.c3 p.g4 p.c4 tb db := by
  obtain ⟨a1, a2, a3, a4⟩ := h.nog
  have hm := mayG_nat h.may
  refine ⟨?_, ?_, ?_, h.r3, h.r4, h.n34, a3, a4, by omega, h.w3, h.w4, by rw [h.l3, h.l4], by rw [h.l3]; omega⟩
  · rw [h.own.cellAt 6 (by omega)]; rfl
  · rw [h.own.cellAt 7 (by omega), h.l3]; rfl
  · rw [h.own.cellAt 8 (by omega), h.l4]; rfl
theorem SpaceAt.no8 {w : World} {B g : Nat} {c : Nat} {xss : List (List Nat)} (h : RowsIs w B g c xss) : ∀ x ∈ [g], ¬ Tag w x 5 := by
  intro x hx ht
  rw [List.mem_singleton] at hx
  subst hx
  exact absurd (h.tag.uniq ht) (by decide)
/-- Behind a call that turned other things. -/
theorem SpaceAt.turn {w w' : World} {B g : Nat} {p : Pl} {G N M : Nat} {tn dn tb db : List (List Nat)} (h : SpaceAt w B g p G N M tn dn tb db) {gs : List Nat} (ht : Turned gs w w')
    (hs : ∀ x ∈ gs, ¬ Tag w x 64) (hr : ∀ x ∈ gs, ¬ Tag w x 43) (h8 : ∀ x ∈ gs, ¬ Tag w x 5) : SpaceAt w' B g p G N M tn dn tb db :=
  { h with
    own := ht.own h.own (h.own.off hs)
    r1 := h.r1.turn ht (fun hx => hr _ hx h.r1.tag) h8
    r2 := h.r2.turn ht (fun hx => hr _ hx h.r2.tag) h8
    r3 := h.r3.turn ht (fun hx => hr _ hx h.r3.tag) h8
    r4 := h.r4.turn ht (fun hx => hr _ hx h.r4.tag) h8 }
theorem SpaceAt.ext {w w' : World} {B g : Nat} {p : Pl} {G N M : Nat} {tn dn tb db : List (List Nat)} (h : SpaceAt w B g p G N M tn dn tb db) (hE : Ext w w') : SpaceAt w' B g p G N M tn dn tb db :=
  h.turn (hE.turned []) (by simp) (by simp) (by simp)
theorem set_wf {n : Nat} {t : List (List Nat)} {k : Nat} {xs : List Nat} (h : ∀ xs ∈ t, xs.length = n) (hx : xs.length = n) : ∀ ys ∈ t.set k xs, ys.length = n := by
  intro ys hy
  rcases List.mem_or_eq_of_mem_set hy with h1 | rfl
  · exact h ys h1
  · exact hx
theorem SpaceAt.put1 {w w' : World} {B g : Nat} {p : Pl} {G N M : Nat} {tn dn tb db t' : List (List Nat)} (h : SpaceAt w B g p G N M tn dn tb db) (ht : Turned [p.g1] w w') (hr : RowsIs w' B p.g1 p.c1 t')
    (hl : t'.length = G) (hw : ∀ xs ∈ t', xs.length = (N + 7) / 8) : SpaceAt w' B g p G N M t' dn tb db := by
  obtain ⟨a1, a2, a3, a4⟩ := h.nog
  have h8 := SpaceAt.no8 h.r1
  have n1 := h.n12; have n2 := h.n13; have n3 := h.n14
  exact { h with own := ht.own h.own (fun a ha => by cases ha; simpa using a1), r1 := hr, r2 := h.r2.turn ht (by simp; omega) h8, r3 := h.r3.turn ht (by simp; omega) h8, r4 := h.r4.turn ht (by simp; omega) h8, l1 := hl, w1 := hw }
theorem SpaceAt.put2 {w w' : World} {B g : Nat} {p : Pl} {G N M : Nat} {tn dn tb db t' : List (List Nat)} (h : SpaceAt w B g p G N M tn dn tb db) (ht : Turned [p.g2] w w') (hr : RowsIs w' B p.g2 p.c2 t')
    (hl : t'.length = G) (hw : ∀ xs ∈ t', xs.length = (N + 7) / 8) : SpaceAt w' B g p G N M tn t' tb db := by
  obtain ⟨a1, a2, a3, a4⟩ := h.nog
  have h8 := SpaceAt.no8 h.r2
  have n1 := h.n12; have n2 := h.n23; have n3 := h.n24
  exact { h with own := ht.own h.own (fun a ha => by cases ha; simpa using a2), r1 := h.r1.turn ht (by simp; omega) h8, r2 := hr, r3 := h.r3.turn ht (by simp; omega) h8, r4 := h.r4.turn ht (by simp; omega) h8, l2 := hl, w2 := hw }
theorem SpaceAt.put3 {w w' : World} {B g : Nat} {p : Pl} {G N M : Nat} {tn dn tb db t' : List (List Nat)} (h : SpaceAt w B g p G N M tn dn tb db) (ht : Turned [p.g3] w w') (hr : RowsIs w' B p.g3 p.c3 t')
    (hl : t'.length = G) (hw : ∀ xs ∈ t', xs.length = (M + 7) / 8) : SpaceAt w' B g p G N M tn dn t' db := by
  obtain ⟨a1, a2, a3, a4⟩ := h.nog
  have h8 := SpaceAt.no8 h.r3
  have n1 := h.n13; have n2 := h.n23; have n3 := h.n34
  exact { h with own := ht.own h.own (fun a ha => by cases ha; simpa using a3), r1 := h.r1.turn ht (by simp; omega) h8, r2 := h.r2.turn ht (by simp; omega) h8, r3 := hr, r4 := h.r4.turn ht (by simp; omega) h8, l3 := hl, w3 := hw }
theorem SpaceAt.put4 {w w' : World} {B g : Nat} {p : Pl} {G N M : Nat} {tn dn tb db t' : List (List Nat)} (h : SpaceAt w B g p G N M tn dn tb db) (ht : Turned [p.g4] w w') (hr : RowsIs w' B p.g4 p.c4 t')
    (hl : t'.length = G) (hw : ∀ xs ∈ t', xs.length = (M + 7) / 8) : SpaceAt w' B g p G N M tn dn tb t' := by
  obtain ⟨a1, a2, a3, a4⟩ := h.nog
  have h8 := SpaceAt.no8 h.r4
  have n1 := h.n14; have n2 := h.n24; have n3 := h.n34
  exact { h with own := ht.own h.own (fun a ha => by cases ha; simpa using a4), r1 := h.r1.turn ht (by simp; omega) h8, r2 := h.r2.turn ht (by simp; omega) h8, r3 := h.r3.turn ht (by simp; omega) h8, r4 := hr, l4 := hl, w4 := hw }
end Go.Proofs.Ytillhbbeghbfeaa
