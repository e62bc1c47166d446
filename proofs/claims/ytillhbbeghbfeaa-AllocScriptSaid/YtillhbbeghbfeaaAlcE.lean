/- Contracts of spaces: empty ones. -/
import Derived.Test.YtillhbbeghbfeaaAlcX
import Derived.Test.YtillhbbeghbfeaaPiv
namespace Go.Proofs.Ytillhbbeghbfeaa
set_option linter.unusedVariables false
open Go.RowKit

/-- The slices of a slice of sets. -/
def RowAll (w : World) (B : Nat) (xss : List (List Nat)) (vs : List Value) : Prop :=
  ∀ (k : Nat) (xs : List Nat), xss[k]? = some xs → ∃ (A : Option Addr) (n cA : Nat), vs[k]? = some (Value.slice A n cA) ∧ Own w B 5 A n cA (by8 xs) ∧ Bytes xs
def RowsO (w : World) (B : Nat) (A : Option Addr) (c : Nat) (xss : List (List Nat)) : Prop := ∃ vs : List Value, Own w B 43 A xss.length c vs ∧ RowAll w B xss vs
theorem RowsO.is {w : World} {B g c : Nat} {xss : List (List Nat)} (h : RowsO w B (some ⟨g, 0, none⟩) c xss) : RowsIs w B g c xss := h
theorem RowAll.turn {w w' : World} {B : Nat} {xss : List (List Nat)} {vs : List Value} (h : RowAll w B xss vs) {gs : List Nat} (ht : Turned gs w w') (h8 : ∀ x ∈ gs, ¬ Tag w x 5) : RowAll w' B xss vs := fun k xs hk => by
  obtain ⟨A, n, cA, hv, hO, hb⟩ := h k xs hk
  exact ⟨A, n, cA, hv, ht.own hO (hO.off h8), hb⟩
theorem RowAll.ext {w w' : World} {B : Nat} {xss : List (List Nat)} {vs : List Value} (h : RowAll w B xss vs) (hE : Ext w w') : RowAll w' B xss vs := h.turn (hE.turned []) (by simp)
theorem row_tags {w : World} {B n c : Nat} {A : Option Addr} {vs : List Value} (h : Own w B 43 A n c vs) : ∀ x ∈ (Value.slice A n c).ownBlock.toList, ¬ Tag w x 5 := by
  intro x hx ht
  cases A with
  | none => simp [Value.ownBlock] at hx
  | some a =>
    have e : x = a.block := by simpa [Value.ownBlock] using hx
    subst e
    exact absurd (h.tag.uniq ht) (by decide)
/-- Behind an append to the one, the other one is as it was. -/
theorem RowAll.grown {w w2 : World} {B B' : Nat} {xss : List (List Nat)} {vs us : List Value} {A : Option Addr} {n c : Nat} (h : RowAll w B xss vs) (hA : Own w B' 43 A n c us) (hG : w.grownBy w2 (Value.slice A n c).ownBlock) : RowAll w2 B xss vs :=
  h.turn (Turned.grown hG) (row_tags hA)
theorem Own.beside {w w2 : World} {B e n c n2 c2 : Nat} {A A2 : Option Addr} {vs : List Value} (h : Own w B e A2 n2 c2 vs) (ha : Apart A A2) (hG : w.grownBy w2 (Value.slice A n c).ownBlock) : Own w2 B e A2 n2 c2 vs :=
  h.kept hG (Apart.row ha)
theorem RowAll.snoc {w : World} {B : Nat} {xss : List (List Nat)} {vs : List Value} {A : Option Addr} {n cA : Nat} {xs : List Nat} (h : RowAll w B xss vs) (hl : vs.length = xss.length) (hO : Own w B 5 A n cA (by8 xs)) (hb : Bytes xs) :
    RowAll w B (xss ++ [xs]) (vs ++ [Value.slice A n cA]) := by
  intro k ys hk
  by_cases hkl : k < xss.length
  · rw [List.getElem?_append_left hkl] at hk
    obtain ⟨A', n', c', hv, hO', hb'⟩ := h k ys hk
    exact ⟨A', n', c', by rw [List.getElem?_append_left (by omega)]; exact hv, hO', hb'⟩
  · have hkl' : k = xss.length := by
      have := (List.getElem?_eq_some_iff.1 hk).1
      simp at this
      omega
    subst hkl'
    rw [List.getElem?_append_right (Nat.le_refl _)] at hk
    simp at hk
    subst hk
    exact ⟨A, n, cA, by rw [← hl, List.getElem?_append_right (Nat.le_refl _)]; simp, hO, hb⟩
theorem row_far {w : World} {B e f n c g : Nat} {A : Option Addr} {vs : List Value} (h : Own w B e A n c vs) (hg : Tag w g f) (hne : e ≠ f) : g ∉ (Value.slice A n c).ownBlock.toList := by
  intro hx
  cases A with
  | none => simp [Value.ownBlock] at hx
  | some a =>
    have e : g = a.block := by simpa [Value.ownBlock] using hx
    subst e
    exact hne (h.tag.uniq hg)
theorem info_rowT : (Try.prog.info? 43).map (fun i => (i.zero, i.size, i.bytes)) = some (some (.slice none 0 0), 1, 24) := by kernel_rfl
theorem stepR {w : World} {ops : Array Oper} {o : Oper} {a : Act} {K : Act → World → Prop} {Q : Exit → Act → World → Prop} {E : Prop} (hgd : o.guard = none) (s x : Operand)
    (ho : o.op = .call { callee := .builtin .append, args := #[s, x], argTypes := #[59, 59] })
    (B : Nat) (A : Option Addr) (n c : Nat) (xs : List Value) (hs : a.eval s = .slice A n c) (hown : Own w B 43 A n c xs)
    (A2 : Option Addr) (m c2 : Nat) (ys : List Value) (hx : a.eval x = .slice A2 m c2) (hsl : Sl w A2 m c2 ys) (hbytes : n + m ≤ 1000000000000) (hB : B ≤ w.heap.size)
    (h : ∀ A' c' w', Own w' B 43 A' (n + m) c' (xs ++ ys) → w.grownBy w' (Value.slice A n c).ownBlock → Grew w A A' → K (a.put o.dst (.slice A' (n + m) c')) w') :
    if Region.wanted o (yielded ops a.tmps) = true then Oper.wp Try.prog o a w K Q else E := by
  rw [if_pos (by simp [Region.wanted, hgd])]
  obtain ⟨i0, hi0, hz0, hz1, hz2⟩ := info_parts info_rowT
  obtain ⟨A', c', w', hr, h2, h3, h4⟩ := run_app2 (P := Try.prog) (w := w) B 59 o.type 43 i0 _ 24 Try.underlying59 hi0 hz0 hz1 hz2 rfl A n c xs hown A2 m c2 ys hsl (by omega) (by omega) hB
  unfold Oper.wp execOp
  simp only [ho, resolve, invoke, builtin, Sem.run_bind, Sem.run_pure, Result.andThen_ok, List.map_toArray, List.map_cons, List.map_nil, hs, hx, hr]
  exact h A' c' w' h2 h3 h4
def zr (N : Nat) : List Nat := List.replicate ((N + 7) / 8) 0
theorem zr_of (N : Nat) : ofB N [] = zr N := rfl
theorem agg_set (w : World) : (isAgg 61).run Try.prog w = .ok true w := by kernel_rfl
theorem info_set : (Try.prog.info? 61).map (·.size) = some 3 := by kernel_rfl
theorem zero_set : (Try.prog.info? 61).map (·.zero) = some (some (.agg [.int .i64 0, .slice none 0 0, .slice none 0 0].toArray)) := by kernel_rfl
theorem bld_set (x : Int) (w : World) : (Instr.build 61 #[(0, .int .i64 x)]).run Try.prog w = .ok (.agg [.int .i64 x, .slice none 0 0, .slice none 0 0].toArray) w := by kernel_rfl

def setV (N : Nat) (A1 : Option Addr) (k c1 : Nat) (A2 : Option Addr) (c2 : Nat) : List Value := [.int .i64 (N : Int), .slice A1 k c1, .slice A2 k c2]
theorem setV_one (N : Nat) (A1 : Option Addr) (k c1 : Nat) (A2 : Option Addr) (c2 : Nat) : ∀ u ∈ setV N A1 k c1 A2 c2, u.oneCell' = true := by simp [setV, Value.oneCell']
/-- Where an empty set is being made. -/
structure Emp (w0 w : World) (g0 gW : Nat) (N : Nat) (X1 X2 : Value) (A1 : Option Addr) (n1 c1 : Nat) (xss1 : List (List Nat)) (vs1 : List Value) (A2 : Option Addr) (n2 c2 : Nat) (xss2 : List (List Nat)) (vs2 : List Value) : Prop where
  s : Own w w0.heap.size 61 (some ⟨g0, 0, none⟩) 3 3 [.int .i64 (N : Int), X1, X2]
  o1 : Own w w0.heap.size 43 A1 n1 c1 vs1
  r1 : RowAll w w0.heap.size xss1 vs1
  l1 : xss1.length = n1
  o2 : Own w w0.heap.size 43 A2 n2 c2 vs2
  r2 : RowAll w w0.heap.size xss2 vs2
  l2 : xss2.length = n2
  ap : Apart A1 A2
  hw : Own w w0.heap.size 61 (some ⟨gW, 0, none⟩) 3 3 [.int .i64 0, .slice none 0 0, .slice none 0 0]
  ne : gW ≠ g0
  ex : Ext w0 w
section
variable {w0 w w' : World} {g0 gW N : Nat} {X1 X2 : Value} {A1 : Option Addr} {n1 c1 : Nat} {xss1 : List (List Nat)} {vs1 : List Value} {A2 : Option Addr} {n2 c2 : Nat} {xss2 : List (List Nat)} {vs2 : List Value}
theorem Emp.ext (h : Emp w0 w g0 gW N X1 X2 A1 n1 c1 xss1 vs1 A2 n2 c2 xss2 vs2) (hE : Ext w w') : Emp w0 w' g0 gW N X1 X2 A1 n1 c1 xss1 vs1 A2 n2 c2 xss2 vs2 :=
  { h with s := h.s.ext hE, o1 := h.o1.ext hE, r1 := h.r1.ext hE, o2 := h.o2.ext hE, r2 := h.r2.ext hE, hw := h.hw.ext hE, ex := h.ex.trans hE }
theorem Emp.cells (h : Emp w0 w g0 gW N X1 X2 A1 n1 c1 xss1 vs1 A2 n2 c2 xss2 vs2) : w.cell? ⟨g0, 1, none⟩ = some X1 ∧ w.cell? ⟨g0, 2, none⟩ = some X2 := ⟨h.s.cellAt 1 (by omega), h.s.cellAt 2 (by omega)⟩
theorem Emp.app1 (h : Emp w0 w g0 gW N X1 X2 A1 n1 c1 xss1 vs1 A2 n2 c2 xss2 vs2) {A3 A' : Option Addr} {n3 c3 c' : Nat} {xs : List Nat} (hO : Own w w0.heap.size 5 A3 n3 c3 (by8 xs)) (hb : Bytes xs)
    (hN : Own w' w0.heap.size 43 A' (n1 + 1) c' (vs1 ++ [.slice A3 n3 c3])) (hG : w.grownBy w' (Value.slice A1 n1 c1).ownBlock) (hgr : Grew w A1 A') :
    Emp w0 w' g0 gW N X1 X2 A' (n1 + 1) c' (xss1 ++ [xs]) (vs1 ++ [.slice A3 n3 c3]) A2 n2 c2 xss2 vs2 := by
  have hf := row_far h.o1 h.s.tag (by decide)
  have hfW := row_far h.o1 h.hw.tag (by decide)
  exact { s := (Turned.grown hG).own h.s (fun a ha => by cases ha; exact hf), o1 := hN, r1 := (h.r1.snoc (by rw [h.l1]; exact h.o1.len) hO hb).grown h.o1 hG, l1 := by simp [h.l1],
          o2 := h.o2.beside h.ap hG, r2 := h.r2.grown h.o1 hG, l2 := h.l2, ap := h.ap.grew hgr h.o2 (Nat.le_refl _), hw := (Turned.grown hG).own h.hw (fun a ha => by cases ha; exact hfW), ne := h.ne,
          ex := h.ex.grown hG (fun k hk => (h.o1.block k hk).1) }
theorem Emp.swap2 (h : Emp w0 w g0 gW N X1 X2 A1 n1 c1 xss1 vs1 A2 n2 c2 xss2 vs2) {A3 A' : Option Addr} {n3 c3 c' : Nat} {xs : List Nat} (hO : Own w w0.heap.size 5 A3 n3 c3 (by8 xs)) (hb : Bytes xs)
    (hN : Own w' w0.heap.size 43 A' (n2 + 1) c' (vs2 ++ [.slice A3 n3 c3])) (hG : w.grownBy w' (Value.slice A2 n2 c2).ownBlock) (hgr : Grew w A2 A') :
    Emp w0 w' g0 gW N X1 X2 A1 n1 c1 xss1 vs1 A' (n2 + 1) c' (xss2 ++ [xs]) (vs2 ++ [.slice A3 n3 c3]) := by
  have hf := row_far h.o2 h.s.tag (by decide)
  have hfW := row_far h.o2 h.hw.tag (by decide)
  exact { s := (Turned.grown hG).own h.s (fun a ha => by cases ha; exact hf), o2 := hN, r2 := (h.r2.snoc (by rw [h.l2]; exact h.o2.len) hO hb).grown h.o2 hG, l2 := by simp [h.l2],
          o1 := h.o1.beside h.ap.symm hG, r1 := h.r1.grown h.o2 hG, l1 := h.l1, ap := (h.ap.symm.grew hgr h.o1 (Nat.le_refl _)).symm, hw := (Turned.grown hG).own h.hw (fun a ha => by cases ha; exact hfW), ne := h.ne,
          ex := h.ex.grown hG (fun k hk => (h.o2.block k hk).1) }
theorem Emp.put (h : Emp w0 w g0 gW N X1 X2 A1 n1 c1 xss1 vs1 A2 n2 c2 xss2 vs2) (j : Nat) (X : Value) (hX : X.oneCell' = true) :
    Own (w.setCell ⟨g0, j, none⟩ X) w0.heap.size 61 (some ⟨g0, 0, none⟩) 3 3 ([Value.int .i64 (N : Int), X1, X2].set j X) ∧ Own (w.setCell ⟨g0, j, none⟩ X) w0.heap.size 43 A1 n1 c1 vs1 ∧ RowAll (w.setCell ⟨g0, j, none⟩ X) w0.heap.size xss1 vs1 ∧
      Own (w.setCell ⟨g0, j, none⟩ X) w0.heap.size 43 A2 n2 c2 vs2 ∧ RowAll (w.setCell ⟨g0, j, none⟩ X) w0.heap.size xss2 vs2 ∧ Own (w.setCell ⟨g0, j, none⟩ X) w0.heap.size 61 (some ⟨gW, 0, none⟩) 3 3 [.int .i64 0, .slice none 0 0, .slice none 0 0] ∧
      Ext w0 (w.setCell ⟨g0, j, none⟩ X) := by
  have hT := Turned.setCell w g0 j X
  have hno : ∀ x ∈ [g0], ¬ Tag w x 43 := by
    intro x hx ht; rw [List.mem_singleton] at hx; subst hx; exact absurd (h.s.tag.uniq ht) (by decide)
  have hn8 : ∀ x ∈ [g0], ¬ Tag w x 5 := by
    intro x hx ht; rw [List.mem_singleton] at hx; subst hx; exact absurd (h.s.tag.uniq ht) (by decide)
  exact ⟨h.s.store j X hX, hT.own h.o1 (h.o1.off hno), h.r1.turn hT hn8, hT.own h.o2 (h.o2.off hno), h.r2.turn hT hn8, hT.own h.hw (fun a ha => by cases ha; simpa using h.ne), h.ex.setCell (p := ⟨g0, j, none⟩) h.s.base X⟩
theorem Emp.st1 (h : Emp w0 w g0 gW N X1 X2 A1 n1 c1 xss1 vs1 A2 n2 c2 xss2 vs2) (X : Value) (hX : X.oneCell' = true) : Emp w0 (w.setCell ⟨g0, 1, none⟩ X) g0 gW N X X2 A1 n1 c1 xss1 vs1 A2 n2 c2 xss2 vs2 := by
  obtain ⟨p1, p2, p3, p4, p5, p6, p7⟩ := h.put 1 X hX
  exact { h with s := p1, o1 := p2, r1 := p3, o2 := p4, r2 := p5, hw := p6, ex := p7 }
theorem Emp.st2 (h : Emp w0 w g0 gW N X1 X2 A1 n1 c1 xss1 vs1 A2 n2 c2 xss2 vs2) (X : Value) (hX : X.oneCell' = true) : Emp w0 (w.setCell ⟨g0, 2, none⟩ X) g0 gW N X1 X A1 n1 c1 xss1 vs1 A2 n2 c2 xss2 vs2 := by
  obtain ⟨p1, p2, p3, p4, p5, p6, p7⟩ := h.put 2 X hX
  exact { h with s := p1, o1 := p2, r1 := p3, o2 := p4, r2 := p5, hw := p6, ex := p7 }
theorem Emp.fin (h : Emp w0 w g0 gW N X1 X2 A1 n1 c1 xss1 vs1 A2 n2 c2 xss2 vs2) (hG : w.grownBy w' (some gW)) : RowsO w' w0.heap.size A1 c1 xss1 ∧ RowsO w' w0.heap.size A2 c2 xss2 ∧ Ext w0 w' := by
  have hT : Turned [gW] w w' := Turned.grown hG
  have hno : ∀ x ∈ [gW], ¬ Tag w x 43 := by
    intro x hx ht; rw [List.mem_singleton] at hx; subst hx; exact absurd (h.hw.tag.uniq ht) (by decide)
  have hn8 : ∀ x ∈ [gW], ¬ Tag w x 5 := by
    intro x hx ht; rw [List.mem_singleton] at hx; subst hx; exact absurd (h.hw.tag.uniq ht) (by decide)
  exact ⟨⟨vs1, by rw [h.l1]; exact hT.own h.o1 (h.o1.off hno), h.r1.turn hT hn8⟩, ⟨vs2, by rw [h.l2]; exact hT.own h.o2 (h.o2.off hno), h.r2.turn hT hn8⟩, h.ex.grown hG (fun k hk => by cases hk; exact h.hw.base)⟩
end
theorem results_agg1 {P : Program} {w : World} {fn : Func} {p : Tmp} {t : TypeId} (h : fn.results = #[.cell p t]) (tmps : Array Value) {g n B e : Nat} {vs : List Value}
    (hp : tmps.getD p undef = .pointer (some ⟨g, 0, none⟩)) (hO : Own w B e (some ⟨g, 0, none⟩) n n vs) (hagg : ∀ w1, (isAgg t).run P w1 = .ok true w1)
    (hi : (P.info? t).map (·.size) = some n) : (results fn tmps).run P w = .ok (.agg vs.toArray) w := by
  have hl := run_loadVar_own t hO hagg hi
  have e : (results fn tmps).run P w = ((asAddr (tmps.getD p undef)).run P w).andThen fun a w₁ => (loadVar t a).run P w₁ := by
    simp only [results, h]
    simp [Sem.run_bind, Result.andThen]
  rw [e, hp]
  simp [asAddr, hl]
set_option maxHeartbeats 2000000 in
theorem alloc_empty (G N : Nat) (hG : G ≤ 1000) (hN : N ≤ 1000) (w : World) :
    Calls Try.prog 31 #[.int .i64 (G : Int), .int .i64 (N : Int)] w fun e w' => ∃ A1 c1 A2 c2, e = .returned (.agg (setV N A1 G c1 A2 c2).toArray) ∧
      RowsO w' w.heap.size A1 c1 (List.replicate G (zr N)) ∧ RowsO w' w.heap.size A2 c2 (List.replicate G (zr N)) ∧ Apart A1 A2 ∧ Ext w w' := by
  have hOf := fun (w1 : World) => bits_Of N (N : Int) rfl none 0 0 [] w1 (Sl.nilS _) (by simp) hN
  have hbz : Bytes (zr N) := Bytes.rep _
  have HOF := hide hOf
  have HBZ := hide hbz
  clear hOf hbz
  go_enter Try.func31, Try.ntmps31
  go_wp2_with (first
    | (with_reducible refine ag_alloc (o := ⟨some 4, _, _, _, _, _⟩) rfl 61 rfl _ 3 zero_set rfl (by omega) (by simp [Value.oneCell']) w.heap.size (Nat.le_refl _) ?_; intro w1 hR1 hE1 hz1)
    | (with_reducible refine ag_build rfl 61 _ rfl _ (bld_set _ _) ?_)
    | (with_reducible refine ag_alloc (o := ⟨some 5, _, _, _, _, _⟩) rfl 61 rfl _ 3 zero_set rfl (by omega) (by simp [Value.oneCell']) w.heap.size (by omega) ?_; intro w2 hR2 hE2 hz2)
    | (with_reducible refine ag_store (o := ⟨none, _, _, _, _, _⟩) rfl 61 (.tmp 5) (.tmp 7) rfl w1.heap.size 3 w.heap.size 61 _ _ rfl rfl hR2 rfl (by simp [Value.oneCell']) info_set ?_; intro w3 hR3 hG3))
  have hW : Own w3 w.heap.size 61 (some ⟨w.heap.size, 0, none⟩) 3 3 [.int .i64 0, .slice none 0 0, .slice none 0 0] := (hR1.ext hE2).kept hG3 (by simp; omega)
  have hE3 : Ext w w3 := (hE1.trans hE2).grown hG3 (by simp; omega)
  have hsz3 := hE3.size
  clear hG3 hR2 hE2 hz2
  go_loopw [9] (fun i wr => ∃ (k : Nat) (A1 : Option Addr) (c1 : Nat) (A2 : Option Addr) (c2 : Nat) (vs1 vs2 : List Value), k ≤ G ∧ i = .int .i64 k ∧
    Emp w wr w1.heap.size w.heap.size N (.slice A1 k c1) (.slice A2 k c2) A1 k c1 (List.replicate k (zr N)) vs1 A2 k c2 (List.replicate k (zr N)) vs2) (fun i _ => G - (intOf i).toNat)
  case atStart => exact ⟨0, none, 0, none, 0, [], [], by omega, rfl, ⟨hR3, Own.nilS _ _ _, (fun k xs h => by simp at h), rfl, Own.nilS _ _ _, (fun k xs h => by simp at h), rfl, Apart.nil _, hW, by omega, hE3⟩⟩
  case round =>
    obtain ⟨k, A1, c1, A2, c2, vs1, vs2, hk, rfl, hM⟩ := hrel
    have hsz := hM.ex.size
    by_cases hlt : k < G
    · obtain ⟨hs1, hs2⟩ := hM.cells
      go_wp2_with fail
      refine piv_begin 13 (fun w' => w'.cell? ⟨w1.heap.size, 1, none⟩ = some (.slice A1 k c1) ∧ w'.cell? ⟨w1.heap.size, 2, none⟩ = some (.slice A2 k c2)) (by kernel_rfl) ⟨hs1, hs2⟩ (fun hHeld => ?_)
      refine piv_take 0 rfl (by kernel_rfl) (by kernel_rfl) (by kernel_rfl) (by kernel_rfl) (by kernel_rfl) (fun _ _ _ _ h => h) (by rfl) ?_ ?_ (by assumption) ?_
      rotate_left
      · (intro wx hSx; (try dsimp only at hSx); go_simp)
        all_goals with_reducible rfl
      (try simp only [Act.put, List.setIfInBounds_toArray, List.set_cons_zero, List.set_cons_succ])
      refine piv_take 1 rfl (by kernel_rfl) (by kernel_rfl) (by kernel_rfl) (by kernel_rfl) (by kernel_rfl) (fun _ _ _ _ h => h) (by rfl) ?_ ?_ (by assumption) ?_
      rotate_left
      · (intro wx hSx; (try dsimp only at hSx); go_simp)
        all_goals with_reducible rfl
      (try simp only [Act.put, List.setIfInBounds_toArray, List.set_cons_zero, List.set_cons_succ])
      refine piv_take 2 rfl (by kernel_rfl) (by kernel_rfl) (by kernel_rfl) (by kernel_rfl) (by kernel_rfl) (fun _ _ _ _ h => h) (by rfl) ?_ ?_ (by assumption) ?_
      rotate_left
      · (intro wx hSx; (try dsimp only at hSx); go_simp)
        all_goals with_reducible rfl
      (try simp only [Act.put, List.setIfInBounds_toArray, List.set_cons_zero, List.set_cons_succ])
      refine piv_take 6 rfl (by kernel_rfl) (by kernel_rfl) (by kernel_rfl) (by kernel_rfl) (by kernel_rfl) (fun _ _ _ _ h => h) (by rfl) ?_ ?_ (by assumption) ?_
      rotate_left
      · (intro wx hSx; (try dsimp only at hSx); go_simp)
        all_goals with_reducible rfl
      (try simp only [Act.put, List.setIfInBounds_toArray, List.set_cons_zero, List.set_cons_succ])
      refine piv_take 7 rfl (by kernel_rfl) (by kernel_rfl) (by kernel_rfl) (by kernel_rfl) (by kernel_rfl) (fun _ _ _ _ h => h) (by rfl) ?_ ?_ (by assumption) ?_
      rotate_left
      · (intro wx hSx; (try dsimp only at hSx); go_simp)
        all_goals with_reducible rfl
      (try simp only [Act.put, List.setIfInBounds_toArray, List.set_cons_zero, List.set_cons_succ])
      refine piv_pure 8 rfl (by kernel_rfl) (by kernel_rfl) (by kernel_rfl) (by kernel_rfl) (fun _ _ _ _ h => h) (by rfl) ?_ ?_ (by assumption) ?_
      rotate_left
      · (intro wx _; go_simp)
        all_goals with_reducible rfl
      (try simp only [Act.put, List.setIfInBounds_toArray, List.set_cons_zero, List.set_cons_succ])
      refine piv_one 3 rfl (by kernel_rfl) (fun K hK => ?_)
      go_simp
      go_at_call 57
      refine (HOF.out _).mono ?_
      rintro e w4 ⟨A3, c3, rfl, hO3, hE4⟩
      go_wp2_with fail
      have hM4 := hM.ext (((Ext.refl wr).drew).trans hE4)
      have hsz4 := hM4.ex.size
      refine hK.out _ _ hM4.cells (fun hHeld => ?_)
      clear hK K hM hs1 hs2
      (try simp only [Act.put, List.setIfInBounds_toArray, List.set_cons_zero, List.set_cons_succ])
      refine piv_one 4 rfl (by kernel_rfl) (fun K hK => ?_)
      go_simp
      have hM5 := hM4.ext ((Ext.refl w4).alloc (.cells #[.slice A3 ((N + 7) / 8) c3] 43))
      refine hK.out _ _ hM5.cells (fun hHeld => ?_)
      clear hK K
      (try simp only [Act.put, List.setIfInBounds_toArray, List.set_cons_zero, List.set_cons_succ])
      refine piv_one 5 rfl (by kernel_rfl) (fun K hK => ?_)
      refine stepR (by rfl) (.tmp 12) (.tmp 15) (by rfl) w.heap.size A1 k c1 vs1 (by rfl) hM5.o1 _ 1 1 _ (by rfl) (Sl.lit w4 _ 43 1 rfl (by omega) (by simp [Value.oneCell'])) (by omega) hM5.ex.size ?_
      intro A4 c4 w6 hO6 hG6 hg6
      have hM6 := hM5.app1 ((hO3.ext ((Ext.refl w4).alloc (.cells #[.slice A3 ((N + 7) / 8) c3] 43))).low hsz) HBZ.out hO6 hG6 hg6
      have hsz6 := hM6.ex.size
      refine hK.out _ _ hM6.cells (fun hHeld => ?_)
      clear hK K hM5 hM4 hO6 hG6 hg6 hO3 hE4
      (try simp only [Act.put, List.setIfInBounds_toArray, List.set_cons_zero, List.set_cons_succ])
      refine piv_pure 12 rfl (by kernel_rfl) (by kernel_rfl) (by kernel_rfl) (by kernel_rfl) (fun _ _ _ _ h => h) (by rfl) ?_ ?_ (by assumption) ?_
      rotate_left
      · (intro wx _; go_simp)
        all_goals with_reducible rfl
      (try simp only [Act.put, List.setIfInBounds_toArray, List.set_cons_zero, List.set_cons_succ])
      refine piv_one 9 rfl (by kernel_rfl) (fun K hK => ?_)
      go_simp
      go_at_call 57
      refine (HOF.out _).mono ?_
      rintro e w7 ⟨A5, c5, rfl, hO7, hE7⟩
      go_wp2_with fail
      have hM7 := hM6.ext hE7
      have hsz7 := hM7.ex.size
      refine hK.out _ _ hM7.cells (fun hHeld => ?_)
      clear hK K hM6
      (try simp only [Act.put, List.setIfInBounds_toArray, List.set_cons_zero, List.set_cons_succ])
      refine piv_one 10 rfl (by kernel_rfl) (fun K hK => ?_)
      go_simp
      have hM8 := hM7.ext ((Ext.refl w7).alloc (.cells #[.slice A5 ((N + 7) / 8) c5] 43))
      refine hK.out _ _ hM8.cells (fun hHeld => ?_)
      clear hK K
      (try simp only [Act.put, List.setIfInBounds_toArray, List.set_cons_zero, List.set_cons_succ])
      refine piv_one 11 rfl (by kernel_rfl) (fun K hK => ?_)
      refine stepR (by rfl) (.tmp 18) (.tmp 21) (by rfl) w.heap.size A2 k c2 vs2 (by rfl) hM8.o2 _ 1 1 _ (by rfl) (Sl.lit w7 _ 43 1 rfl (by omega) (by simp [Value.oneCell'])) (by omega) hM8.ex.size ?_
      intro A6 c6 w9 hO9 hG9 hg9
      have hM9 := hM8.swap2 ((hO7.ext ((Ext.refl w7).alloc (.cells #[.slice A5 ((N + 7) / 8) c5] 43))).low hsz6) HBZ.out hO9 hG9 hg9
      have hsz9 := hM9.ex.size
      refine hK.out _ _ hM9.cells (fun hHeld => ?_)
      clear hK K hM7 hM8 hO9 hG9 hg9 hO7 hE7
      (try simp only [Act.put, List.setIfInBounds_toArray, List.set_cons_zero, List.set_cons_succ])
      have k1 := hM9.cells.1
      have k2 := hM9.cells.2
      have kf := hM9.s.frozenAt 1
      have hM10 := hM9.st1 (.slice A4 (k + 1) c4) rfl
      have k3 := hM10.cells.2
      have kf2 := hM10.s.frozenAt 2
      have hM11 := hM10.st2 (.slice A6 (k + 1) c6) rfl
      refine piv_late 13 rfl (by kernel_rfl) (by kernel_rfl) (fun K hK => ?_)
      go_simp
      refine hK.out _ _ ?_
      clear hK K
      (try simp only [Act.put, List.setIfInBounds_toArray, List.set_cons_zero, List.set_cons_succ])
      refine piv_late 14 rfl (by kernel_rfl) (by kernel_rfl) (fun K hK => ?_)
      go_simp
      refine hK.out _ _ ?_
      clear hK K
      (try simp only [Act.put, List.setIfInBounds_toArray, List.set_cons_zero, List.set_cons_succ])
      refine piv_late 15 rfl (by kernel_rfl) (by kernel_rfl) (fun K hK => ?_)
      go_simp
      refine hK.out _ _ ?_
      clear hK K
      (try simp only [Act.put, List.setIfInBounds_toArray, List.set_cons_zero, List.set_cons_succ])
      refine piv_done (by kernel_rfl) ?_ _
      go_wp2_with fail
      go_roundw
      case rel => exact ⟨k + 1, A4, c4, A6, c6, _, _, by omega, by go_num, by rw [List.replicate_succ']; exact hM11⟩
      case measure => simp [intOf]; omega
    · obtain rfl : k = G := by omega
      go_wp2_with (first
        | (with_reducible refine ag_load (o := ⟨some 26, _, _, _, _, _⟩) rfl 61 (.tmp 5) rfl w1.heap.size 3 w.heap.size 61 _ rfl hM.s agg_set info_set ?_)
        | (with_reducible refine ag_store (o := ⟨none, _, _, _, _, _⟩) rfl 61 (.tmp 4) (.tmp 26) rfl w.heap.size 3 w.heap.size 61 _ _ rfl rfl hM.hw rfl (by simp [Value.oneCell']) info_set ?_; intro w4 hR4 hG4))
      obtain ⟨f1, f2, f3⟩ := hM.fin hG4
      exact bodyPost_ret (results_agg1 rfl _ rfl hR4 agg_set info_set) rfl ⟨A1, c1, A2, c2, rfl, f1, f2, hM.ap, f3⟩
end Go.Proofs.Ytillhbbeghbfeaa
