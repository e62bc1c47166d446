/- append onto one of two slices of the call's own: where the new one lies. -/
import Derived.Test.YtillhbbeghbfeaaInts
namespace Go.Proofs.Ytillhbbeghbfeaa
set_option linter.unusedVariables false
open Go.RowKit

/-- Where a slice lies behind an append: where it lay, or in a new block. -/
def Grew (w : World) (A A' : Option Addr) : Prop := ∀ x, A' = some x → (∃ y, A = some y ∧ y.block = x.block) ∨ w.heap.size ≤ x.block
/-- Two slices share no block. -/
def Apart (A B : Option Addr) : Prop := ∀ x y, A = some x → B = some y → x.block ≠ y.block
theorem Apart.symm {A B : Option Addr} (h : Apart A B) : Apart B A := fun x y hx hy e => h y x hy hx e.symm
theorem Apart.nil (B : Option Addr) : Apart none B := fun x y hx hy => by cases hx
theorem Apart.grew {w w0 : World} {A A' B : Option Addr} {e b n c : Nat} {xs : List Value} (h : Apart A B) (hg : Grew w A A') (hB : Own w0 b e B n c xs) (hE : w0.heap.size ≤ w.heap.size) : Apart A' B := by
  intro x y hx hy he
  subst hy
  have hk := hB.block y.block rfl
  rcases hg x hx with ⟨z, hz, hz2⟩ | hz
  · exact h z y hz rfl (by omega)
  · omega
theorem Apart.row {A B : Option Addr} {n c : Nat} (h : Apart A B) : ∀ a, B = some a → some a.block ≠ (Value.slice A n c).ownBlock := by
  intro b hb he
  cases A with
  | none => cases he
  | some a =>
    have e : a.block = b.block := by
      have : (Value.slice (some a) n c).ownBlock = some a.block := rfl
      rw [this] at he
      injection he with he
      exact he.symm
    exact h a b rfl hb e

theorem run_app2 {P : Program} {w : World} (B : Nat) (t ty e : TypeId) (i : TypeInfo) (z : Value) (bytes : Nat) (ht : P.underlying t = some (.slice e)) (hi : P.info? e = some i) (hz : i.zero = some z)
    (hsize : i.size = 1) (hby : i.bytes = bytes) (hzs : z.cells.size = 1)
    (A : Option Addr) (n c : Nat) (xs : List Value) (hown : Own w B e A n c xs)
    (A2 : Option Addr) (m c2 : Nat) (ys : List Value) (hsl : Sl w A2 m c2 ys) (hbytes : (n + m) * bytes ≤ 140737488355328) (hby0 : 0 < bytes) (hB : B ≤ w.heap.size) :
    ∃ A' c' w', (Builtin.append_ #[t, t] ty #[.slice A n c, .slice A2 m c2]).run P w = .ok (.slice A' (n + m) c') w' ∧ Own w' B e A' (n + m) c' (xs ++ ys) ∧ w.grownBy w' (Value.slice A n c).ownBlock ∧ Grew w A A' := by
  have hnm : n + m ≤ 140737488355328 := Nat.le_trans (Nat.le_mul_of_pos_right _ hby0) hbytes
  cases A with
  | none =>
    have hs := hown.sl
    have hc0 := hs.nil rfl
    have hn0 : n = 0 := by have := hs.nc; omega
    subst hc0 hn0
    have hx : xs = [] := List.eq_nil_of_length_eq_zero hs.len
    subst hx
    obtain ⟨A', c', w', h1, h2, h3⟩ := run_app (P := P) (w := w) w.heap.size t ty e i z bytes ht hi hz hsize hby hzs none 0 0 [] (Own.nilS _ _ _) A2 m c2 ys hsl hbytes hby0 (Nat.le_refl _)
    refine ⟨A', c', w', h1, h2.low hB, h3, fun x hx => .inr ?_⟩
    subst hx
    exact (h2.block x.block rfl).1
  | some a =>
    obtain ⟨A', c', w', h1, h2, h3⟩ := run_app (P := P) (w := w) B t ty e i z bytes ht hi hz hsize hby hzs (some a) n c xs hown A2 m c2 ys hsl hbytes hby0 hB
    refine ⟨A', c', w', h1, h2, h3, ?_⟩
    rcases hown.1.2 with ⟨hv, _⟩ | ⟨g, cap, cur, hv, hB', hh, hnc, hcm, hss, htk⟩
    · simp at hv
    simp at hv
    obtain ⟨rfl, rfl⟩ := hv
    cases A2 with
    | none =>
      have hc2 := hsl.nil rfl
      have hm : m = 0 := by have := hsl.nc; omega
      subst hc2 hm
      have h4 := run_append_owned_none (P := P) w B t ty e i 1 ht hi _ n xs hown.1
      rw [h4] at h1
      injection h1 with h1
      intro x hx
      rw [hx] at h1
      simp at h1
      exact .inl ⟨_, rfl, by rw [h1.1]⟩
    | some a2 =>
      have hcells : ∀ (D : Addr) (k d : Nat) (vs : List Value), Sl w (some D) k d vs → ∀ j u, vs[j]? = some u → w.cell? (D.add j) = some u := by
        intro D k d vs h j u hu
        obtain ⟨b, o, hA, hc⟩ := h.cell j u hu
        injection hA with hA
        subst hA
        rw [Addr.add_lit]
        exact hc
      have hl2 : ys.length = m * i.size := by rw [hsize, Nat.mul_one]; exact hsl.len
      by_cases hroom : n + m ≤ c
      · have hr := run_append_room (P := P) w t ty e i ht hi g n c cur hh a2 m c2 ys hl2 (hcells _ _ _ _ hsl) hsl.one hroom (by rw [hsize]; have := hsl.len; omega)
        rw [hr] at h1
        injection h1 with h1
        intro x hx
        rw [hx] at h1
        simp at h1
        exact .inl ⟨_, rfl, by rw [← h1.1]⟩
      · have hs := hown.sl
        have hr := run_append_grow (P := P) w t ty e i z ht hi hz ⟨g, 0, none⟩ n c xs (by rw [hsize, Nat.mul_one]; exact hs.len) (hcells _ _ _ _ hs) a2 m c2 ys hl2 (hcells _ _ _ _ hsl) (by omega) (by omega) (growslice_fits (by omega) (by rw [hby]; exact hbytes))
        rw [hr] at h1
        injection h1 with h1
        intro x hx
        rw [hx] at h1
        simp at h1
        exact .inr (by rw [← h1.1]; exact Nat.le_refl _)

theorem wpList_app2 {P : Program} {w : World} {ops : Array Oper} {rest : List Oper} {o : Oper} {a : Act} {Q : Exit → Act → World → Prop} (hgd : o.guard = none) (s x : Operand) (t : TypeId)
    (ho : o.op = .call { callee := .builtin .append, args := #[s, x], argTypes := #[t, t] })
    (B : Nat) (e : TypeId) (i : TypeInfo) (z : Value) (bytes : Nat) (ht : P.underlying t = some (.slice e)) (hi : P.info? e = some i) (hz : i.zero = some z)
    (hsize : i.size = 1) (hby : i.bytes = bytes) (hzs : z.cells.size = 1)
    (A : Option Addr) (n c : Nat) (xs : List Value) (hs : a.eval s = .slice A n c) (hown : Own w B e A n c xs)
    (A2 : Option Addr) (m c2 : Nat) (ys : List Value) (hx : a.eval x = .slice A2 m c2) (hsl : Sl w A2 m c2 ys) (hbytes : (n + m) * bytes ≤ 140737488355328) (hby0 : 0 < bytes) (hB : B ≤ w.heap.size)
    (h : ∀ A' c' w', Own w' B e A' (n + m) c' (xs ++ ys) → w.grownBy w' (Value.slice A n c).ownBlock → Grew w A A' → wpList P ops Q rest (a.put o.dst (.slice A' (n + m) c')) w') : wpList P ops Q (o :: rest) a w := by
  refine wpList_plain hgd fun K hK => ?_
  obtain ⟨A', c', w', hr, h2, h3, h4⟩ := run_app2 (P := P) (w := w) B t o.type e i z bytes ht hi hz hsize hby hzs A n c xs hown A2 m c2 ys hsl hbytes hby0 hB
  unfold Oper.wp execOp
  simp only [ho, resolve, invoke, builtin, Sem.run_bind, Sem.run_pure, Result.andThen_ok, List.map_toArray, List.map_cons, List.map_nil, hs, hx, hr]
  exact hK _ _ (h A' c' w' h2 h3 h4)

/-- append onto numbers of the call's own. -/
theorem appI2 {w : World} {ops : Array Oper} {rest : List Oper} {o : Oper} {a : Act} {Q : Exit → Act → World → Prop} (hgd : o.guard = none) (s x : Operand)
    (ho : o.op = .call { callee := .builtin .append, args := #[s, x], argTypes := #[51, 51] })
    (B : Nat) (A : Option Addr) (n c : Nat) (xs : List Value) (hs : a.eval s = .slice A n c) (hown : Own w B 3 A n c xs)
    (A2 : Option Addr) (m c2 : Nat) (ys : List Value) (hx : a.eval x = .slice A2 m c2) (hsl : Sl w A2 m c2 ys) (hbytes : n + m ≤ 1000000000000) (hB : B ≤ w.heap.size)
    (h : ∀ A' c' w', Own w' B 3 A' (n + m) c' (xs ++ ys) → w.grownBy w' (Value.slice A n c).ownBlock → Grew w A A' → wpList Try.prog ops Q rest (a.put o.dst (.slice A' (n + m) c')) w') : wpList Try.prog ops Q (o :: rest) a w := by
  obtain ⟨i0, hi0, hz0, hz1, hz2⟩ := info_parts info_intT
  exact wpList_app2 hgd s x 51 ho B 3 i0 _ 8 Try.underlying51 hi0 hz0 hz1 hz2 rfl A n c xs hs hown A2 m c2 ys hx hsl (by omega) (by omega) hB h
/-- append onto bytes of the call's own, and where the new ones lie. -/
theorem app8b {w : World} {ops : Array Oper} {rest : List Oper} {o : Oper} {a : Act} {Q : Exit → Act → World → Prop} (hgd : o.guard = none) (s x : Operand)
    (ho : o.op = .call { callee := .builtin .append, args := #[s, x], argTypes := #[43, 43] })
    (B : Nat) (A : Option Addr) (n c : Nat) (xs : List Value) (hs : a.eval s = .slice A n c) (hown : Own w B 5 A n c xs)
    (A2 : Option Addr) (m c2 : Nat) (ys : List Value) (hx : a.eval x = .slice A2 m c2) (hsl : Sl w A2 m c2 ys) (hbytes : n + m ≤ 140737488355328) (hB : B ≤ w.heap.size)
    (h : ∀ A' c' w', Own w' B 5 A' (n + m) c' (xs ++ ys) → w.grownBy w' (Value.slice A n c).ownBlock → Grew w A A' → wpList Try.prog ops Q rest (a.put o.dst (.slice A' (n + m) c')) w') : wpList Try.prog ops Q (o :: rest) a w := by
  obtain ⟨i0, hi0, hz0, hz1, hz2⟩ := info_parts info_u8
  exact wpList_app2 hgd s x 43 ho B 5 i0 _ 1 Try.underlying43 hi0 hz0 hz1 hz2 rfl A n c xs hs hown A2 m c2 ys hx hsl (by omega) (by omega) hB h
/-- The same, as a step of a region that draws its order. -/
theorem step8b {w : World} {ops : Array Oper} {o : Oper} {a : Act} {K : Act → World → Prop} {Q : Exit → Act → World → Prop} {E : Prop} (hgd : o.guard = none) (s x : Operand)
    (ho : o.op = .call { callee := .builtin .append, args := #[s, x], argTypes := #[43, 43] })
    (B : Nat) (A : Option Addr) (n c : Nat) (xs : List Value) (hs : a.eval s = .slice A n c) (hown : Own w B 5 A n c xs)
    (A2 : Option Addr) (m c2 : Nat) (ys : List Value) (hx : a.eval x = .slice A2 m c2) (hsl : Sl w A2 m c2 ys) (hbytes : n + m ≤ 140737488355328) (hB : B ≤ w.heap.size)
    (h : ∀ A' c' w', Own w' B 5 A' (n + m) c' (xs ++ ys) → w.grownBy w' (Value.slice A n c).ownBlock → Grew w A A' → K (a.put o.dst (.slice A' (n + m) c')) w') :
    if Region.wanted o (yielded ops a.tmps) = true then Oper.wp Try.prog o a w K Q else E := by
  rw [if_pos (by simp [Region.wanted, hgd])]
  obtain ⟨i0, hi0, hz0, hz1, hz2⟩ := info_parts info_u8
  obtain ⟨A', c', w', hr, h2, h3, h4⟩ := run_app2 (P := Try.prog) (w := w) B 43 o.type 5 i0 _ 1 Try.underlying43 hi0 hz0 hz1 hz2 rfl A n c xs hown A2 m c2 ys hsl (by omega) (by omega) hB
  unfold Oper.wp execOp
  simp only [ho, resolve, invoke, builtin, Sem.run_bind, Sem.run_pure, Result.andThen_ok, List.map_toArray, List.map_cons, List.map_nil, hs, hx, hr]
  exact h A' c' w' h2 h3 h4
theorem grown_setCell (W : World) (b j : Nat) (v : Value) : W.grownBy (W.setCell ⟨b, j, none⟩ v) (some b) :=
  ⟨rfl, rfl, rfl, by rw [World.size_setCell]; exact Nat.le_refl _, fun k _ hk => Below.heap_setCell _ _ _ k (fun e => hk (by rw [e]))⟩
/-- A write to another block. -/
theorem Own.other {w : World} {B e h n c g : Nat} {vs : List Value} (hO : Own w B e (some ⟨h, 0, none⟩) n c vs) (hne : h ≠ g) (j : Nat) (v : Value) : Own (w.setCell ⟨g, j, none⟩ v) B e (some ⟨h, 0, none⟩) n c vs :=
  hO.kept (grown_setCell w g j v) (fun a ha he => by simp at ha; subst ha; simp at he; exact hne he)
end Go.Proofs.Ytillhbbeghbfeaa
