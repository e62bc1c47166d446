/- append onto one of two slices of floats of the call's own; Low. -/
import Derived.Test.YtillhbbeghbfeaaDoorMea
namespace Go.Proofs.YtillhbbeghbfeaaDoor
set_option linter.unusedVariables false
set_option linter.unusedSimpArgs false
open Go.RowKit

/-- Where a slice lies behind an append: where it lay, or in a new block. -/
def Grew (w : World) (A A' : Option Addr) : Prop := ∀ x, A' = some x → (∃ y, A = some y ∧ y.block = x.block) ∨ w.heap.size ≤ x.block
/-- Two slices share no block. -/
def Apart (A B : Option Addr) : Prop := ∀ x y, A = some x → B = some y → x.block ≠ y.block
theorem Apart.symm {A B : Option Addr} (h : Apart A B) : Apart B A := fun x y hx hy e => h y x hy hx e.symm
theorem Apart.nil (B : Option Addr) : Apart none B := fun x y hx hy => by cases hx
theorem Apart.grew {w w0 : World} {A A' B : Option Addr} {e b n c : Nat} {xs : List Value} (h : Apart A B) (hg : Grew w A A') (hB : Own w0 b e B n c xs) (hE : w0.heap.size ≤ w.heap.size) : Apart A' B := by
  intro x y hx hy he
  subst hy
  have hk := hB.block y.block rfl
  rcases hg x hx with ⟨z, hz, hz2⟩ | hz
  · exact h z y hz rfl (by omega)
  · omega
theorem Apart.row {A B : Option Addr} {n c : Nat} (h : Apart A B) : ∀ a, B = some a → some a.block ≠ (Value.slice A n c).ownBlock := by
  intro b hb he
  cases A with
  | none => cases he
  | some a =>
    have e : a.block = b.block := by
      have : (Value.slice (some a) n c).ownBlock = some a.block := rfl
      rw [this] at he
      injection he with he
      exact he.symm
    exact h a b rfl hb e

theorem run_app2 {P : Program} {w : World} (B : Nat) (t ty e : TypeId) (i : TypeInfo) (z : Value) (bytes : Nat) (ht : P.underlying t = some (.slice e)) (hi : P.info? e = some i) (hz : i.zero = some z)
    (hsize : i.size = 1) (hby : i.bytes = bytes) (hzs : z.cells.size = 1)
    (A : Option Addr) (n c : Nat) (xs : List Value) (hown : Own w B e A n c xs)
    (A2 : Option Addr) (m c2 : Nat) (ys : List Value) (hsl : Sl w A2 m c2 ys) (hbytes : (n + m) * bytes ≤ 140737488355328) (hby0 : 0 < bytes) (hB : B ≤ w.heap.size) :
    ∃ A' c' w', (Builtin.append_ #[t, t] ty #[.slice A n c, .slice A2 m c2]).run P w = .ok (.slice A' (n + m) c') w' ∧ Own w' B e A' (n + m) c' (xs ++ ys) ∧ w.grownBy w' (Value.slice A n c).ownBlock ∧ Grew w A A' := by
  have hnm : n + m ≤ 140737488355328 := Nat.le_trans (Nat.le_mul_of_pos_right _ hby0) hbytes
  cases A with
  | none =>
    have hs := hown.sl
    have hc0 := hs.nil rfl
    have hn0 : n = 0 := by have := hs.nc; omega
    subst hc0 hn0
    have hx : xs = [] := List.eq_nil_of_length_eq_zero hs.len
    subst hx
    obtain ⟨A', c', w', h1, h2, h3⟩ := run_app (P := P) (w := w) w.heap.size t ty e i z bytes ht hi hz hsize hby hzs none 0 0 [] (Own.nilS _ _ _) A2 m c2 ys hsl hbytes hby0 (Nat.le_refl _)
    refine ⟨A', c', w', h1, h2.low hB, h3, fun x hx => .inr ?_⟩
    subst hx
    exact (h2.block x.block rfl).1
  | some a =>
    obtain ⟨A', c', w', h1, h2, h3⟩ := run_app (P := P) (w := w) B t ty e i z bytes ht hi hz hsize hby hzs (some a) n c xs hown A2 m c2 ys hsl hbytes hby0 hB
    refine ⟨A', c', w', h1, h2, h3, ?_⟩
    rcases hown.1.2 with ⟨hv, _⟩ | ⟨g, cap, cur, hv, hB', hh, hnc, hcm, hss, htk⟩
    · simp at hv
    simp at hv
    obtain ⟨rfl, rfl⟩ := hv
    cases A2 with
    | none =>
      have hc2 := hsl.nil rfl
      have hm : m = 0 := by have := hsl.nc; omega
      subst hc2 hm
      have h4 := run_append_owned_none (P := P) w B t ty e i 1 ht hi _ n xs hown.1
      rw [h4] at h1
      injection h1 with h1
      intro x hx
      rw [hx] at h1
      simp at h1
      exact .inl ⟨_, rfl, by rw [h1.1]⟩
    | some a2 =>
      have hcells : ∀ (D : Addr) (k d : Nat) (vs : List Value), Sl w (some D) k d vs → ∀ j u, vs[j]? = some u → w.cell? (D.add j) = some u := by
        intro D k d vs h j u hu
        obtain ⟨b, o, hA, hc⟩ := h.cell j u hu
        injection hA with hA
        subst hA
        rw [Addr.add_lit]
        exact hc
      have hl2 : ys.length = m * i.size := by rw [hsize, Nat.mul_one]; exact hsl.len
      by_cases hroom : n + m ≤ c
      · have hr := run_append_room (P := P) w t ty e i ht hi g n c cur hh a2 m c2 ys hl2 (hcells _ _ _ _ hsl) hsl.one hroom (by rw [hsize]; have := hsl.len; omega)
        rw [hr] at h1
        injection h1 with h1
        intro x hx
        rw [hx] at h1
        simp at h1
        exact .inl ⟨_, rfl, by rw [← h1.1]⟩
      · have hs := hown.sl
        have hr := run_append_grow (P := P) w t ty e i z ht hi hz ⟨g, 0, none⟩ n c xs (by rw [hsize, Nat.mul_one]; exact hs.len) (hcells _ _ _ _ hs) a2 m c2 ys hl2 (hcells _ _ _ _ hsl) (by omega) (by omega) (growslice_fits (by omega) (by rw [hby]; exact hbytes))
        rw [hr] at h1
        injection h1 with h1
        intro x hx
        rw [hx] at h1
        simp at h1
        exact .inr (by rw [← h1.1]; exact Nat.le_refl _)

theorem wpList_app2 {P : Program} {w : World} {ops : Array Oper} {rest : List Oper} {o : Oper} {a : Act} {Q : Exit → Act → World → Prop} (hgd : o.guard = none) (s x : Operand) (t : TypeId)
    (ho : o.op = .call { callee := .builtin .append, args := #[s, x], argTypes := #[t, t] })
    (B : Nat) (e : TypeId) (i : TypeInfo) (z : Value) (bytes : Nat) (ht : P.underlying t = some (.slice e)) (hi : P.info? e = some i) (hz : i.zero = some z)
    (hsize : i.size = 1) (hby : i.bytes = bytes) (hzs : z.cells.size = 1)
    (A : Option Addr) (n c : Nat) (xs : List Value) (hs : a.eval s = .slice A n c) (hown : Own w B e A n c xs)
    (A2 : Option Addr) (m c2 : Nat) (ys : List Value) (hx : a.eval x = .slice A2 m c2) (hsl : Sl w A2 m c2 ys) (hbytes : (n + m) * bytes ≤ 140737488355328) (hby0 : 0 < bytes) (hB : B ≤ w.heap.size)
    (h : ∀ A' c' w', Own w' B e A' (n + m) c' (xs ++ ys) → w.grownBy w' (Value.slice A n c).ownBlock → Grew w A A' → wpList P ops Q rest (a.put o.dst (.slice A' (n + m) c')) w') : wpList P ops Q (o :: rest) a w := by
  refine wpList_plain hgd fun K hK => ?_
  obtain ⟨A', c', w', hr, h2, h3, h4⟩ := run_app2 (P := P) (w := w) B t o.type e i z bytes ht hi hz hsize hby hzs A n c xs hown A2 m c2 ys hsl hbytes hby0 hB
  unfold Oper.wp execOp
  simp only [ho, resolve, invoke, builtin, Sem.run_bind, Sem.run_pure, Result.andThen_ok, List.map_toArray, List.map_cons, List.map_nil, hs, hx, hr]
  exact hK _ _ (h A' c' w' h2 h3 h4)


/-- append onto floats of the call's own, and where the new ones lie. -/
theorem appF2 {w : World} {ops : Array Oper} {rest : List Oper} {o : Oper} {a : Act} {Q : Exit → Act → World → Prop} (hgd : o.guard = none) (s x : Operand)
    (ho : o.op = .call { callee := .builtin .append, args := #[s, x], argTypes := #[34, 34] })
    (B : Nat) (A : Option Addr) (n c : Nat) (xs : List Value) (hs : a.eval s = .slice A n c) (hown : Own w B 24 A n c xs)
    (A2 : Option Addr) (m c2 : Nat) (ys : List Value) (hx : a.eval x = .slice A2 m c2) (hsl : Sl w A2 m c2 ys) (hbytes : n + m ≤ 1000000000000) (hB : B ≤ w.heap.size)
    (h : ∀ A' c' w', Own w' B 24 A' (n + m) c' (xs ++ ys) → w.grownBy w' (Value.slice A n c).ownBlock → Grew w A A' → wpList Tryd.prog ops Q rest (a.put o.dst (.slice A' (n + m) c')) w') : wpList Tryd.prog ops Q (o :: rest) a w := by
  obtain ⟨i0, hi0, hz0, hz1, hz2⟩ := info_parts info_fT
  exact wpList_app2 hgd s x 34 ho B 24 i0 _ 8 Tryd.underlying34 hi0 hz0 hz1 hz2 rfl A n c xs hs hown A2 m c2 ys hx hsl (by omega) (by omega) hB h
theorem ret_int {k : IntKind} {a b : Int} (h : a = b) : Ending.returned (.int k a) = .returned (.int k b) := by rw [h]
theorem low_walk (x : Int) (n : Nat) (hn : 0 < n) (hn2 : n < 1000000000) : wrap64 ((IntKind.u64.wrap x).tmod (n : Int)) = ((low x n : Nat) : Int) := by
  have hx : IntKind.u64.wrap x = x % 18446744073709551616 := by simp [IntKind.wrap, IntKind.bits, IntKind.signed]
  rw [hx]
  have h0 : 0 ≤ x % 18446744073709551616 := Int.emod_nonneg _ (by omega)
  rw [Int.tmod_eq_emod_of_nonneg h0]
  have e : (x % 18446744073709551616) % (n : Int) = ((low x n : Nat) : Int) := by
    unfold low
    rw [Int.natCast_emod, Int.toNat_of_nonneg h0]
  rw [e]
  have := low_lt x hn
  exact IntWalk.wrap64_in _ (by omega)
set_option maxHeartbeats 400000 in
theorem Low (x N : Int) (n : Nat) (w : World) (hN : N = n) (hn : 0 < n) (hn2 : n < 1000000000) :
    Calls Tryd.prog 11 #[.int .i64 x, .int .i64 N] w fun e w' => e = .returned (.int .i64 (low x n : Nat)) ∧ w = w' := by
  subst hN
  go_enter Tryd.func11, Tryd.ntmps11
  go_wp2
  go_ret
  exact ⟨ret_int (low_walk x n hn hn2), rfl⟩
end Go.Proofs.YtillhbbeghbfeaaDoor
