/- Lists of numbers in the seat of score: memory words, and contracts of the statements' own helpers. -/
import Derived.Test.YtillhbbeghbfeaaDoorSrtW
import Derived.Test.YtillhbbeghbfeaaDoorBst
import Derived.BigQuiet
import Derived.Deep.QuietTactic
namespace Go.Proofs.YtillhbbeghbfeaaDoor
set_option linter.unusedVariables false
set_option linter.unusedSimpArgs false
open Go.RowKit

theorem ret_bool {a b : Bool} (h : a = b) : Ending.returned (.bool a) = .returned (.bool b) := by rw [h]
theorem i64s_len (xs : List Int) : (i64s xs).length = xs.length := by simp [i64s]
theorem Sl.atI {w : World} {A : Option Addr} {n c : Nat} {xs : List Int} (h : Sl w A n c (i64s xs)) {k : Nat} (hk : k < n) :
    ∃ b o x, A = some ⟨b, o, none⟩ ∧ Hid (xs[k]? = some x) ∧ w.cell? ⟨b, o + k, none⟩ = some (.int .i64 x) := by
  obtain ⟨b, o, u, hA, hu, hc⟩ := h.at_ hk
  have hu' := hu.out
  simp only [i64s, List.getElem?_map, Option.map_eq_some_iff] at hu'
  obtain ⟨x, hx, rfl⟩ := hu'
  exact ⟨b, o, x, hA, hx, hc⟩
theorem i64s_append (xs ys : List Int) : i64s (xs ++ ys) = i64s xs ++ i64s ys := by simp [i64s]
theorem drop_consI {xs : List Int} {k : Nat} {x : Int} (h : xs[k]? = some x) : xs.drop k = x :: xs.drop (k + 1) := by
  obtain ⟨hk, he⟩ := List.getElem?_eq_some_iff.1 h
  rw [List.drop_eq_getElem_cons hk, he]
theorem info_intT : (Tryd.prog.info? 3).map (fun i => (i.zero, i.size, i.bytes)) = some (some (.int .i64 0), 1, 8) := by kernel_rfl

/-- append onto numbers of the call's own. -/
theorem appI {w : World} {ops : Array Oper} {rest : List Oper} {o : Oper} {a : Act} {Q : Exit → Act → World → Prop} (hgd : o.guard = none) (s x : Operand)
    (ho : o.op = .call { callee := .builtin .append, args := #[s, x], argTypes := #[33, 33] })
    (B : Nat) (A : Option Addr) (n c : Nat) (xs : List Value) (hs : a.eval s = .slice A n c) (hown : Own w B 3 A n c xs)
    (A2 : Option Addr) (m c2 : Nat) (ys : List Value) (hx : a.eval x = .slice A2 m c2) (hsl : Sl w A2 m c2 ys) (hbytes : n + m ≤ 1000000000000) (hB : B ≤ w.heap.size)
    (h : ∀ A' c' w', Own w' B 3 A' (n + m) c' (xs ++ ys) → w.grownBy w' (Value.slice A n c).ownBlock → wpList Tryd.prog ops Q rest (a.put o.dst (.slice A' (n + m) c')) w') : wpList Tryd.prog ops Q (o :: rest) a w := by
  obtain ⟨i0, hi0, hz0, hz1, hz2⟩ := info_parts info_intT
  exact wpList_app hgd s x 33 ho B 3 i0 _ 8 Tryd.underlying33 hi0 hz0 hz1 hz2 rfl A n c xs hs hown A2 m c2 ys hx hsl (by omega) (by omega) hB h

theorem mkI {w : World} {ops : Array Oper} {rest : List Oper} {o : Oper} {a : Act} {Q : Exit → Act → World → Prop}
    (hg : o.guard = none) (l cp : Operand) (hop : o.op = Op.makeSlice 33 l cp)
    (kl kc : IntKind) (L C : Int) (n c : Nat) (hl : a.eval l = .int kl L) (hc : a.eval cp = .int kc C) (hL : L = n) (hC : C = c) (hnc : n ≤ c) (hbytes : c ≤ 1000000000)
    (B : Nat) (hB : B ≤ w.heap.size)
    (hK : ∀ w', Own w' B 3 (some ⟨w.heap.size, 0, none⟩) c c (List.replicate c (.int .i64 0)) → Ext w w' → wpList Tryd.prog ops Q rest (a.put o.dst (.slice (some ⟨w.heap.size, 0, none⟩) n c)) w') :
    wpList Tryd.prog ops Q (o :: rest) a w :=
  wpList_mk hg l cp 33 hop 3 (.int .i64 0) 8 Tryd.underlying33 info_intT rfl rfl kl kc L C n c hl hc hL hC hnc (by omega) (by omega) B hB hK
theorem info_fT : (Tryd.prog.info? 24).map (fun i => (i.zero, i.size, i.bytes)) = some (some (.float .f64 0), 1, 8) := by kernel_rfl
/-- append onto floats of the call's own. -/
theorem appF {w : World} {ops : Array Oper} {rest : List Oper} {o : Oper} {a : Act} {Q : Exit → Act → World → Prop} (hgd : o.guard = none) (s x : Operand)
    (ho : o.op = .call { callee := .builtin .append, args := #[s, x], argTypes := #[34, 34] })
    (B : Nat) (A : Option Addr) (n c : Nat) (xs : List Value) (hs : a.eval s = .slice A n c) (hown : Own w B 24 A n c xs)
    (A2 : Option Addr) (m c2 : Nat) (ys : List Value) (hx : a.eval x = .slice A2 m c2) (hsl : Sl w A2 m c2 ys) (hbytes : n + m ≤ 1000000000000) (hB : B ≤ w.heap.size)
    (h : ∀ A' c' w', Own w' B 24 A' (n + m) c' (xs ++ ys) → w.grownBy w' (Value.slice A n c).ownBlock → wpList Tryd.prog ops Q rest (a.put o.dst (.slice A' (n + m) c')) w') : wpList Tryd.prog ops Q (o :: rest) a w := by
  obtain ⟨i0, hi0, hz0, hz1, hz2⟩ := info_parts info_fT
  exact wpList_app hgd s x 34 ho B 24 i0 _ 8 Tryd.underlying34 hi0 hz0 hz1 hz2 rfl A n c xs hs hown A2 m c2 ys hx hsl (by omega) (by omega) hB h
set_option maxHeartbeats 400000 in
theorem SameInts (A A2 : Option Addr) (n c m c2 : Nat) (xs ys : List Int) (w : World) (h : Sl w A n c (i64s xs)) (h2 : Sl w A2 m c2 (i64s ys)) :
    Calls Tryd.prog 28 #[.slice A n c, .slice A2 m c2] w fun e w' => e = .returned (.bool (decide (xs = ys))) ∧ ∃ k, w' = w.drewN k := by
  have hl : xs.length = n := by have := h.len; rwa [i64s_len] at this
  have hl2 : ys.length = m := by have := h2.len; rwa [i64s_len] at this
  have hm : n ≤ 9223372036854775807 := Nat.le_trans h.nc h.cm
  by_cases hnm : n = m
  · subst hnm
    have HL := hide hl
    have HL2 := hide hl2
    clear hl hl2
    go_enter Tryd.func28, Tryd.ntmps28
    go_wp2
    go_loopw [5] (fun i wr => ∃ k j : Nat, k ≤ n ∧ i = .int .i64 k ∧ wr = w.drewN j ∧ Hid ((xs = ys) ↔ (xs.drop k = ys.drop k))) (fun i _ => n - (intOf i).toNat)
    case atStart => exact ⟨0, 0, by omega, rfl, rfl, by simp [Hid]⟩
    case round =>
      obtain ⟨k, j, hk, rfl, rfl, hs⟩ := hrel
      by_cases hlt : k < n
      · obtain ⟨b, o, x, rfl, hx, hc⟩ := h.atI hlt
        obtain ⟨b2, o2, y, rfl, hy, hc2⟩ := h2.atI hlt
        have hi0 : (0 : Int) ≤ (k : Int) := by omega
        have hi1 : (k : Int) < (n : Int) := by omega
        by_cases hxy : x = y
        · subst hxy
          go_wp2
          go_quiet (fail)
          go_wp2
          go_roundw
          case rel => exact ⟨k + 1, j + nq, by omega, by go_num, rfl, by unfold Hid; rw [hs.out, drop_consI hx.out, drop_consI hy.out]; simp⟩
          case measure => simp [intOf]; omega
        · have e1 : (x == y) = false := by simpa using hxy
          have e2 : (x != y) = true := by simpa using hxy
          have HXY := hide hxy
          clear hxy
          go_wp2
          go_quiet (fail)
          go_wp2
          go_ret
          exact ⟨ret_bool (by symm; rw [decide_eq_false_iff_not, hs.out, drop_consI hx.out, drop_consI hy.out]; simp [HXY.out]), j + nq, World.drewN_drewN ..⟩
      · go_wp2
        go_ret
        have e1 : xs.drop k = [] := List.drop_eq_nil_of_le (by rw [HL.out]; omega)
        have e2 : ys.drop k = [] := List.drop_eq_nil_of_le (by rw [HL2.out]; omega)
        exact ⟨ret_bool (by symm; rw [decide_eq_true_iff, hs.out, e1, e2]), j, rfl⟩
  · have e1 : ((n : Int) == (m : Int)) = false := by simp; omega
    have e2 : ((n : Int) != (m : Int)) = true := by simp; omega
    have hne : decide (xs = ys) = false := by rw [decide_eq_false_iff_not]; intro he; rw [he] at hl; omega
    have HN := hide hne
    clear hl hl2 hne
    go_enter Tryd.func28, Tryd.ntmps28
    go_wp2
    go_ret
    exact ⟨ret_bool HN.out.symm, 0, rfl⟩
end Go.Proofs.YtillhbbeghbfeaaDoor
