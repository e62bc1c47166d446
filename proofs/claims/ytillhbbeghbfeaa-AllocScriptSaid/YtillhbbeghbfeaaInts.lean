/- Lists of numbers: memory words, and contracts of the statements' own helpers. -/
import Derived.Test.YtillhbbeghbfeaaBase
import Derived.Test.YtillhbbeghbfeaaPtr
namespace Go.Proofs.Ytillhbbeghbfeaa
set_option linter.unusedVariables false
open Go.RowKit

theorem Sl.atI {w : World} {A : Option Addr} {n c : Nat} {xs : List Int} (h : Sl w A n c (i64s xs)) {k : Nat} (hk : k < n) :
    ∃ b o x, A = some ⟨b, o, none⟩ ∧ Hid (xs[k]? = some x) ∧ w.cell? ⟨b, o + k, none⟩ = some (.int .i64 x) := by
  obtain ⟨b, o, u, hA, hu, hc⟩ := h.at_ hk
  have hu' := hu.out
  simp only [i64s, List.getElem?_map, Option.map_eq_some_iff] at hu'
  obtain ⟨x, hx, rfl⟩ := hu'
  exact ⟨b, o, x, hA, hx, hc⟩
theorem i64s_append (xs ys : List Int) : i64s (xs ++ ys) = i64s xs ++ i64s ys := by simp [i64s]
theorem drop_consI {xs : List Int} {k : Nat} {x : Int} (h : xs[k]? = some x) : xs.drop k = x :: xs.drop (k + 1) := by
  obtain ⟨hk, he⟩ := List.getElem?_eq_some_iff.1 h
  rw [List.drop_eq_getElem_cons hk, he]
theorem info_intT : (Try.prog.info? 3).map (fun i => (i.zero, i.size, i.bytes)) = some (some (.int .i64 0), 1, 8) := by kernel_rfl

/-- append onto numbers of the call's own. -/
theorem appI {w : World} {ops : Array Oper} {rest : List Oper} {o : Oper} {a : Act} {Q : Exit → Act → World → Prop} (hgd : o.guard = none) (s x : Operand)
    (ho : o.op = .call { callee := .builtin .append, args := #[s, x], argTypes := #[51, 51] })
    (B : Nat) (A : Option Addr) (n c : Nat) (xs : List Value) (hs : a.eval s = .slice A n c) (hown : Own w B 3 A n c xs)
    (A2 : Option Addr) (m c2 : Nat) (ys : List Value) (hx : a.eval x = .slice A2 m c2) (hsl : Sl w A2 m c2 ys) (hbytes : n + m ≤ 1000000000000) (hB : B ≤ w.heap.size)
    (h : ∀ A' c' w', Own w' B 3 A' (n + m) c' (xs ++ ys) → w.grownBy w' (Value.slice A n c).ownBlock → wpList Try.prog ops Q rest (a.put o.dst (.slice A' (n + m) c')) w') : wpList Try.prog ops Q (o :: rest) a w := by
  obtain ⟨i0, hi0, hz0, hz1, hz2⟩ := info_parts info_intT
  exact wpList_app hgd s x 51 ho B 3 i0 _ 8 Try.underlying51 hi0 hz0 hz1 hz2 rfl A n c xs hs hown A2 m c2 ys hx hsl (by omega) (by omega) hB h

end Go.Proofs.Ytillhbbeghbfeaa
