/- Contracts of the statements' own helpers over texts. -/
import Derived.Test.YtngffmchjjpfbaaDoorProg
import Derived.Test.YtngffmchjjpfbaaDoorMem
import Derived.Deep.RegionHeld3
import Derived.BigQuiet
import Derived.Deep.QuietTactic
namespace Go.Proofs.YtngffmchjjpfbaaDoor
set_option linter.unusedVariables false
open Go.RowKit

theorem ret_int {k : IntKind} {a b : Int} (h : a = b) : Ending.returned (.int k a) = .returned (.int k b) := by rw [h]
theorem ret_bool {a b : Bool} (h : a = b) : Ending.returned (.bool a) = .returned (.bool b) := by rw [h]
theorem ownBk (a : Addr) (n c : Nat) : (Value.slice (some a) n c).ownBlock = some a.block := rfl
theorem drewE {w w' : World} (h : ∃ k, w' = w.drewN k) : Ext w w' := by
  obtain ⟨k, rfl⟩ := h
  exact (Ext.refl _).drewN _
/-- Texts as values. -/
def vT (ps : List ByteArray) : List Value := ps.map Value.string
theorem vT_len (ps : List ByteArray) : (vT ps).length = ps.length := by simp [vT]
theorem vT_append (ps qs : List ByteArray) : vT (ps ++ qs) = vT ps ++ vT qs := by simp [vT]
theorem vT_take (ps : List ByteArray) (n : Nat) : (vT ps).take n = vT (ps.take n) := by simp [vT, List.map_take]
theorem vT_one (ps : List ByteArray) : ∀ u ∈ vT ps, u.oneCell' = true := by
  intro u hu
  obtain ⟨_, _, rfl⟩ := List.mem_map.1 hu
  rfl
theorem Sl.atT {w : World} {A : Option Addr} {n c : Nat} {ps : List ByteArray} (h : Sl w A n c (vT ps)) {k : Nat} (hk : k < n) :
    ∃ b o x, A = some ⟨b, o, none⟩ ∧ Hid (ps[k]? = some x) ∧ w.cell? ⟨b, o + k, none⟩ = some (.string x) := by
  obtain ⟨b, o, u, hA, hu, hc⟩ := h.at_ hk
  have hu' := hu.out
  simp only [vT, List.getElem?_map, Option.map_eq_some_iff] at hu'
  obtain ⟨x, hx, rfl⟩ := hu'
  exact ⟨b, o, x, hA, hx, hc⟩
theorem drop_consT {ps : List ByteArray} {k : Nat} {x : ByteArray} (h : ps[k]? = some x) : ps.drop k = x :: ps.drop (k + 1) := by
  obtain ⟨hk, he⟩ := List.getElem?_eq_some_iff.1 h
  rw [List.drop_eq_getElem_cons hk, he]
theorem ba_eq {x y : ByteArray} : (x.toList == y.toList) = decide (x = y) := by
  rw [ByteArray.toList_eq, ByteArray.toList_eq]
  by_cases h : x = y
  · subst h; simp
  · have : ¬ x.data.toList = y.data.toList := fun e => h (by
      apply ByteArray.ext
      exact Array.ext' e)
    simp only [h, decide_false]
    exact beq_eq_false_iff_ne.2 this
theorem info_stringT : (Tryd.prog.info? 9).map (fun i => (i.zero, i.size, i.bytes)) = some (some (.string ByteArray.empty), 1, 16) := by kernel_rfl
/-- append onto texts of the call's own. -/
theorem appT {w : World} {ops : Array Oper} {rest : List Oper} {o : Oper} {a : Act} {Q : Exit → Act → World → Prop} (hgd : o.guard = none) (s x : Operand)
    (ho : o.op = .call { callee := .builtin .append, args := #[s, x], argTypes := #[23, 23] })
    (B : Nat) (A : Option Addr) (n c : Nat) (xs : List Value) (hs : a.eval s = .slice A n c) (hown : Own w B 9 A n c xs)
    (A2 : Option Addr) (m c2 : Nat) (ys : List Value) (hx : a.eval x = .slice A2 m c2) (hsl : Sl w A2 m c2 ys) (hbytes : n + m ≤ 1000000000000) (hB : B ≤ w.heap.size)
    (h : ∀ A' c' w', Own w' B 9 A' (n + m) c' (xs ++ ys) → w.grownBy w' (Value.slice A n c).ownBlock → wpList Tryd.prog ops Q rest (a.put o.dst (.slice A' (n + m) c')) w') : wpList Tryd.prog ops Q (o :: rest) a w := by
  obtain ⟨i0, hi0, hz0, hz1, hz2⟩ := info_parts info_stringT
  exact wpList_app hgd s x 23 ho B 9 i0 _ 16 Tryd.underlying23 hi0 hz0 hz1 hz2 rfl A n c xs hs hown A2 m c2 ys hx hsl (by omega) (by omega) hB h
theorem low_walk (x : Int) (n : Nat) (hn : 0 < n) (hn2 : n < 1000000000) : wrap64 ((IntKind.u64.wrap x).tmod (n : Int)) = ((low x n : Nat) : Int) := by
  have hx : IntKind.u64.wrap x = x % 18446744073709551616 := by simp [IntKind.wrap, IntKind.bits, IntKind.signed]
  rw [hx]
  have h0 : 0 ≤ x % 18446744073709551616 := Int.emod_nonneg _ (by omega)
  rw [Int.tmod_eq_emod_of_nonneg h0]
  have e : (x % 18446744073709551616) % (n : Int) = ((low x n : Nat) : Int) := by
    unfold low
    rw [Int.natCast_emod, Int.toNat_of_nonneg h0]
  rw [e]
  have := low_lt x hn
  exact IntWalk.wrap64_in _ (by omega)
set_option maxHeartbeats 400000 in
theorem Low (x N : Int) (n : Nat) (w : World) (hN : N = n) (hn : 0 < n) (hn2 : n < 1000000000) :
    Calls Tryd.prog 20 #[.int .i64 x, .int .i64 N] w fun e w' => e = .returned (.int .i64 (low x n : Nat)) ∧ w = w' := by
  subst hN
  go_enter Tryd.func20, Tryd.ntmps20
  go_wp2
  go_ret
  exact ⟨ret_int (low_walk x n hn hn2), rfl⟩
set_option maxHeartbeats 400000 in
theorem SameTexts (A A2 : Option Addr) (n c m c2 : Nat) (xs ys : List ByteArray) (w : World) (h : Sl w A n c (vT xs)) (h2 : Sl w A2 m c2 (vT ys)) :
    Calls Tryd.prog 17 #[.slice A n c, .slice A2 m c2] w fun e w' => e = .returned (.bool (decide (xs = ys))) ∧ ∃ k, w' = w.drewN k := by
  have hl : xs.length = n := by have := h.len; rwa [vT_len] at this
  have hl2 : ys.length = m := by have := h2.len; rwa [vT_len] at this
  have hm : n ≤ 9223372036854775807 := Nat.le_trans h.nc h.cm
  by_cases hnm : n = m
  · subst hnm
    have HL := hide hl
    have HL2 := hide hl2
    clear hl hl2
    go_enter Tryd.func17, Tryd.ntmps17
    go_wp2
    go_loopw [5] (fun i wr => ∃ k j : Nat, k ≤ n ∧ i = .int .i64 k ∧ wr = w.drewN j ∧ Hid ((xs = ys) ↔ (xs.drop k = ys.drop k))) (fun i _ => n - (intOf i).toNat)
    case atStart => exact ⟨0, 0, by omega, rfl, rfl, by simp [Hid]⟩
    case round =>
      obtain ⟨k, j, hk, rfl, rfl, hs⟩ := hrel
      by_cases hlt : k < n
      · obtain ⟨b, o, x, rfl, hx, hc⟩ := h.atT hlt
        obtain ⟨b2, o2, y, rfl, hy, hc2⟩ := h2.atT hlt
        have hi0 : (0 : Int) ≤ (k : Int) := by omega
        have hi1 : (k : Int) < (n : Int) := by omega
        by_cases hxy : x = y
        · subst hxy
          have e1 : (x.toList == x.toList) = true := by simp
          have e2 : (x.toList != x.toList) = false := by simp
          go_wp2
          go_quiet (fail)
          go_wp2
          go_roundw
          case rel => exact ⟨k + 1, j + nq, by omega, by go_num, rfl, by unfold Hid; rw [hs.out, drop_consT hx.out, drop_consT hy.out]; simp⟩
          case measure => simp [intOf]; omega
        · have e1 : (x.toList == y.toList) = false := by rw [ba_eq]; simpa using hxy
          have e2 : (x.toList != y.toList) = true := by unfold bne; rw [e1]; rfl
          have HXY := hide hxy
          clear hxy
          go_wp2
          go_quiet (fail)
          go_wp2
          go_ret
          exact ⟨ret_bool (by symm; rw [decide_eq_false_iff_not, hs.out, drop_consT hx.out, drop_consT hy.out]; simp [HXY.out]), j + nq, World.drewN_drewN ..⟩
      · go_wp2
        go_ret
        have e1 : xs.drop k = [] := List.drop_eq_nil_of_le (by rw [HL.out]; omega)
        have e2 : ys.drop k = [] := List.drop_eq_nil_of_le (by rw [HL2.out]; omega)
        exact ⟨ret_bool (by symm; rw [decide_eq_true_iff, hs.out, e1, e2]), j, rfl⟩
  · have e1 : ((n : Int) == (m : Int)) = false := by simp; omega
    have e2 : ((n : Int) != (m : Int)) = true := by simp; omega
    have hne : decide (xs = ys) = false := by rw [decide_eq_false_iff_not]; intro he; rw [he] at hl; omega
    have HN := hide hne
    clear hl hl2 hne
    go_enter Tryd.func17, Tryd.ntmps17
    go_wp2
    go_ret
    exact ⟨ret_bool HN.out.symm, 0, rfl⟩
set_option maxHeartbeats 400000 in
theorem OverTexts (B : Nat) (A : Option Addr) (n c : Nat) (vs : List Value) (w : World) (h : Own w B 9 A n c vs) (hB : B ≤ w.heap.size) (hn : n ≤ 1000000) :
    Calls Tryd.prog 18 #[.slice A n c] w fun e w' => e = .returned (.tuple #[]) ∧ w.grownBy w' (Value.slice A n c).ownBlock := by
  go_enter Tryd.func18, Tryd.ntmps18
  go_wp2
  go_loopw [2] (fun i wr => ∃ k : Nat, k ≤ n ∧ i = .int .i64 k ∧ (∃ ws, Own wr B 9 A n c ws) ∧ w.grownBy wr (Value.slice A n c).ownBlock) (fun i _ => n - (intOf i).toNat)
  case atStart => exact ⟨0, by omega, rfl, ⟨vs, h⟩, World.grownBy.refl _ _⟩
  case round =>
    obtain ⟨k, hk, rfl, ⟨ws, hO⟩, hG⟩ := hrel
    by_cases hlt : k < n
    · have hnc := hO.sl.nc
      obtain ⟨g, rfl, hBg, hgl⟩ := hO.head (by omega)
      obtain ⟨u, hu, hc⟩ := hO.elem hlt
      have hf := hO.frozenAt k
      go_wp2
      go_roundw
      case rel => exact ⟨k + 1, by omega, by go_num, ⟨_, hO.store k _ rfl⟩, World.grownBy.trans hG (hO.1.stored k _).2⟩
      case measure => simp [intOf]; omega
    · have hsz := hG.size
      go_wp2_with (at_builtin; refine appT rfl (.tmp 12) (.tmp 13) rfl B _ n c ws rfl (hO.ext ((Ext.refl wr).alloc _)) _ 1 1 _ rfl (Sl.lit wr #[.string ⟨#[111, 118, 101, 114]⟩] 9 1 rfl (by omega) (by simp [Value.oneCell'])) (by omega) (by simp; omega) ?_; intro A1 c1 w1 hO1 hG1)
      go_end0
      exact ⟨rfl, World.grownBy.trans (World.grownBy.trans hG (World.grownBy_alloc _ _ _)) hG1⟩
end Go.Proofs.YtngffmchjjpfbaaDoor
