/- Contracts of the statements' own helpers over bytes, and of the library's Clone and Equal over bytes. -/
import Derived.Test.YtmfenegkeiipnaaDoorProg
import Derived.Test.YtmfenegkeiipnaaDoorMem
import Derived.Deep.RegionHeld3
import Derived.BigQuiet
import Derived.Deep.QuietTactic
namespace Go.Proofs.YtmfenegkeiipnaaDoor
open Go.RowKit

theorem ret_int {k : IntKind} {a b : Int} (h : a = b) : Ending.returned (.int k a) = .returned (.int k b) := by rw [h]
theorem ret_bool {a b : Bool} (h : a = b) : Ending.returned (.bool a) = .returned (.bool b) := by rw [h]
theorem info_u8 : (Tryd.prog.info? 5).map (fun i => (i.zero, i.size, i.bytes)) = some (some (.int .u8 0), 1, 1) := by kernel_rfl

/-- append onto bytes of the call's own. -/
theorem app8 {w : World} {ops : Array Oper} {rest : List Oper} {o : Oper} {a : Act} {Q : Exit → Act → World → Prop} (hgd : o.guard = none) (s x : Operand)
    (ho : o.op = .call { callee := .builtin .append, args := #[s, x], argTypes := #[22, 22] })
    (B : Nat) (A : Option Addr) (n c : Nat) (xs : List Value) (hs : a.eval s = .slice A n c) (hown : Own w B 5 A n c xs)
    (A2 : Option Addr) (m c2 : Nat) (ys : List Value) (hx : a.eval x = .slice A2 m c2) (hsl : Sl w A2 m c2 ys) (hbytes : n + m ≤ 140737488355328) (hB : B ≤ w.heap.size)
    (h : ∀ A' c' w', Own w' B 5 A' (n + m) c' (xs ++ ys) → w.grownBy w' (Value.slice A n c).ownBlock → wpList Tryd.prog ops Q rest (a.put o.dst (.slice A' (n + m) c')) w') : wpList Tryd.prog ops Q (o :: rest) a w := by
  obtain ⟨i0, hi0, hz0, hz1, hz2⟩ := info_parts info_u8
  exact wpList_app hgd s x 22 ho B 5 i0 _ 1 Tryd.underlying22 hi0 hz0 hz1 hz2 rfl A n c xs hs hown A2 m c2 ys hx hsl (by omega) (by omega) hB h


set_option maxHeartbeats 400000 in
theorem SameBytes (A A2 : Option Addr) (n c m c2 : Nat) (xs ys : List Nat) (w : World) (h : Sl w A n c (by8 xs)) (h2 : Sl w A2 m c2 (by8 ys)) (hb : Bytes xs) (hb2 : Bytes ys) :
    Calls Tryd.prog 28 #[.slice A n c, .slice A2 m c2] w fun e w' => e = .returned (.bool (decide (xs = ys))) ∧ ∃ k, w' = w.drewN k := by
  have hl : xs.length = n := by have := h.len; rwa [by8_len] at this
  have hl2 : ys.length = m := by have := h2.len; rwa [by8_len] at this
  have hm : n ≤ 9223372036854775807 := Nat.le_trans h.nc h.cm
  by_cases hnm : n = m
  · subst hnm
    have HL := hide hl
    have HL2 := hide hl2
    clear hl hl2
    go_enter Tryd.func28, Tryd.ntmps28
    go_wp2
    go_loopw [5] (fun i wr => ∃ k j : Nat, k ≤ n ∧ i = .int .i64 k ∧ wr = w.drewN j ∧ Hid ((xs = ys) ↔ (xs.drop k = ys.drop k))) (fun i _ => n - (intOf i).toNat)
    case atStart => exact ⟨0, 0, by omega, rfl, rfl, by simp [Hid]⟩
    case round =>
      obtain ⟨k, j, hk, rfl, rfl, hs⟩ := hrel
      by_cases hlt : k < n
      · obtain ⟨b, o, x, rfl, hx, hc, hx2⟩ := h.at8 hb hlt
        obtain ⟨b2, o2, y, rfl, hy, hc2, hy2⟩ := h2.at8 hb2 hlt
        have hi0 : (0 : Int) ≤ (k : Int) := by omega
        have hi1 : (k : Int) < (n : Int) := by omega
        by_cases hxy : x = y
        · subst hxy
          go_wp2
          go_quiet (fail)
          go_wp2
          go_roundw
          case rel => exact ⟨k + 1, j + nq, by omega, by go_num, rfl, by unfold Hid; rw [hs.out, drop_cons hx.out, drop_cons hy.out]; simp⟩
          case measure => simp [intOf]; omega
        · have e1 : ((x : Int) == (y : Int)) = false := by simp; omega
          have e2 : ((x : Int) != (y : Int)) = true := by simp; omega
          go_wp2
          go_quiet (fail)
          go_wp2
          go_ret
          exact ⟨ret_bool (by symm; rw [decide_eq_false_iff_not, hs.out, drop_cons hx.out, drop_cons hy.out]; simp [hxy]), j + nq, World.drewN_drewN ..⟩
      · go_wp2
        go_ret
        have e1 : xs.drop k = [] := List.drop_eq_nil_of_le (by rw [HL.out]; omega)
        have e2 : ys.drop k = [] := List.drop_eq_nil_of_le (by rw [HL2.out]; omega)
        exact ⟨ret_bool (by symm; rw [decide_eq_true_iff, hs.out, e1, e2]), j, rfl⟩
  · have e1 : ((n : Int) == (m : Int)) = false := by simp; omega
    have e2 : ((n : Int) != (m : Int)) = true := by simp; omega
    have hne : decide (xs = ys) = false := by rw [decide_eq_false_iff_not]; intro he; rw [he] at hl; omega
    have HN := hide hne
    clear hl hl2 hne
    go_enter Tryd.func28, Tryd.ntmps28
    go_wp2
    go_ret
    exact ⟨ret_bool HN.out.symm, 0, rfl⟩

theorem info_size_u8 : (Tryd.prog.info? 5).map (fun x => x.size) = some 1 := by kernel_rfl

/-- append within the capacity. -/
theorem app8_room {w : World} {ops : Array Oper} {rest : List Oper} {o : Oper} {a : Act} {Q : Exit → Act → World → Prop} (hgd : o.guard = none) (s x : Operand)
    (ho : o.op = .call { callee := .builtin .append, args := #[s, x], argTypes := #[22, 22] })
    (B g n c : Nat) (full : List Value) (hs : a.eval s = .slice (some ⟨g, 0, none⟩) n c) (hown : Own w B 5 (some ⟨g, 0, none⟩) c c full)
    (A2 : Option Addr) (m c2 : Nat) (ys : List Value) (hx : a.eval x = .slice A2 m c2) (hsl : Sl w A2 m c2 ys) (hroom : n + m ≤ c)
    (h : ∀ w', Own w' B 5 (some ⟨g, 0, none⟩) c c (full.take n ++ ys ++ full.drop (n + m)) → w.grownBy w' (some g) → wpList Tryd.prog ops Q rest (a.put o.dst (.slice (some ⟨g, 0, none⟩) (n + m) c)) w') : wpList Tryd.prog ops Q (o :: rest) a w := by
  obtain ⟨i0, hi0, hz0, hz1, hz2⟩ := info_parts info_u8
  exact wpList_app_room hgd s x 22 ho B 5 i0 Tryd.underlying22 hi0 hz1 g n c full hs hown A2 m c2 ys hx hsl hroom h

theorem cpy8 {w : World} {ops : Array Oper} {rest : List Oper} {o : Oper} {a : Act} {Q : Exit → Act → World → Prop} (hgd : o.guard = none)
    (d s : Operand) (ho : o.op = .call { callee := .builtin .copy, args := #[d, s], argTypes := #[22, 22] }) (B : Nat)
    (g off dLen dCap : Nat) (hd : a.eval d = .slice (some ⟨g, off, none⟩) dLen dCap) (A2 : Option Addr) (m c2 : Nat) (ys : List Value) (hs : a.eval s = .slice A2 m c2) (hsl : Sl w A2 m c2 ys)
    (c : Nat) (full : List Value) (hown : Own w B 5 (some ⟨g, 0, none⟩) c c full) (hfit : off + dLen ≤ c)
    (h : ∀ w', Own w' B 5 (some ⟨g, 0, none⟩) c c (full.take off ++ (ys.take dLen ++ full.drop (off + min m dLen))) → w.grownBy w' (some g) → wpList Tryd.prog ops Q rest (a.put o.dst (goInt (min m dLen : Nat))) w') :
    wpList Tryd.prog ops Q (o :: rest) a w :=
  wpList_cpy hgd d s 22 ho B 5 5 Tryd.underlying22 info_size_u8 g off dLen dCap hd A2 m c2 ys hs hsl c full hown hfit h

theorem app8z {w : World} {ops : Array Oper} {rest : List Oper} {o : Oper} {a : Act} {Q : Exit → Act → World → Prop} (hgd : o.guard = none) (s x : Operand)
    (ho : o.op = .call { callee := .builtin .append, args := #[s, x], argTypes := #[22, 3] })
    (B : Nat) (A : Option Addr) (n c : Nat) (xs : List Value) (hs : a.eval s = .slice A n c) (hown : Own w B 5 A n c xs) (M : Int) (m : Nat) (hx : a.eval x = .int .i64 M) (hM : M = m)
    (hbytes : n + m ≤ 140737488355328) (hB : B ≤ w.heap.size)
    (h : ∀ A' c' w', Own w' B 5 A' (n + m) c' (xs ++ List.replicate m (.int .u8 0)) → w.grownBy w' (Value.slice A n c).ownBlock → wpList Tryd.prog ops Q rest (a.put o.dst (.slice A' (n + m) c')) w') : wpList Tryd.prog ops Q (o :: rest) a w := by
  obtain ⟨i0, hi0, hz0, hz1, hz2⟩ := info_parts info_u8
  exact wpList_app_zeros hgd s x 22 3 ho B 5 i0 _ 1 Tryd.underlying22 Tryd.underlying3 hi0 hz0 hz1 hz2 rfl rfl A n c xs hs hown M m hx hM (by omega) (by omega) hB h

theorem app8s {w : World} {ops : Array Oper} {rest : List Oper} {o : Oper} {a : Act} {Q : Exit → Act → World → Prop} (hgd : o.guard = none) (s x : Operand)
    (ho : o.op = .call { callee := .builtin .append, args := #[s, x], argTypes := #[22, 9] })
    (B : Nat) (A : Option Addr) (n c : Nat) (xs : List Value) (hs : a.eval s = .slice A n c) (hown : Own w B 5 A n c xs) (st : ByteArray) (hx : a.eval x = .string st)
    (hbytes : n + st.size ≤ 140737488355328) (hB : B ≤ w.heap.size)
    (h : ∀ A' c' w', Own w' B 5 A' (n + st.size) c' (xs ++ Lib.strCells st) → w.grownBy w' (Value.slice A n c).ownBlock → wpList Tryd.prog ops Q rest (a.put o.dst (.slice A' (n + st.size) c')) w') : wpList Tryd.prog ops Q (o :: rest) a w := by
  obtain ⟨i0, hi0, hz0, hz1, hz2⟩ := info_parts info_u8
  exact wpList_app_str hgd s x 22 9 ho B 5 i0 Tryd.underlying22 Tryd.underlying9 hi0 hz0 hz1 hz2 A n c xs hs hown st hx hbytes hB h

theorem mk8 (kl kc : IntKind) (L C : Int) (n c : Nat) (hL : L = n) (hC : C = c) (hnc : n ≤ c) (hbytes : c ≤ 281474976710656) (w : World) :
    (Instr.makeSlice 22 (.int kl L) (.int kc C)).run Tryd.prog w = .ok (.slice (some ⟨w.heap.size, 0, none⟩) n c) (w.alloc (.cells (madeCells #[.int .u8 0] c) 5)) :=
  run_mk 22 5 (.int .u8 0) 1 Tryd.underlying22 info_u8 rfl kl kc L C n c hL hC hnc (by omega) (by omega) w

theorem mkl8 {w : World} {ops : Array Oper} {rest : List Oper} {o : Oper} {a : Act} {Q : Exit → Act → World → Prop}
    (hg : o.guard = none) (l cp : Operand) (hop : o.op = Op.makeSlice 22 l cp)
    (kl kc : IntKind) (L C : Int) (n c : Nat) (hl : a.eval l = .int kl L) (hc : a.eval cp = .int kc C) (hL : L = n) (hC : C = c) (hnc : n ≤ c) (hbytes : c ≤ 281474976710656)
    (B : Nat) (hB : B ≤ w.heap.size)
    (hK : ∀ w', Own w' B 5 (some ⟨w.heap.size, 0, none⟩) c c (List.replicate c (.int .u8 0)) → Ext w w' → wpList Tryd.prog ops Q rest (a.put o.dst (.slice (some ⟨w.heap.size, 0, none⟩) n c)) w') :
    wpList Tryd.prog ops Q (o :: rest) a w :=
  wpList_mk hg l cp 22 hop 5 (.int .u8 0) 1 Tryd.underlying22 info_u8 rfl rfl kl kc L C n c hl hc hL hC hnc (by omega) (by omega) B hB hK

theorem by8_rep (n x : Nat) : List.replicate n (Value.int .u8 (x : Int)) = by8 (List.replicate n x) := by simp [by8]

set_option maxHeartbeats 400000 in
theorem OverBytes (B : Nat) (A : Option Addr) (n c : Nat) (vs : List Value) (w : World) (h : Own w B 5 A n c vs) (hB : B ≤ w.heap.size) (hn : n ≤ 1000000) :
    Calls Tryd.prog 13 #[.slice A n c] w fun e w' => e = .returned (.tuple #[]) ∧ w.grownBy w' (Value.slice A n c).ownBlock := by
  go_enter Tryd.func13, Tryd.ntmps13
  go_wp2
  go_loopw [2] (fun i wr => ∃ k : Nat, k ≤ n ∧ i = .int .i64 k ∧ (∃ ws, Own wr B 5 A n c ws) ∧ w.grownBy wr (Value.slice A n c).ownBlock) (fun i _ => n - (intOf i).toNat)
  case atStart => exact ⟨0, by omega, rfl, ⟨vs, h⟩, World.grownBy.refl _ _⟩
  case round =>
    obtain ⟨k, hk, rfl, ⟨ws, hO⟩, hG⟩ := hrel
    by_cases hlt : k < n
    · have hnc := hO.sl.nc
      obtain ⟨g, rfl, hBg, hgl⟩ := hO.head (by omega)
      obtain ⟨u, hu, hc⟩ := hO.elem hlt
      have hf := hO.frozenAt k
      go_wp2
      go_roundw
      case rel => exact ⟨k + 1, by omega, by go_num, ⟨_, hO.store k _ rfl⟩, World.grownBy.trans hG (hO.1.stored k _).2⟩
      case measure => simp [intOf]; omega
    · have hsz := hG.size
      go_wp2_with (at_builtin; refine app8 rfl (.tmp 12) (.tmp 13) rfl B _ n c ws rfl (hO.ext ((Ext.refl wr).alloc _)) _ 1 1 _ rfl (Sl.lit wr #[.int .u8 238] 5 1 rfl (by omega) (by simp [Value.oneCell'])) (by omega) (by simp; omega) ?_; intro A1 c1 w1 hO1 hG1)
      go_end0
      exact ⟨rfl, World.grownBy.trans (World.grownBy.trans hG (World.grownBy_alloc _ _ _)) hG1⟩



theorem low_walk (x : Int) (n : Nat) (hn : 0 < n) (hn2 : n < 1000000000) : wrap64 ((IntKind.u64.wrap x).tmod (n : Int)) = ((low x n : Nat) : Int) := by
  have hx : IntKind.u64.wrap x = x % 18446744073709551616 := by simp [IntKind.wrap, IntKind.bits, IntKind.signed]
  rw [hx]
  have h0 : 0 ≤ x % 18446744073709551616 := Int.emod_nonneg _ (by omega)
  rw [Int.tmod_eq_emod_of_nonneg h0]
  have e : (x % 18446744073709551616) % (n : Int) = ((low x n : Nat) : Int) := by
    unfold low
    rw [Int.natCast_emod, Int.toNat_of_nonneg h0]
  rw [e]
  have := low_lt x hn
  exact IntWalk.wrap64_in _ (by omega)
set_option maxHeartbeats 400000 in
theorem Low (x N : Int) (n : Nat) (w : World) (hN : N = n) (hn : 0 < n) (hn2 : n < 1000000000) :
    Calls Tryd.prog 14 #[.int .i64 x, .int .i64 N] w fun e w' => e = .returned (.int .i64 (low x n : Nat)) ∧ w = w' := by
  subst hN
  go_enter Tryd.func14, Tryd.ntmps14
  go_wp2
  go_ret
  exact ⟨ret_int (low_walk x n hn hn2), rfl⟩

theorem str8 {w : World} {A : Option Addr} {n c : Nat} {xs : List Nat} (h : Sl w A n c (by8 xs)) : (convert 22 9 (.slice A n c)).run Tryd.prog w = .ok (.string (strN xs)) w :=
  run_str 22 5 9 Tryd.underlying22 Tryd.underlying5 Tryd.underlying9 h

set_option maxHeartbeats 400000 in
theorem BEqual (A A2 : Option Addr) (n c m c2 : Nat) (xs ys : List Nat) (w : World) (h : Sl w A n c (by8 xs)) (h2 : Sl w A2 m c2 (by8 ys)) (hb : Bytes xs) (hb2 : Bytes ys) :
    Calls Tryd.prog 29 #[.slice A n c, .slice A2 m c2] w fun e w' => e = .returned (.bool (decide (xs = ys))) ∧ w = w' := by
  have e1 := str8 h
  have e2 := str8 h2
  go_enter Tryd.func29, Tryd.ntmps29
  go_wp2
  go_ret
  exact ⟨ret_bool (strN_eq hb hb2), rfl⟩
end Go.Proofs.YtmfenegkeiipnaaDoor
