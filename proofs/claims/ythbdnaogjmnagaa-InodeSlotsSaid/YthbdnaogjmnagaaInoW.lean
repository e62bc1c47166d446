/- Contracts of inodes: what may be one, and its bytes. -/
import Derived.Test.YthbdnaogjmnagaaIno
import Derived.Test.YthbdnaogjmnagaaAgg2
import Derived.Test.YthbdnaogjmnagaaInts
import Derived.Test.YthbdnaogjmnagaaFlat
import Derived.Test.YthbdnaogjmnagaaSealW
import Derived.Deep.LoopGhost
namespace Go.Proofs.Ythbdnaogjmnagaa
set_option linter.unusedVariables false
open Go.RowKit

theorem info_inode : (Try.prog.info? 48).map (·.size) = some 11 := by kernel_rfl
theorem agg_inode (w : World) : (isAgg 48).run Try.prog w = .ok true w := by kernel_rfl
theorem zero_inode : (Try.prog.info? 48).map (·.zero) = some (some (.agg (i64s zI).toArray)) := by kernel_rfl
theorem bld_inode (w : World) : (Instr.build 48 #[]).run Try.prog w = .ok (.agg (i64s zI).toArray) w := by kernel_rfl
theorem info_inodes : (Try.prog.info? 49).map (·.size) = some 44 := by kernel_rfl
theorem agg_inodes (w : World) : (isAgg 49).run Try.prog w = .ok true w := by kernel_rfl
theorem zero_inodes : (Try.prog.info? 49).map (·.zero) = some (some (.agg (i64s z44).toArray)) := by kernel_rfl
theorem bld_inodes (w : World) : (Instr.build 49 #[]).run Try.prog w = .ok (.agg (i64s z44).toArray) w := by kernel_rfl
theorem row_inode : isRowT Try.prog 48 = true := by kernel_rfl
theorem row_inodes : isRowT Try.prog 49 = true := by kernel_rfl
theorem flat_inode : flatT Try.prog 10 48 = some (List.replicate 11 (.int .i64)) := by kernel_rfl
theorem flat_inodes : flatT Try.prog 10 49 = some (List.replicate 44 (.int .i64)) := by kernel_rfl
theorem shape_ints {n : Nat} {xs : List Int} (h : xs.length = n) : Shape (List.replicate n (.int .i64)) (i64s xs) := by
  refine ⟨by rw [i64s_len, h]; simp, fun i k v hk hv => ?_⟩
  rw [List.getElem?_replicate] at hk
  split at hk
  · simp at hk
    subst hk
    simp only [i64s, List.getElem?_map, Option.map_eq_some_iff] at hv
    obtain ⟨x, _, rfl⟩ := hv
    rfl
  · cases hk
theorem i64s_inj {xs ys : List Int} : i64s xs = i64s ys ↔ xs = ys := by
  constructor
  · intro h
    refine List.map_inj_right (f := Value.int .i64) (fun a b hab => ?_) |>.1 h
    simpa using hab
  · rintro rfl; rfl
theorem eq_inode (i j : List Int) (hi : i.length = 11) (hj : j.length = 11) (w : World) : (Op.equalIn 10000 48 (.agg (i64s i).toArray) (.agg (i64s j).toArray)).run Try.prog w = .ok (decide (i = j)) w := by
  have := @run_eql_flat Try.prog 10 48 _ flat_inode (by omega) row_inode w (i64s i) (i64s j) (shape_ints hi) (shape_ints hj) (decidable_of_iff (i = j) i64s_inj.symm)
  rw [this]
  congr 1
  simp [i64s_inj]
theorem eq_inodes (i j : List Int) (hi : i.length = 44) (hj : j.length = 44) (w : World) : (Op.equalIn 10000 49 (.agg (i64s i).toArray) (.agg (i64s j).toArray)).run Try.prog w = .ok (decide (i = j)) w := by
  have := @run_eql_flat Try.prog 10 49 _ flat_inodes (by omega) row_inodes w (i64s i) (i64s j) (shape_ints hi) (shape_ints hj) (decidable_of_iff (i = j) i64s_inj.symm)
  rw [this]
  congr 1
  simp [i64s_inj]

theorem ino_between (n lo hi : Int) (w : World) : Calls Try.prog 71 #[.int .i64 n, .int .i64 lo, .int .i64 hi] w fun e w' => e = .returned (.bool (decide (lo ≤ n ∧ n ≤ hi))) ∧ w = w' := by
  by_cases h1 : lo ≤ n
  · by_cases h2 : n ≤ hi
    · go_enter Try.func71, Try.ntmps71
      go_wp2
      go_ret
      exact ⟨ret_bool (decide_eq_true ⟨h1, h2⟩).symm, rfl⟩
    · go_enter Try.func71, Try.ntmps71
      go_wp2
      go_ret
      exact ⟨ret_bool (by simp; omega), rfl⟩
  · go_enter Try.func71, Try.ntmps71
    go_wp2
    go_ret
    exact ⟨ret_bool (by simp; omega), rfl⟩
theorem ref7_word (n : Int) (w : World) : Calls Try.prog 72 #[.int .i64 n] w fun e w' => e = .returned (.bool (word n)) ∧ w = w' := by
  have hw : word n = decide (0 ≤ n ∧ n ≤ 65535) := rfl
  have HW := hide hw
  clear hw
  by_cases h1 : 0 ≤ n
  · by_cases h2 : n ≤ 65535
    · go_enter Try.func72, Try.ntmps72
      go_wp2
      go_ret
      exact ⟨ret_bool (by rw [HW.out]; exact (decide_eq_true ⟨h1, h2⟩).symm), rfl⟩
    · go_enter Try.func72, Try.ntmps72
      go_wp2
      go_ret
      exact ⟨ret_bool (by rw [HW.out]; simp; omega), rfl⟩
  · go_enter Try.func72, Try.ntmps72
    go_wp2
    go_ret
    exact ⟨ret_bool (by rw [HW.out]; simp; omega), rfl⟩

/-- append of so many zeros onto numbers of the call's own. -/
theorem appIz {w : World} {ops : Array Oper} {rest : List Oper} {o : Oper} {a : Act} {Q : Exit → Act → World → Prop} (hgd : o.guard = none) (s x : Operand)
    (ho : o.op = .call { callee := .builtin .append, args := #[s, x], argTypes := #[32, 3] })
    (B : Nat) (A : Option Addr) (n c : Nat) (xs : List Value) (hs : a.eval s = .slice A n c) (hown : Own w B 3 A n c xs) (M : Int) (m : Nat) (hx : a.eval x = .int .i64 M) (hM : M = m)
    (hbytes : n + m ≤ 1000000000) (hB : B ≤ w.heap.size)
    (h : ∀ A' c' w', Own w' B 3 A' (n + m) c' (xs ++ List.replicate m (.int .i64 0)) → w.grownBy w' (Value.slice A n c).ownBlock → wpList Try.prog ops Q rest (a.put o.dst (.slice A' (n + m) c')) w') : wpList Try.prog ops Q (o :: rest) a w := by
  obtain ⟨i0, hi0, hz0, hz1, hz2⟩ := info_parts info_intT
  exact wpList_app_zeros hgd s x 32 3 ho B 3 i0 _ 8 Try.underlying32 Try.underlying3 hi0 hz0 hz1 hz2 rfl rfl A n c xs hs hown M m hx hM (by omega) (by omega) hB h
set_option maxHeartbeats 400000 in
theorem GrowI (N : Int) (n : Nat) (hN : N = n) (hn0 : 0 < n) (hn : n ≤ 1000000) (w : World) : Calls Try.prog 78 #[.slice none 0 0, .int .i64 N] w fun e w' => ∃ A' c', e = .returned (.slice A' 0 c') ∧ Own w' w.heap.size 3 A' 0 c' [] ∧ Ext w w' := by
  subst hN
  go_enter Try.func78, Try.ntmps78
  go_wp2_with (at_builtin; refine appIz rfl (.tmp 20) (.tmp 21) rfl w.heap.size _ 0 0 [] rfl (Own.nilS _ _ _) _ n rfl rfl (by omega) (by omega) ?_; intro A1 c1 w1 hO1 hG1; have hE1 := (Ext.refl w).grown hG1 (by simp [Value.ownBlock]); have hP1 := hO1.pre (m := 0) (by omega))
  go_ret
  exact ⟨A1, c1, rfl, by simpa using hP1, hE1⟩

theorem Own.atN {w : World} {B e g n c : Nat} {xs : List Int} (h : Own w B e (some ⟨g, 0, none⟩) n c (i64s xs)) (j : Nat) (hj : j < n) : w.cell? ⟨g, j, none⟩ = some (.int .i64 (xs.getD j 0)) := by
  rw [h.cellAt j hj]
  have hl := h.len
  rw [i64s_len] at hl
  have hj2 : j < xs.length := by omega
  rw [List.getD_eq_getElem?_getD, List.getElem?_eq_getElem hj2]
  simp [i64s, hj2]
/-- A part of a row, as a slice of its own length. -/
theorem Sl.sub {w : World} {g n c : Nat} {vs : List Value} (h : Sl w (some ⟨g, 0, none⟩) n c vs) (off k : Nat) (hk : off + k ≤ n) : Sl w (some ⟨g, off, none⟩) k k ((vs.drop off).take k) := by
  have hl := h.len
  have hnc := h.nc
  have hcm := h.cm
  refine ⟨by rw [List.length_take, List.length_drop]; omega, Nat.le_refl _, by omega, (fun h => by cases h), fun j u hj => ?_, fun u hu => h.one u (List.mem_of_mem_drop (List.mem_of_mem_take hu))⟩
  rw [List.getElem?_take] at hj
  split at hj
  · rw [List.getElem?_drop] at hj
    obtain ⟨b, o, hA, hc⟩ := h.cell _ u hj
    simp at hA
    obtain ⟨rfl, rfl⟩ := hA
    exact ⟨_, _, rfl, by simpa using hc⟩
  · cases hj
theorem lit2I (w : World) (g : Nat) (hg : g = w.heap.size) (a b : Int) (e : TypeId) : Sl (w.alloc (.cells #[.int .i64 a, .int .i64 b] e)) (some ⟨g, 0, none⟩) 2 2 (i64s [a, b]) := by
  subst hg
  exact Sl.lit w #[.int .i64 a, .int .i64 b] e 2 rfl (by omega) (by simp [Value.oneCell'])
theorem drop3 {i : List Int} (h : i.length = 11) : (i.drop 3).take 6 ++ [i.getD 9 0, i.getD 10 0] = i.drop 3 := by
  obtain ⟨a, b, c, d, e, f, g, h', j, k, l, rfl⟩ : ∃ a b c d e f g h' j k l, i = [a, b, c, d, e, f, g, h', j, k, l] := by
    match i, h with
    | [a, b, c, d, e, f, g, h', j, k, l], _ => exact ⟨a, b, c, d, e, f, g, h', j, k, l, rfl⟩
  rfl
def sz2 (a b k : Nat) : Nat := if k = 0 then 0 else if k = 1 then a else a + b
def pt2 (xs ys : List Int) (k : Nat) : List Int := if k = 0 then [] else if k = 1 then xs else xs ++ ys
set_option maxRecDepth 100000 in
set_option maxHeartbeats 1000000 in
theorem ConcatI (A A1 A2 : Option Addr) (c n1 c1 n2 c2 : Nat) (xs ys : List Int) (w : World) (h : Sl w A 2 c [.slice A1 n1 c1, .slice A2 n2 c2]) (h1 : Sl w A1 n1 c1 (i64s xs)) (h2 : Sl w A2 n2 c2 (i64s ys)) (hn1 : 0 < n1) (hb1 : n1 ≤ 1000) (hb2 : n2 ≤ 1000) :
    Calls Try.prog 70 #[.slice A 2 c] w fun e w' => ∃ A' c', e = .returned (.slice A' (n1 + n2) c') ∧ Own w' w.heap.size 3 A' (n1 + n2) c' (i64s (xs ++ ys)) ∧ Ext w w' := by
  obtain ⟨b, o, u, rfl, hu, k0⟩ := h.at_ (k := 0) (by omega)
  have hu' := hu.out
  simp at hu'
  subst hu'
  obtain ⟨b', o', u, hA, hu, k1⟩ := h.at_ (k := 1) (by omega)
  have hu' := hu.out
  simp at hu' hA
  obtain ⟨rfl, rfl⟩ := hA
  subst hu'
  simp only [Nat.add_zero] at k0
  clear hu
  go_enter Try.func70, Try.ntmps70
  go_wp2
  go_loop [3, 11] (fun s i => ∃ k : Nat, k ≤ 2 ∧ i = .int .i64 k ∧ s = .int .i64 (sz2 n1 n2 k : Nat)) (fun _ i => 2 - (intOf i).toNat)
  case atStart => exact ⟨0, by omega, rfl, rfl⟩
  case round =>
    obtain ⟨k, hk, rfl, rfl⟩ := hrel
    rcases (show k = 0 ∨ k = 1 ∨ k = 2 by omega) with rfl | rfl | rfl
    · rw [show sz2 n1 n2 0 = 0 from rfl]
      go_wp2
      go_round
      case rel => exact ⟨1, by omega, by go_num, by simp [sz2]⟩
      case measure => simp [intOf]
    · rw [show sz2 n1 n2 1 = n1 from rfl]
      go_wp2
      go_round
      case rel => exact ⟨2, by omega, by go_num, by simp [sz2]⟩
      case measure => simp [intOf]
    · rw [show sz2 n1 n2 2 = n1 + n2 from rfl]
      go_wp2_with fail
      refine (GrowI _ (n1 + n2) (by omega) (by omega) (by omega) _).mono ?_
      rintro e w1 ⟨A3, c3, rfl, hO3, hE3⟩
      go_wp2
      go_loopw [6, 27] (fun s i wr => ∃ (k c4 : Nat) (A4 : Option Addr), k ≤ 2 ∧ i = .int .i64 k ∧ s = .slice A4 (sz2 n1 n2 k) c4 ∧ Own wr w.heap.size 3 A4 (sz2 n1 n2 k) c4 (i64s (pt2 xs ys k)) ∧ Ext w wr) (fun _ i _ => 2 - (intOf i).toNat)
      case atStart => exact ⟨0, c3, A3, by omega, rfl, rfl, hO3, hE3⟩
      case round =>
        clear hO3 hE3
        obtain ⟨k, c4, A4, hk, rfl, rfl, hO, hE⟩ := hrel
        have l0 := hE.cell k0
        have l1 := hE.cell k1
        have g1 := h1.ext hE
        have g2 := h2.ext hE
        have hsz := hE.size
        rcases (show k = 0 ∨ k = 1 ∨ k = 2 by omega) with rfl | rfl | rfl
        · rw [show sz2 n1 n2 0 = 0 from rfl] at hO ⊢
          go_wp2_with (at_builtin; refine appI rfl (.tmp 31) (.tmp 32) rfl w.heap.size _ 0 c4 _ rfl hO _ n1 c1 _ rfl g1 (by omega) hsz ?_; intro A5 c5 w5 hO5 hG5; have hE5 := hE.grown hG5 (fun q hq => (hO.block q hq).1))
          go_roundw
          case rel => exact ⟨1, c5, A5, by omega, by go_num, by simp [sz2], by simpa [sz2, pt2, i64s] using hO5, hE5⟩
          case measure => simp [intOf]
        · rw [show sz2 n1 n2 1 = n1 from rfl] at hO ⊢
          go_wp2_with (at_builtin; refine appI rfl (.tmp 31) (.tmp 32) rfl w.heap.size _ n1 c4 _ rfl hO _ n2 c2 _ rfl g2 (by omega) hsz ?_; intro A5 c5 w5 hO5 hG5; have hE5 := hE.grown hG5 (fun q hq => (hO.block q hq).1))
          go_roundw
          case rel => exact ⟨2, c5, A5, by omega, by go_num, by simp [sz2], by simpa [sz2, pt2, i64s] using hO5, hE5⟩
          case measure => simp [intOf]
        · rw [show sz2 n1 n2 2 = n1 + n2 from rfl] at hO ⊢
          go_wp2
          go_ret
          exact ⟨A4, c4, rfl, hO, hE⟩

theorem eleven {i : List Int} (h : i.length = 11) : ∃ a b c d e f g h' j k l, i = [a, b, c, d, e, f, g, h', j, k, l] := by
  match i, h with
  | [a, b, c, d, e, f, g, h', j, k, l], _ => exact ⟨a, b, c, d, e, f, g, h', j, k, l, rfl⟩
set_option maxRecDepth 100000 in
set_option maxHeartbeats 1000000 in
theorem inode_May (i : List Int) (hl : i.length = 11) (w : World) : Calls Try.prog 53 #[.agg (i64s i).toArray] w fun e w' => e = .returned (.bool (decide (mayI i))) ∧ Ext w w' := by
  have HL := hide hl
  have hL := i64s_len i
  rw [hl] at hL
  have HLL := hide hL
  have heq := fun w1 => eq_inode i zI hl rfl w1
  clear hl hL
  by_cases hz : i = zI
  · rw [decide_eq_true hz] at heq
    have HM := hide (show decide (mayI i) = true from decide_eq_true (.inl hz))
    clear hz
    go_enter Try.func53, Try.ntmps53
    go_wp2_with (first
      | (with_reducible refine ag_box rfl 48 (.tmp 0) rfl _ 11 rfl HLL.out (by omega) (i64s_one i) w.heap.size (Nat.le_refl _) ?_; intro w1 hB1 hE1 hz1)
      | (with_reducible refine ag_load rfl 48 (.tmp 1) rfl w.heap.size 11 w.heap.size 48 _ rfl hB1 agg_inode info_inode ?_)
      | (with_reducible refine ag_zero rfl 48 rfl _ (bld_inode _) ?_))
    go_ret
    exact ⟨ret_bool HM.out.symm, hE1⟩
  rw [decide_eq_false hz] at heq
  have HZ := hide hz
  clear hz
  go_enter Try.func53, Try.ntmps53
  go_wp2_with (first
    | (with_reducible refine ag_box rfl 48 (.tmp 0) rfl _ 11 rfl HLL.out (by omega) (i64s_one i) w.heap.size (Nat.le_refl _) ?_; intro w1 hB1 hE1 hz1)
    | (with_reducible refine ag_load rfl 48 (.tmp 1) rfl w.heap.size 11 w.heap.size 48 _ rfl hB1 agg_inode info_inode ?_)
    | (with_reducible refine ag_zero rfl 48 rfl _ (bld_inode _) ?_))
  have c9 := hB1.atN 9 (by omega)
  have c10 := hB1.atN 10 (by omega)
  have hd := drop3 HL.out
  generalize i.getD 9 0 = u at *
  generalize i.getD 10 0 = v at *
  have HD := hide hd
  clear hd
  obtain ⟨W2, hW2⟩ : ∃ W : World, W = ((w1.alloc (.cells #[.int .i64 u, .int .i64 v] 3)).alloc (.cells #[.slice (some ⟨w.heap.size, 3, none⟩) 6 6, .slice (some ⟨w1.heap.size, 0, none⟩) 2 2] 32)).drew := ⟨_, rfl⟩
  have hC : ∀ W, W = ((w1.alloc (.cells #[.int .i64 u, .int .i64 v] 3)).alloc (.cells #[.slice (some ⟨w.heap.size, 3, none⟩) 6 6, .slice (some ⟨w1.heap.size, 0, none⟩) 2 2] 32)).drew →
      Calls Try.prog 70 #[.slice (some ⟨w1.heap.size + 1, 0, none⟩) 2 2] W fun e w' => ∃ A' c', e = .returned (.slice A' 8 c') ∧ Own w' w1.heap.size 3 A' 8 c' (i64s (i.drop 3)) ∧ Ext w1 w' := by
    intro W hW
    have e1 : Ext (w1.alloc (.cells #[.int .i64 u, .int .i64 v] 3)) W := by rw [hW]; exact ((Ext.refl _).alloc _).drew
    have e0 : Ext w1 W := ((Ext.refl w1).alloc _).trans e1
    have s2 := (lit2I w1 _ rfl u v 3).ext e1
    have s1 := (hB1.sl.sub 3 6 (by omega)).ext e0
    have s0 : Sl W (some ⟨w1.heap.size + 1, 0, none⟩) 2 2 [.slice (some ⟨w.heap.size, 3, none⟩) 6 6, .slice (some ⟨w1.heap.size, 0, none⟩) 2 2] := by
      have := (Sl.lit (w1.alloc (.cells #[.int .i64 u, .int .i64 v] 3)) #[.slice (some ⟨w.heap.size, 3, none⟩) 6 6, .slice (some ⟨w1.heap.size, 0, none⟩) 2 2] 32 2 rfl (by omega) (by simp [Value.oneCell'])).ext (Ext.drew (Ext.refl _))
      rw [hW]
      simpa using this
    rw [show ((i64s i).drop 3).take 6 = i64s ((i.drop 3).take 6) by simp [i64s, List.map_take, List.map_drop]] at s1
    refine (ConcatI _ _ _ _ _ _ _ _ _ _ _ s0 s1 s2 (by omega) (by omega) (by omega)).mono ?_
    rintro e w' ⟨A', c', he, hO, hE⟩
    rw [HD.out] at hO
    exact ⟨A', c', he, hO.low e0.size, e0.trans hE⟩
  have HC := hide (hC _ rfl)
  clear hC hW2 W2
  go_region_held3 (fun w' => w'.cell? ⟨w.heap.size, 9, none⟩ = some (.int .i64 u) ∧ w'.cell? ⟨w.heap.size, 10, none⟩ = some (.int .i64 v)) (first | go_keep | (exact ⟨hE2.cell c9, hE2.cell c10⟩))
    ((go_at_call 70; refine HC.out.mono ?_; rintro e w2 ⟨A2, cc, rfl, hO2, hE2⟩))
  have hB2 := hB1.ext hE2
  have hF2 := hE1.trans hE2
  have q0 := hB2.atN 0 (by omega)
  have q1 := hB2.atN 1 (by omega)
  have q2 := hB2.atN 2 (by omega)
  clear HC HD c9 c10 hB1 hE1 hE2 hz1
  have l8 : (i.drop 3).length = 8 := by rw [List.length_drop, HL.out]
  have L8 := hide l8
  clear l8
  go_wp2
  go_loop [4, 18] (fun _ j => ∃ k : Nat, k ≤ 8 ∧ j = .int .i64 k ∧ Hid (((i.drop 3).take k).all word = true)) (fun _ j => 8 - (intOf j).toNat)
  case atStart => exact ⟨0, by omega, rfl, rfl⟩
  case round =>
    obtain ⟨k, hk, rfl, ha⟩ := hrel
    by_cases hlt : k < 8
    · obtain ⟨b, o, x, rfl, hx, hc⟩ := hO2.sl.atI hlt
      have hi1 : (k : Int) < 8 := by omega
      go_wp2_with fail
      refine (ino_between _ _ _ _).mono ?_
      rintro e w3 ⟨rfl, rfl⟩
      have hw : decide (0 ≤ x ∧ x ≤ 65535) = word x := rfl
      rw [hw]
      clear hw
      rcases hwx : word x with _ | _
      · have hno : decide (mayI i) = false := by
          rw [decide_eq_false_iff_not]
          rintro (h | ⟨_, _, _, h⟩)
          · exact HZ.out h
          · exact all_no hx.out hwx h
        have HN := hide hno
        clear hno hwx
        go_wp2
        go_ret
        exact ⟨ret_bool HN.out.symm, hF2⟩
      · have HN := hide (all_succ hx.out ha.out hwx)
        clear hwx
        go_wp2
        go_round
        case rel => exact ⟨k + 1, by omega, by go_num, HN⟩
        case measure => simp [intOf]; omega
    · obtain rfl : k = 8 := by omega
      have hall : (i.drop 3).all word = true := by
        have := ha.out
        rwa [List.take_of_length_le (by rw [L8.out]; omega)] at this
      have hm : decide (mayI i) = decide ((1 ≤ i.getD 0 0 ∧ i.getD 0 0 ≤ 3) ∧ (0 ≤ i.getD 1 0 ∧ i.getD 1 0 ≤ 65535) ∧ (0 ≤ i.getD 2 0 ∧ i.getD 2 0 ≤ 20736)) := by
        apply decide_eq_decide.2
        constructor
        · rintro (h | ⟨h1, h2, h3, _⟩)
          · exact absurd h HZ.out
          · exact ⟨h1, h2, h3⟩
        · rintro ⟨h1, h2, h3⟩
          exact .inr ⟨h1, h2, h3, hall⟩
      have HM := hide hm
      clear hm hall ha hlt
      generalize i.getD 0 0 = x0 at *
      generalize i.getD 1 0 = x1 at *
      generalize i.getD 2 0 = x2 at *
      go_wp2_with fail
      refine (ino_between _ _ _ _).mono ?_
      rintro e w3 ⟨rfl, rfl⟩
      by_cases h1 : 1 ≤ x0 ∧ x0 ≤ 3
      case neg =>
        rw [decide_eq_false h1]
        have HN := hide (HM.out.trans (decide_eq_false (fun h => h1 h.1)))
        clear h1
        go_wp2
        go_ret
        exact ⟨ret_bool HN.out.symm, hF2⟩
      rw [decide_eq_true h1]
      go_wp2_with fail
      refine (ino_between _ _ _ _).mono ?_
      rintro e w3 ⟨rfl, rfl⟩
      by_cases h2 : 0 ≤ x1 ∧ x1 ≤ 65535
      case neg =>
        rw [decide_eq_false h2]
        have HN := hide (HM.out.trans (decide_eq_false (fun h => h2 h.2.1)))
        clear h1 h2
        go_wp2
        go_ret
        exact ⟨ret_bool HN.out.symm, hF2⟩
      rw [decide_eq_true h2]
      go_wp2_with fail
      refine (ino_between _ _ _ _).mono ?_
      rintro e w3 ⟨rfl, rfl⟩
      have hh : decide (mayI i) = decide (0 ≤ x2 ∧ x2 ≤ 20736) := HM.out.trans (decide_eq_decide.2 ⟨fun h => h.2.2, fun h => ⟨h1, h2, h⟩⟩)
      have HN := hide hh
      clear h1 h2 hh
      generalize decide (0 ≤ x2 ∧ x2 ≤ 20736) = v3 at *
      go_wp2
      go_ret
      exact ⟨ret_bool HN.out.symm, hF2⟩

theorem mayI_parts {i : List Int} (hl : i.length = 11) (hz : ¬ i = zI) : mayI i ↔ (((i.drop 3).take 6).all word = true) ∧ (1 ≤ i.getD 0 0 ∧ i.getD 0 0 ≤ 3) ∧ word (i.getD 1 0) = true ∧ (0 ≤ i.getD 2 0 ∧ i.getD 2 0 ≤ 20736) ∧ word (i.getD 9 0) = true ∧ word (i.getD 10 0) = true := by
  have hd := drop3 hl
  have ha : (i.drop 3).all word = true ↔ ((i.drop 3).take 6).all word = true ∧ word (i.getD 9 0) = true ∧ word (i.getD 10 0) = true := by
    have e : (i.drop 3).all word = ((i.drop 3).take 6 ++ [i.getD 9 0, i.getD 10 0]).all word := by rw [hd]
    rw [e, List.all_append, Bool.and_eq_true]
    simp only [List.all_cons, List.all_nil, Bool.and_true, Bool.and_eq_true]
  have hw : word (i.getD 1 0) = true ↔ (0 ≤ i.getD 1 0 ∧ i.getD 1 0 ≤ 65535) := by unfold word; rw [decide_eq_true_iff]
  constructor
  · rintro (h | ⟨h1, h2, h3, h4⟩)
    · exact absurd h hz
    · obtain ⟨a1, a2, a3⟩ := ha.1 h4
      exact ⟨a1, h1, hw.2 h2, h3, a2, a3⟩
  · rintro ⟨h1, h2, h3, h4, h5, h6⟩
    exact .inr ⟨h2, hw.1 h3, h4, ha.2 ⟨h1, h5, h6⟩⟩
set_option maxRecDepth 100000 in
set_option maxHeartbeats 1000000 in
theorem ref7_May (i : List Int) (hl : i.length = 11) (w : World) : Calls Try.prog 54 #[.agg (i64s i).toArray] w fun e w' => e = .returned (.bool (decide (mayI i))) ∧ Ext w w' := by
  have HL := hide hl
  have hL := i64s_len i
  rw [hl] at hL
  have HLL := hide hL
  have heq := fun w1 => eq_inode i zI hl rfl w1
  by_cases hz : i = zI
  · rw [decide_eq_true hz] at heq
    have HM := hide (show decide (mayI i) = true from decide_eq_true (.inl hz))
    clear hz hl hL
    go_enter Try.func54, Try.ntmps54
    go_wp2_with (first
      | (with_reducible refine ag_box rfl 48 (.tmp 0) rfl _ 11 rfl HLL.out (by omega) (i64s_one i) w.heap.size (Nat.le_refl _) ?_; intro w1 hB1 hE1 hz1)
      | (with_reducible refine ag_load rfl 48 (.tmp 1) rfl w.heap.size 11 w.heap.size 48 _ rfl hB1 agg_inode info_inode ?_)
      | (with_reducible refine ag_zero rfl 48 rfl _ (bld_inode _) ?_))
    go_ret
    exact ⟨ret_bool HM.out.symm, hE1⟩
  rw [decide_eq_false hz] at heq
  have HP := hide (mayI_parts hl hz)
  clear hz hl hL
  go_enter Try.func54, Try.ntmps54
  go_wp2_with (first
    | (with_reducible refine ag_box rfl 48 (.tmp 0) rfl _ 11 rfl HLL.out (by omega) (i64s_one i) w.heap.size (Nat.le_refl _) ?_; intro w1 hB1 hF1 hz1)
    | (with_reducible refine ag_load rfl 48 (.tmp 1) rfl w.heap.size 11 w.heap.size 48 _ rfl hB1 agg_inode info_inode ?_)
    | (with_reducible refine ag_zero rfl 48 rfl _ (bld_inode _) ?_))
  go_loop [3] (fun j => ∃ k : Nat, k ≤ 6 ∧ j = .int .i64 k ∧ Hid (((i.drop 3).take k).all word = true)) (fun j => 6 - (intOf j).toNat)
  case atStart => exact ⟨0, by omega, rfl, rfl⟩
  case round =>
    obtain ⟨k, hk, rfl, ha⟩ := hrel
    by_cases hlt : k < 6
    · have hc := hB1.atN (3 + k) (by omega)
      have hx : (i.drop 3)[k]? = some (i.getD (3 + k) 0) := by
        rw [List.getElem?_drop, List.getD_eq_getElem?_getD, List.getElem?_eq_getElem (by rw [HL.out]; omega)]; rfl
      have HX := hide hx
      clear hx
      generalize i.getD (3 + k) 0 = x at *
      have hi1 : (k : Int) < 6 := by omega
      go_wp2_with fail
      refine (ref7_word _ _).mono ?_
      rintro e w3 ⟨rfl, rfl⟩
      rcases hwx : word x with _ | _
      · have hno : decide (mayI i) = false := by
          rw [decide_eq_false_iff_not, HP.out]
          rintro ⟨h, _⟩
          have h1 : ((i.drop 3).take 6)[k]? = some x := by rw [List.getElem?_take, if_pos hlt]; exact HX.out
          exact all_no h1 hwx h
        have HN := hide hno
        clear hno hwx
        go_wp2
        go_ret
        exact ⟨ret_bool HN.out.symm, hF1⟩
      · have HN := hide (all_succ HX.out ha.out hwx)
        clear hwx
        go_wp2
        go_round
        case rel => exact ⟨k + 1, by omega, by go_num, HN⟩
        case measure => simp [intOf]; omega
    · obtain rfl : k = 6 := by omega
      have hm : decide (mayI i) = decide ((1 ≤ i.getD 0 0 ∧ i.getD 0 0 ≤ 3) ∧ word (i.getD 1 0) = true ∧ (0 ≤ i.getD 2 0 ∧ i.getD 2 0 ≤ 20736) ∧ word (i.getD 9 0) = true ∧ word (i.getD 10 0) = true) := by
        apply decide_eq_decide.2
        rw [HP.out]
        exact ⟨fun h => h.2, fun h => ⟨ha.out, h⟩⟩
      have HM := hide hm
      have q0 := hB1.atN 0 (by omega)
      have q1 := hB1.atN 1 (by omega)
      have q2 := hB1.atN 2 (by omega)
      have q9 := hB1.atN 9 (by omega)
      have q10 := hB1.atN 10 (by omega)
      clear hm ha hlt HP
      generalize i.getD 0 0 = x0 at *
      generalize i.getD 1 0 = x1 at *
      generalize i.getD 2 0 = x2 at *
      generalize i.getD 9 0 = x9 at *
      generalize i.getD 10 0 = x10 at *
      by_cases h1 : 1 ≤ x0
      case neg =>
        have HN := hide (HM.out.trans (decide_eq_false (fun h => h1 h.1.1)))
        clear HM
        go_wp2
        go_ret
        exact ⟨ret_bool HN.out.symm, hF1⟩
      by_cases h2 : x0 ≤ 3
      case neg =>
        have HN := hide (HM.out.trans (decide_eq_false (fun h => h2 h.1.2)))
        clear HM
        go_wp2
        go_ret
        exact ⟨ret_bool HN.out.symm, hF1⟩
      go_wp2_with fail
      refine (ref7_word _ _).mono ?_
      rintro e w3 ⟨rfl, rfl⟩
      rcases h3 : word x1 with _ | _
      case false =>
        have HN := hide (HM.out.trans (decide_eq_false (fun h => by rw [h3] at h; cases h.2.1)))
        clear h3
        go_wp2
        go_ret
        exact ⟨ret_bool HN.out.symm, hF1⟩
      have H3 := hide h3
      clear h3
      by_cases h4 : 0 ≤ x2
      case neg =>
        have HN := hide (HM.out.trans (decide_eq_false (fun h => h4 h.2.2.1.1)))
        clear HM
        go_wp2
        go_ret
        exact ⟨ret_bool HN.out.symm, hF1⟩
      by_cases h5 : x2 ≤ 20736
      case neg =>
        have HN := hide (HM.out.trans (decide_eq_false (fun h => h5 h.2.2.1.2)))
        clear HM
        go_wp2
        go_ret
        exact ⟨ret_bool HN.out.symm, hF1⟩
      go_wp2_with fail
      refine (ref7_word _ _).mono ?_
      rintro e w3 ⟨rfl, rfl⟩
      rcases h6 : word x9 with _ | _
      case false =>
        have HN := hide (HM.out.trans (decide_eq_false (fun h => by rw [h6] at h; cases h.2.2.2.1)))
        clear h6
        go_wp2
        go_ret
        exact ⟨ret_bool HN.out.symm, hF1⟩
      have H6 := hide h6
      clear h6
      go_wp2_with fail
      refine (ref7_word _ _).mono ?_
      rintro e w3 ⟨rfl, rfl⟩
      have hh : decide (mayI i) = word x10 := by
        rw [HM.out, Bool.eq_iff_iff, decide_eq_true_iff]
        exact ⟨fun h => h.2.2.2.2, fun h => ⟨⟨h1, h2⟩, H3.out, ⟨h4, h5⟩, H6.out, h⟩⟩
      have HN := hide hh
      clear hh
      generalize word x10 = v3 at *
      go_wp2
      go_ret
      exact ⟨ret_bool HN.out.symm, hF1⟩
end Go.Proofs.Ythbdnaogjmnagaa
