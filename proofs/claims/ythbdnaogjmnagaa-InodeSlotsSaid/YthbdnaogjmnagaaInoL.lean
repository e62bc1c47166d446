/- Contracts of inodes: their bytes. -/
import Derived.Test.YthbdnaogjmnagaaInoW
import Derived.Test.YthbdnaogjmnagaaApart
namespace Go.Proofs.Ythbdnaogjmnagaa
set_option linter.unusedVariables false
open Go.RowKit

theorem fixB_take (n m j : Nat) (hj : j < m) : (fixB n m).take (j + 1) = (fixB n m).take j ++ [n / 2 ^ (8 * (m - 1 - j)) % 256] := by
  rw [List.take_add_one]
  congr 1
  simp [fixB, hj]
theorem u8_conv (x : Int) (h : 0 ≤ x) : IntKind.u8.wrap x = ((x.toNat % 256 : Nat) : Int) := by
  rw [IntKind.wrap_u8]; omega

set_option maxRecDepth 100000 in
set_option maxHeartbeats 1000000 in
theorem inode_fix (w0 w : World) (hE0 : Ext w0 w) (A : Option Addr) (n c : Nat) (xs : List Nat) (h : Own w w0.heap.size 5 A n c (by8 xs)) (N M : Int) (v m : Nat) (hN : N = v) (hM : M = m) (hm : m ≤ 7) (hv : v < 2 ^ 62) (hn : n ≤ 1000000) :
    Calls Try.prog 73 #[.slice A n c, .int .i64 N, .int .i64 M] w fun e w' => ∃ A' c', e = .returned (.slice A' (n + m) c') ∧ Own w' w0.heap.size 5 A' (n + m) c' (by8 (xs ++ fixB v m)) ∧ Ext w0 w' := by
  subst hN hM
  have hl := h.len
  go_enter Try.func73, Try.ntmps73
  go_wp2
  go_loopg [0, 7] m (fun g s k wr => ∃ (A1 : Option Addr) (c1 j : Nat), j + g = m ∧ k = .int .i64 ((g : Int) - 1) ∧ s = .slice A1 (n + j) c1 ∧ Own wr w0.heap.size 5 A1 (n + j) c1 (by8 (xs ++ (fixB v m).take j)) ∧ Ext w0 wr)
  case atStart => exact ⟨A, c, 0, by omega, rfl, rfl, by simpa using h, hE0⟩
  case round =>
    obtain ⟨A1, c1, j, hj, rfl, rfl, hO, hE⟩ := hrel
    have hsz := hE.size
    cases gk with
    | zero =>
      obtain rfl : j = m := by omega
      rw [List.take_of_length_le (by rw [fixB_len]; exact Nat.le_refl _)] at hO
      go_wp2
      go_ret
      exact ⟨A1, c1, rfl, hO, hE⟩
    | succ g =>
      have hs := fixB_take v m j (by omega)
      rw [show m - 1 - j = g from by omega] at hs
      have HS := hide hs
      clear hs
      rw [show ((g + 1 : Nat) : Int) - 1 = (g : Int) from by omega]
      have hg : g ≤ 6 := by omega
      have hb8 : by8 [v / 2 ^ (8 * g) % 256] = [.int .u8 ((v : Int) / 2 ^ (8 * g) % 256)] := by simp [by8]
      have HB8 := hide hb8
      clear hb8
      go_wp2_with (at_builtin; refine app8 rfl (.tmp 14) (.tmp 20) rfl w0.heap.size _ (n + j) c1 _ rfl (hO.ext ((Ext.refl _).alloc _)) _ 1 1 _ rfl (Sl.lit wr _ 5 1 rfl (by omega) (by simp [Value.oneCell'])) (by omega) (by simp; omega) ?_; intro A2 c2 w2 hO2 hG2; have hE2 := (hE.alloc _).grown hG2 (fun q hq => (hO.block q hq).1))
      go_roundg g
      case measure => omega
      case rel =>
        refine ⟨A2, c2, j + 1, by omega, rfl, rfl, ?_, hE2⟩
        rw [HS.out, ← List.append_assoc, by8_append, HB8.out]
        exact hO2

set_option maxHeartbeats 1000000 in
theorem ref7_two (w0 w : World) (hE0 : Ext w0 w) (A : Option Addr) (n c : Nat) (xs : List Nat) (h : Own w w0.heap.size 5 A n c (by8 xs)) (N : Int) (h0 : 0 ≤ N) (h1 : N ≤ 65535) (hn : n ≤ 1000)
    {B0 e0 g0 n0 c0 : Nat} {vs0 : List Value} (hI : Own w B0 e0 (some ⟨g0, 0, none⟩) n0 c0 vs0) (hAp : Apart A (some ⟨g0, 0, none⟩)) :
    Calls Try.prog 63 #[.slice A n c, .int .i64 N] w fun e w' => ∃ A' c', e = .returned (.slice A' (n + 2) c') ∧ Own w' w0.heap.size 5 A' (n + 2) c' (by8 (xs ++ fixB N.toNat 2)) ∧ Ext w0 w' ∧
      Own w' B0 e0 (some ⟨g0, 0, none⟩) n0 c0 vs0 ∧ Apart A' (some ⟨g0, 0, none⟩) := by
  obtain ⟨v, rfl⟩ := Int.eq_ofNat_of_zero_le h0
  rw [Int.toNat_natCast]
  have hsz := hE0.size
  have hb8 : by8 (fixB v 2) = [.int .u8 ((v : Int) / 256), .int .u8 ((v : Int) % 256)] := by rw [fixB_two, Nat.mod_eq_of_lt (show v / 256 < 256 by omega)]; simp [by8]
  have HB8 := hide hb8
  clear hb8
  go_enter Try.func63, Try.ntmps63
  go_wp2_with (at_builtin; refine app8b rfl (.tmp 5) (.tmp 11) rfl w0.heap.size _ n c _ rfl (h.ext ((Ext.refl _).alloc _)) _ 2 2 _ rfl (Sl.lit w _ 5 2 rfl (by omega) (by simp [Value.oneCell'])) (by omega) (by simp; omega) ?_; intro A2 c2 w2 hO2 hG2 hT2; have hE2 := (hE0.alloc _).grown hG2 (fun q hq => (h.block q hq).1); have hK2 := (hI.ext ((Ext.refl w).alloc _)).kept hG2 hAp.row; have hAp2 := hAp.grew hT2 hI (by simp))
  go_ret
  exact ⟨A2, c2, rfl, by rw [by8_append, HB8.out]; exact hO2, hE2, hK2, hAp2⟩


theorem inode_fix1 (w0 w : World) (hE0 : Ext w0 w) (A : Option Addr) (n c : Nat) (xs : List Nat) (h : Own w w0.heap.size 5 A n c (by8 xs)) (N : Int) (h0 : 0 ≤ N) (h1 : N ≤ 65535) (hn : n ≤ 1000) :
    Calls Try.prog 73 #[.slice A n c, .int .i64 N, .int .i64 1] w fun e w' => ∃ A' c', e = .returned (.slice A' (n + 1) c') ∧ Own w' w0.heap.size 5 A' (n + 1) c' (by8 (xs ++ fixB N.toNat 1)) ∧ Ext w0 w' :=
  inode_fix w0 w hE0 A n c xs h N 1 N.toNat 1 (by omega) rfl (by omega) (by omega) (by omega)
theorem inode_fix2 (w0 w : World) (hE0 : Ext w0 w) (A : Option Addr) (n c : Nat) (xs : List Nat) (h : Own w w0.heap.size 5 A n c (by8 xs)) (N : Int) (h0 : 0 ≤ N) (h1 : N ≤ 65535) (hn : n ≤ 1000) :
    Calls Try.prog 73 #[.slice A n c, .int .i64 N, .int .i64 2] w fun e w' => ∃ A' c', e = .returned (.slice A' (n + 2) c') ∧ Own w' w0.heap.size 5 A' (n + 2) c' (by8 (xs ++ fixB N.toNat 2)) ∧ Ext w0 w' :=
  inode_fix w0 w hE0 A n c xs h N 2 N.toNat 2 (by omega) rfl (by omega) (by omega) (by omega)
theorem inode_fix4 (w0 w : World) (hE0 : Ext w0 w) (A : Option Addr) (n c : Nat) (xs : List Nat) (h : Own w w0.heap.size 5 A n c (by8 xs)) (N : Int) (h0 : 0 ≤ N) (h1 : N ≤ 65535) (hn : n ≤ 1000) :
    Calls Try.prog 73 #[.slice A n c, .int .i64 N, .int .i64 4] w fun e w' => ∃ A' c', e = .returned (.slice A' (n + 4) c') ∧ Own w' w0.heap.size 5 A' (n + 4) c' (by8 (xs ++ fixB N.toNat 4)) ∧ Ext w0 w' :=
  inode_fix w0 w hE0 A n c xs h N 4 N.toNat 4 (by omega) rfl (by omega) (by omega) (by omega)

def smallI (i : List Int) : Prop := ∀ x ∈ i, 0 ≤ x ∧ x ≤ 65535
theorem smallI.get {i : List Int} (h : smallI i) (j : Nat) : 0 ≤ i.getD j 0 ∧ i.getD j 0 ≤ 65535 := by
  rw [List.getD_eq_getElem?_getD]
  rcases hx : i[j]? with _ | x
  · simp
  · have := h x (List.mem_of_getElem? hx)
    simpa using this
theorem mayI.small {i : List Int} (hl : i.length = 11) (h : mayI i) : smallI i := by
  rcases h with rfl | ⟨h1, h2, h3, h4⟩
  · intro x hx
    have := List.eq_of_mem_replicate hx
    omega
  · obtain ⟨a, b, c, d, e, f, g, h', j, k, l, rfl⟩ := eleven hl
    intro x hx
    simp only [List.mem_cons, List.not_mem_nil, or_false] at hx
    simp at h1 h2 h3
    rcases hx with rfl | rfl | rfl | hx
    · omega
    · omega
    · omega
    · have := List.all_eq_true.1 h4 x (by simpa using hx)
      simpa [word] using this
theorem wd2_fix (p : Int) : wd2 p = fixB p.toNat 2 := by rw [fixB_two]; rfl
theorem info_six : (Try.prog.info? 46).map (·.size) = some 6 := by kernel_rfl
theorem agg_six (w : World) : (isAgg 46).run Try.prog w = .ok true w := by kernel_rfl
theorem idx_six (xs : List Int) (hl : xs.length = 6) (k : Nat) (x : Int) (hk : xs[k]? = some x) (w : World) : (Instr.index 46 (.agg (i64s xs).toArray) (.int .i64 (k : Int))).run Try.prog w = .ok (.int .i64 x) w := by
  obtain ⟨i0, hi0, hz0, hz1, hz2⟩ := info_parts info_intT
  exact run_index_one 46 3 6 Try.underlying46 (by kernel_rfl) hi0 hz1 (i64s xs) k _ (i64s_get hk) (by rw [i64s_len, hl]) w
set_option maxRecDepth 100000 in
set_option maxHeartbeats 1000000 in
theorem inode_laid (i : List Int) (hl : i.length = 11) (hs : smallI i) (w : World) : Calls Try.prog 61 #[.agg (i64s i).toArray] w fun e w' => ∃ A' c', e = .returned (.slice A' 23 c') ∧ Own w' w.heap.size 5 A' 23 c' (by8 (inB i)) ∧ Ext w w' := by
  have HL := hide hl
  have hL := i64s_len i
  rw [hl] at hL
  have HLL := hide hL
  have HS := hide hs
  clear hl hL hs
  go_enter Try.func61, Try.ntmps61
  go_wp2_with (with_reducible refine ag_box rfl 48 (.tmp 0) rfl _ 11 rfl HLL.out (by omega) (i64s_one i) w.heap.size (Nat.le_refl _) ?_; intro w1 hB hE1 hz1)
  have c0 := hB.atN 0 (by omega)
  have c1 := hB.atN 1 (by omega)
  have c2 := hB.atN 2 (by omega)
  obtain ⟨a0, b0⟩ := HS.out.get 0
  obtain ⟨a1, b1⟩ := HS.out.get 1
  obtain ⟨a2, b2⟩ := HS.out.get 2
  have hI : inB i = fixB (i.getD 0 0).toNat 1 ++ fixB (i.getD 1 0).toNat 2 ++ fixB (i.getD 2 0).toNat 4 ++ ptrB (i.drop 3) := rfl
  have HI := hide hI
  clear hI
  generalize i.getD 0 0 = x0 at *
  generalize i.getD 1 0 = x1 at *
  generalize i.getD 2 0 = x2 at *
  have hO : Own w1.drew w1.heap.size 5 none 0 0 (by8 []) := Own.nilS _ _ _
  have hE : Ext w1 w1.drew := (Ext.refl _).drew
  go_region_held3 (fun w' => w'.cell? ⟨w.heap.size, 0, none⟩ = some (.int .i64 x0) ∧ w'.cell? ⟨w.heap.size, 1, none⟩ = some (.int .i64 x1) ∧ w'.cell? ⟨w.heap.size, 2, none⟩ = some (.int .i64 x2)) (exact ⟨hE.cell c0, hE.cell c1, hE.cell c2⟩)
    (first
      | (go_at_call 73; (with_reducible refine (inode_fix1 w1 _ hE _ _ _ _ hO _ (by assumption) (by assumption) (by omega)).mono ?_); rintro e w' ⟨A', c', rfl, hO', hE'⟩; clear hO hE; have hO := hO'; have hE := hE'; clear hO' hE')
      | (go_at_call 73; (with_reducible refine (inode_fix2 w1 _ hE _ _ _ _ hO _ (by assumption) (by assumption) (by omega)).mono ?_); rintro e w' ⟨A', c', rfl, hO', hE'⟩; clear hO hE; have hO := hO'; have hE := hE'; clear hO' hE')
      | (go_at_call 73; (with_reducible refine (inode_fix4 w1 _ hE _ _ _ _ hO _ (by assumption) (by assumption) (by omega)).mono ?_); rintro e w' ⟨A', c', rfl, hO', hE'⟩; clear hO hE; have hO := hO'; have hE := hE'; clear hO' hE'))
  rw [show 0 + 1 + 2 + 4 = 7 from rfl, List.nil_append] at hO
  generalize fixB x0.toNat 1 ++ fixB x1.toNat 2 ++ fixB x2.toNat 4 = hd at *
  have B0 := hB
  clear c0 c1 c2 a0 b0 a1 b1 a2 b2
  have hB2 := hB.ext hE
  have hsix : ((i64s i).drop 3).take 6 = i64s ((i.drop 3).take 6) := by simp [i64s, List.map_take, List.map_drop]
  have l6 : ((i.drop 3).take 6).length = 6 := by rw [List.length_take, List.length_drop, HL.out]; rfl
  have hix := fun k x hk w => idx_six ((i.drop 3).take 6) l6 k x hk w
  have HIX := hide hix
  have H6 := hide hsix
  have L6 := hide l6
  clear hix hsix l6
  go_wp2_with (with_reducible refine ag_loadAt rfl 46 (.tmp 15) rfl w.heap.size 3 6 11 11 w.heap.size 48 (i64s i) rfl hB2 agg_six info_six (by omega) ?_; rw [H6.out])
  go_loopw [3, 5, 17] (fun s _ j wr => ∃ (k c4 : Nat) (A4 : Option Addr), k ≤ 6 ∧ j = .int .i64 k ∧ s = .slice A4 (7 + 2 * k) c4 ∧ Own wr w1.heap.size 5 A4 (7 + 2 * k) c4 (by8 (hd ++ ptrB ((i.drop 3).take k))) ∧ Ext w1 wr) (fun _ _ j _ => 6 - (intOf j).toNat)
  case atStart => exact ⟨0, _, _, by omega, rfl, rfl, by simpa [ptrB] using hO, hE⟩
  case round =>
    clear hO hE hB2
    obtain ⟨k, c4, A4, hk, rfl, rfl, hO, hE⟩ := hrel
    by_cases hlt : k < 6
    · have hx : (i.drop 3)[k]? = some (i.getD (3 + k) 0) := by
        rw [List.getElem?_drop, List.getD_eq_getElem?_getD, List.getElem?_eq_getElem (by rw [HL.out]; omega)]; rfl
      have hx6 : ((i.drop 3).take 6)[k]? = some (i.getD (3 + k) 0) := by rw [List.getElem?_take, if_pos hlt]; exact hx
      obtain ⟨a0, b0⟩ := HS.out.get (3 + k)
      generalize i.getD (3 + k) 0 = x at *
      have hsc := ptrB_succ hx
      have HX := hide hsc
      have hix := HIX.out k x hx6
      clear hx hx6 hsc
      go_wp2_with fail
      refine (inode_fix2 w1 _ hE _ _ _ _ hO _ a0 b0 (by omega)).mono ?_
      rintro e w' ⟨A', c', rfl, hO', hE'⟩
      rw [← wd2_fix, List.append_assoc, ← HX.out] at hO'
      go_wp2
      go_roundw
      case rel => exact ⟨k + 1, c', A', by omega, by go_num, by simp; omega, by rw [show 7 + 2 * (k + 1) = 7 + 2 * k + 2 from by omega]; exact hO', hE'⟩
      case measure => simp [intOf]; omega
    · obtain rfl : k = 6 := by omega
      go_wp2_with fail
      have hB3 := B0.ext hE
      have c0 := hB3.atN 9 (by omega)
      have c1 := hB3.atN 10 (by omega)
      have c0' := B0.atN 9 (by omega)
      have c1' := B0.atN 10 (by omega)
      obtain ⟨a0, b0⟩ := HS.out.get 9
      obtain ⟨a1, b1⟩ := HS.out.get 10
      have hd3 := drop3 HL.out
      generalize i.getD 9 0 = u at *
      generalize i.getD 10 0 = v at *
      have hfin : hd ++ ptrB ((i.drop 3).take 6) ++ fixB u.toNat 2 ++ fixB v.toNat 2 = inB i := by
        have e : ptrB (i.drop 3) = ptrB ((i.drop 3).take 6) ++ (wd2 u ++ wd2 v) := by
          conv => lhs; rw [← hd3]
          unfold ptrB
          rw [List.flatMap_append]
          rfl
        rw [HI.out, e, ← wd2_fix, ← wd2_fix]
        simp only [List.append_assoc]
      have HFIN := hide hfin
      have hOd := hO.ext (Ext.drew (Ext.refl _))
      have hEd := hE.drew
      clear hfin hd3 hO hB3 B0
      obtain ⟨hO, hE0⟩ := And.intro hOd hEd
      go_region_held3 (fun w' => w'.cell? ⟨w.heap.size, 9, none⟩ = some (.int .i64 u) ∧ w'.cell? ⟨w.heap.size, 10, none⟩ = some (.int .i64 v)) (exact ⟨hE0.cell c0', hE0.cell c1'⟩)
        ((go_at_call 73; (with_reducible refine (inode_fix2 w1 _ hE0 _ _ _ _ hO _ (by assumption) (by assumption) (by omega)).mono ?_); rintro e w' ⟨A', c', rfl, hO', hE'⟩; clear hO hE0; have hO := hO'; have hE0 := hE'; clear hO' hE'))
      rw [HFIN.out] at hO
      go_wp2
      go_ret
      exact ⟨_, _, rfl, hO.low hE1.size, hE1.trans hE0⟩

theorem allI_succ {is : List Int} {k : Nat} (h : allI is k) (h2 : mayI (nth is k)) : allI is (k + 1) := fun j hj => by
  by_cases hk : j = k
  · subst hk; exact h2
  · exact h j (by omega)
theorem nth_i64s (is : List Int) (k : Nat) : ((i64s is).drop (k * 11)).take 11 = i64s (nth is k) := by simp [nth, i64s, List.map_take, List.map_drop]
theorem idx_inodes (is : List Int) (k : Nat) (hk : k < 4) (w : World) : (Instr.index 49 (.agg (i64s is).toArray) (.int .i64 (k : Int))).run Try.prog w = .ok (.agg (i64s (nth is k)).toArray) w := by
  have := run_index_row (P := Try.prog) 49 48 4 11 Try.underlying49 row_inode info_inode (i64s is) k hk w
  rwa [nth_i64s] at this
theorem i64s_len' {xs : List Int} {n : Nat} (h : xs.length = n) : (i64s xs).length = n := by rw [i64s_len, h]

set_option maxRecDepth 100000 in
set_option maxHeartbeats 1000000 in
theorem inode_Lay (is : List Int) (hl : is.length = 44) (w : World) : Calls Try.prog 45 #[.agg (i64s is).toArray] w fun e w' => ∃ A' n' c', e = .returned (.tuple #[.slice A' n' c', .int .i64 (layIE is : Nat)]) ∧ n' ≤ 128 ∧ Own w' w.heap.size 5 A' n' c' (by8 (layIL is)) ∧ Ext w w' := by
  have HL := hide hl
  have HLL := hide (i64s_len' hl)
  have HIX := hide (idx_inodes is)
  clear hl
  go_enter Try.func45, Try.ntmps45
  go_wp2_with (first
    | (with_reducible refine ag_box rfl 49 (.tmp 0) rfl _ 44 rfl HLL.out (by omega) (i64s_one is) w.heap.size (Nat.le_refl _) ?_; intro w1 hB hE1 hz1)
    | (with_reducible refine ag_load rfl 49 (.tmp 1) rfl w.heap.size 44 w.heap.size 49 _ rfl hB agg_inodes info_inodes ?_))
  go_loopw [4, 6, 8] (fun s _ j wr => ∃ (k c4 : Nat) (A4 : Option Addr), k ≤ 4 ∧ j = .int .i64 k ∧ s = .slice A4 (23 * k) c4 ∧ Own wr w.heap.size 5 A4 (23 * k) c4 (by8 (layB is k)) ∧ Hid (allI is k) ∧ Ext w wr) (fun _ _ j _ => 4 - (intOf j).toNat)
  case atStart => exact ⟨0, 0, none, by omega, rfl, rfl, Own.nilS _ _ _, (fun j hj => by omega), hE1⟩
  case round =>
    obtain ⟨k, c4, A4, hk, rfl, rfl, hO, ha, hE⟩ := hrel
    have hsz := hE.size
    by_cases hlt : k < 4
    · have hix := HIX.out k hlt
      have NL := hide (nth_len HL.out hlt)
      have hmay := fun w => inode_May (nth is k) NL.out w
      have hs := layB_succ is k
      have HS := hide hs
      clear hs
      go_wp2_with (first
        | (with_reducible refine ag_alloc (o := ⟨some 6, _, _, _, _, _⟩) rfl 48 rfl _ 11 zero_inode rfl (by omega) (i64s_one _) wr.heap.size (Nat.le_refl _) ?_; intro w3 hI3 hE3 hz3)
        | (with_reducible refine ag_store (o := ⟨none, _, _, _, _, _⟩) rfl 48 (.tmp 6) (.tmp 10) rfl wr.heap.size 11 wr.heap.size 48 _ (i64s (nth is k)) rfl (by kernel_rfl) hI3 (i64s_len' NL.out) (i64s_one _) info_inode ?_; intro w4 hI4 hG4; have hE4 : Ext wr w4 := hE3.grown hG4 (by simp))
        | (with_reducible refine ag_load rfl 48 (.tmp 6) rfl wr.heap.size 11 wr.heap.size 48 _ rfl hI4 agg_inode info_inode ?_))
      refine (hmay _).mono ?_
      rintro e w5 ⟨rfl, hE5⟩
      by_cases hm : mayI (nth is k)
      · rw [decide_eq_true hm]
        have hlaid := fun w => inode_laid (nth is k) NL.out (mayI.small NL.out hm) w
        have HA := hide (allI_succ ha.out hm)
        have hI5 := hI4.ext hE5
        have hO5 := hO.ext (hE4.trans hE5)
        have hF5 := hE.trans (hE4.trans hE5)
        clear hm hmay hI4 hI3 hG4 hE3 hz3
        go_wp2_with (first
          | (with_reducible refine ag_load rfl 48 (.tmp 6) rfl wr.heap.size 11 wr.heap.size 48 _ rfl hI5 agg_inode info_inode ?_)
          | (go_at_call 61; (with_reducible refine (hlaid _).mono ?_); rintro e w6 ⟨A6, c6, rfl, hO6, hE6⟩; have hsz6 := (hF5.trans hE6).size)
          | (at_builtin; refine app8 rfl (.tmp 14) (.tmp 16) rfl w.heap.size _ (23 * k) c4 _ rfl (hO5.ext hE6) _ 23 c6 _ rfl hO6.sl (by omega) hsz6 ?_; intro A7 c7 w7 hO7 hG7; have hE7 := (hF5.trans hE6).grown hG7 (fun q hq => (hO.block q hq).1)))
        go_roundw
        case rel => exact ⟨k + 1, c7, A7, by omega, by go_num, by simp; omega, by rw [HS.out, by8_append, show 23 * (k + 1) = 23 * k + 23 from by omega]; exact hO7, HA, hE7⟩
        case measure => simp [intOf]; omega
      · rw [decide_eq_false hm]
        have hno : ¬ allI is 4 := fun h => hm (h k hlt)
        have h1 : layIL is = [] := if_neg hno
        have h2 : layIE is = 2 := if_neg hno
        have H12 := hide (And.intro h1 h2)
        clear hm hno h1 h2 hmay
        go_wp2
        go_ret2
        rw [H12.out.1, H12.out.2]
        exact ⟨none, 0, 0, rfl, by omega, Own.nilS _ _ _, hE.trans (hE4.trans hE5)⟩
    · obtain rfl : k = 4 := by omega
      have h1 : layIL is = sealOf 73 (layB is 4) := if_pos ha.out
      have h2 : layIE is = 0 := if_pos ha.out
      have H12 := hide (And.intro h1 h2)
      have bb := Bytes.layB is 4
      clear h1 h2 ha hlt
      go_wp2_with fail
      refine (seal_Seal 73 _ _ _ _ _ hO.sl bb (by omega) (by omega) (by omega)).mono ?_
      rintro e w5 ⟨g5, c5, rfl, hO5, hE5⟩
      go_wp2
      go_ret2
      rw [H12.out.1, H12.out.2]
      exact ⟨_, _, _, rfl, by omega, hO5.low hsz, hE.trans hE5⟩

theorem i64s_getD {xs : List Int} {j : Nat} (h : j < xs.length) : (i64s xs)[j]? = some (.int .i64 (xs.getD j 0)) := by
  rw [List.getD_eq_getElem?_getD, List.getElem?_eq_getElem h]
  simp [i64s, h]
theorem and_word {x : Int} (h0 : 0 ≤ x) (h1 : x ≤ 1000000) : bits .and .i64 x 65535 = x % 65536 := by
  obtain ⟨q, rfl⟩ := Int.eq_ofNat_of_zero_le h0
  show IntKind.i64.wrap ((BitVec.ofInt 64 (q : Int) &&& BitVec.ofInt 64 65535).toNat : Int) = _
  rw [BitVec.ofInt_natCast, show BitVec.ofInt 64 65535 = BitVec.ofNat 64 65535 from rfl, BitVec.toNat_and, BitVec.toNat_ofNat, BitVec.toNat_ofNat, Nat.mod_eq_of_lt (a := q) (by omega), Nat.mod_eq_of_lt (a := 65535) (by omega), show 65535 = 2 ^ 16 - 1 from rfl, Nat.and_two_pow_sub_one_eq_mod]
  rw [IntWalk.i64_in _ (by omega)]
  omega
theorem fixB_split (v : Nat) : fixB (v / 65536) 2 ++ fixB (v % 65536) 2 = fixB v 4 := by
  have e1 : v / 65536 / 256 % 256 = v / 16777216 % 256 := by omega
  have e3 : v % 65536 / 256 % 256 = v / 256 % 256 := by omega
  have e4 : v % 65536 % 256 = v % 256 := by omega
  rw [fixB_two, fixB_two, fixB_four, be4, e1, e3, e4]
  rfl

set_option maxRecDepth 100000 in
set_option maxHeartbeats 2000000 in
theorem ref7_Lay (is : List Int) (hl : is.length = 44) (w : World) : Calls Try.prog 46 #[.agg (i64s is).toArray] w fun e w' => ∃ A' n' c', e = .returned (.tuple #[.slice A' n' c', .int .i64 (layIE is : Nat)]) ∧ n' ≤ 128 ∧ Own w' w.heap.size 5 A' n' c' (by8 (layIL is)) ∧ Ext w w' := by
  have HL := hide hl
  have HLL := hide (i64s_len' hl)
  clear hl
  go_enter Try.func46, Try.ntmps46
  go_wp2_with (with_reducible refine ag_box rfl 49 (.tmp 0) rfl _ 44 rfl HLL.out (by omega) (i64s_one is) w.heap.size (Nat.le_refl _) ?_; intro w1 hB hE1 hz1)
  go_loopw [4, 5] (fun s j wr => ∃ (k c4 : Nat) (A4 : Option Addr), k ≤ 4 ∧ j = .int .i64 k ∧ s = .slice A4 (23 * k) c4 ∧ Own wr w1.heap.size 5 A4 (23 * k) c4 (by8 (layB is k)) ∧ Hid (allI is k) ∧ Ext w1 wr) (fun _ j _ => 4 - (intOf j).toNat)
  case atStart => exact ⟨0, 0, none, by omega, rfl, rfl, Own.nilS _ _ _, (fun j hj => by omega), Ext.refl _⟩
  case round =>
    obtain ⟨k, c4, A4, hk, rfl, rfl, hO, ha, hE⟩ := hrel
    have hsz := hE.size
    have hBr := hB.ext hE
    by_cases hlt : k < 4
    · have NL := hide (nth_len HL.out hlt)
      have hmay := fun w => ref7_May (nth is k) NL.out w
      have hs := layB_succ is k
      have HS := hide hs
      have NT := hide (nth_i64s is k)
      clear hs
      have hi1 : (k : Int) < 4 := by omega
      go_wp2_with (first
        | (with_reducible refine ag_loadAt rfl 48 (.tmp 13) rfl w.heap.size (k * 11) 11 44 44 w.heap.size 49 (i64s is) rfl hBr agg_inode info_inode (by omega) ?_; rw [NT.out])
        | (with_reducible refine ag_alloc (o := ⟨some 6, _, _, _, _, _⟩) rfl 48 rfl _ 11 zero_inode rfl (by omega) (i64s_one _) wr.heap.size (Nat.le_refl _) ?_; intro w3 hI3 hE3 hz3)
        | (with_reducible refine ag_store (o := ⟨none, _, _, _, _, _⟩) rfl 48 (.tmp 6) (.tmp 14) rfl wr.heap.size 11 wr.heap.size 48 _ (i64s (nth is k)) rfl (by kernel_rfl) hI3 (i64s_len' NL.out) (i64s_one _) info_inode ?_; intro w4 hI4 hG4; have hE4 : Ext wr w4 := hE3.grown hG4 (by simp))
        | (with_reducible refine ag_load rfl 48 (.tmp 6) rfl wr.heap.size 11 wr.heap.size 48 _ rfl hI4 agg_inode info_inode ?_))
      refine (hmay _).mono ?_
      rintro e w5 ⟨rfl, hE5⟩
      by_cases hm : mayI (nth is k)
      · rw [decide_eq_true hm]
        have hsm := mayI.small NL.out hm
        have HA := hide (allI_succ ha.out hm)
        have hI0 := hI4.ext hE5
        have hO0 := hO.ext (hE4.trans hE5)
        have hF0 := hE.trans (hE4.trans hE5)
        have hAp0 : Apart A4 (some ⟨wr.heap.size, 0, none⟩) := fun x y hx hy he => by
          simp at hy; subst hy
          have := hO.block x.block (by rw [hx]; rfl)
          simp at he; omega
        have hIB : inB (nth is k) = fixB ((nth is k).getD 0 0).toNat 1 ++ fixB ((nth is k).getD 1 0).toNat 2 ++ fixB ((nth is k).getD 2 0).toNat 4 ++ ptrB ((nth is k).drop 3) := rfl
        have HIB := hide hIB
        have hd3 := drop3 NL.out
        have HSM := hide hsm
        have e0 := hsm.get 0
        have e1 := hsm.get 1
        have e2 := hsm.get 2
        have e9 := hsm.get 9
        have e10 := hsm.get 10
        have KC := hide (And.intro (i64s_getD (show 0 < (nth is k).length by rw [NL.out]; omega)) (And.intro (i64s_getD (show 1 < (nth is k).length by rw [NL.out]; omega)) (And.intro (i64s_getD (show 2 < (nth is k).length by rw [NL.out]; omega)) (And.intro (i64s_getD (show 9 < (nth is k).length by rw [NL.out]; omega)) (i64s_getD (show 10 < (nth is k).length by rw [NL.out]; omega))))))
        clear hm hmay hI4 hI3 hG4 hE3 hz3 hsm hIB hO hBr
        generalize nth is k = i at *
        have HD3 := hide hd3
        clear hd3
        generalize i.getD 0 0 = x0 at *
        generalize i.getD 1 0 = x1 at *
        generalize i.getD 2 0 = x2 at *
        generalize i.getD 9 0 = x9 at *
        generalize i.getD 10 0 = x10 at *
        obtain ⟨⟨a0, b0⟩, ⟨a1, b1⟩, ⟨a2, b2⟩, ⟨a9, b9⟩, a10, b10⟩ := And.intro e0 (And.intro e1 (And.intro e2 (And.intro e9 e10)))
        clear e0 e1 e2 e9 e10
        have hb1 : by8 (fixB x0.toNat 1) = [.int .u8 (IntKind.u8.wrap x0)] := by
          rw [fixB_one, IntKind.wrap_u8]; simp only [by8, List.map_cons, List.map_nil, List.cons.injEq, and_true]
          congr 1; omega
        have HB1 := hide hb1
        clear hb1
        go_wp2_with fail
        have k0' := (hI0.cellAt 0 (by omega)).trans KC.out.1
        have k1' := (hI0.cellAt 1 (by omega)).trans KC.out.2.1
        have hsz5 := hF0.size
        obtain ⟨hO, hI, hF, hAp⟩ := And.intro (hO0.ext (Ext.refl w5).drew) (And.intro (hI0.ext (Ext.refl w5).drew) (And.intro hF0.drew hAp0))
        go_region_held3 (fun w' => w'.cell? ⟨wr.heap.size, 0, none⟩ = some (.int .i64 x0) ∧ w'.cell? ⟨wr.heap.size, 1, none⟩ = some (.int .i64 x1)) (first | go_keep | (exact ⟨(hI.cellAt 0 (by omega)).trans KC.out.1, (hI.cellAt 1 (by omega)).trans KC.out.2.1⟩))
          (first
            | (refine step8b (by rfl) (.tmp 18) (.tmp 22) (by rfl) w1.heap.size A4 (23 * k) c4 _ (by rfl) (hO0.ext ((Ext.refl w5).alloc _).drew) _ 1 1 _ (by rfl) ((Sl.lit w5 _ 5 1 rfl (by omega) (by simp [Value.oneCell'])).ext (Ext.refl _).drew) (by omega) (by simp; omega) ?_; intro A6 c6 w6 hO6 hG6 hT6; have hI6 := (hI0.ext ((Ext.refl w5).alloc _).drew).kept hG6 hAp0.row; have hAp6 := hAp0.grew hT6 hI0 (by simp); have hF6 := (hF0.alloc _).drew.grown hG6 (fun q hq => (hO0.block q hq).1); rw [← HB1.out, ← by8_append] at hO6; clear hO hI hF hAp; have hO := hO6; have hI := hI6; have hF := hF6; have hAp := hAp6; clear hO6 hI6 hF6 hAp6 hG6 hT6)
            | (go_at_call 63; (with_reducible refine (ref7_two w1 _ hF _ _ _ _ hO _ (by assumption) (by assumption) (by omega) hI hAp).mono ?_); rintro e w' ⟨A', c', rfl, hO', hF', hI', hAp'⟩; clear hO hF hI hAp; have hO := hO'; have hF := hF'; have hI := hI'; have hAp := hAp'; clear hO' hF' hI' hAp'))
        clear k0' k1' hO0 hI0 hF0 hAp0 hE4 hE5
        go_wp2_with fail
        have k2' := (hI.cellAt 2 (by omega)).trans KC.out.2.2.1
        have hand := and_word a2 (by omega)
        have d0 : 0 ≤ x2 / 65536 := by omega
        have d1 : x2 / 65536 ≤ 65535 := by omega
        have d2 : 0 ≤ x2 % 65536 := by omega
        have d3 : x2 % 65536 ≤ 65535 := by omega
        have hspl : fixB (x2 / 65536).toNat 2 ++ fixB (x2 % 65536).toNat 2 = fixB x2.toNat 4 := by
          rw [← fixB_split x2.toNat]
          congr 2
          · omega
          · omega
        have HSPL := hide hspl
        clear hspl
        obtain ⟨hO1, hI1, hF1, hAp1⟩ := And.intro (hO.ext (Ext.refl _).drew) (And.intro (hI.ext (Ext.refl _).drew) (And.intro hF.drew hAp))
        clear hO hI hF hAp
        obtain ⟨hO, hI, hF, hAp⟩ := And.intro hO1 (And.intro hI1 (And.intro hF1 hAp1))
        clear hO1 hI1 hF1 hAp1
        go_region_held3 (fun w' => w'.cell? ⟨wr.heap.size, 2, none⟩ = some (.int .i64 x2)) (first | go_keep | (exact (hI.cellAt 2 (by omega)).trans KC.out.2.2.1))
          (first
            | (go_at_call 63; (with_reducible refine (ref7_two w1 _ hF _ _ _ _ hO _ d0 d1 (by omega) hI hAp).mono ?_); rintro e w' ⟨A', c', rfl, hO', hF', hI', hAp'⟩; clear hO hF hI hAp; have hO := hO'; have hF := hF'; have hI := hI'; have hAp := hAp'; clear hO' hF' hI' hAp')
            | (go_at_call 63; (with_reducible refine (ref7_two w1 _ hF _ _ _ _ hO _ d2 d3 (by omega) hI hAp).mono ?_); rintro e w' ⟨A', c', rfl, hO', hF', hI', hAp'⟩; clear hO hF hI hAp; have hO := hO'; have hF := hF'; have hI := hI'; have hAp := hAp'; clear hO' hF' hI' hAp'))
        clear hand d0 d1 d2 d3 k2'
        rw [List.append_assoc _ (fixB (x2 / 65536).toNat 2), HSPL.out] at hO
        go_wp2
        rw [show 23 * k + 1 + 2 + 2 + 2 = 23 * k + 7 from by omega] at hO ⊢
        obtain ⟨hd, hhd⟩ : ∃ hd, layB is k ++ fixB x0.toNat 1 ++ fixB x1.toNat 2 ++ fixB x2.toNat 4 = hd := ⟨_, rfl⟩
        rw [hhd] at hO
        have HHD := hide hhd
        clear hhd
        generalize wr.heap.size = g0 at *
        go_loopw [4, 7] (fun s j wy => ∃ (q c9 : Nat) (A9 : Option Addr), q ≤ 6 ∧ j = .int .i64 q ∧ s = .slice A9 (23 * k + 7 + 2 * q) c9 ∧ Own wy w1.heap.size 5 A9 (23 * k + 7 + 2 * q) c9 (by8 (hd ++ ptrB ((i.drop 3).take q))) ∧ Ext w1 wy ∧
          Own wy g0 48 (some ⟨g0, 0, none⟩) 11 11 (i64s i) ∧ Apart A9 (some ⟨g0, 0, none⟩)) (fun _ j _ => 6 - (intOf j).toNat)
        case atStart => exact ⟨0, _, _, by omega, rfl, rfl, by simpa [ptrB] using hO, hF, hI, hAp⟩
        case round =>
          clear hO hF hI hAp
          obtain ⟨q, c9, A9, hq, rfl, rfl, hO, hF, hI, hAp⟩ := hrel
          by_cases hlt2 : q < 6
          · have hx : (i.drop 3)[q]? = some (i.getD (3 + q) 0) := by
              rw [List.getElem?_drop, List.getD_eq_getElem?_getD, List.getElem?_eq_getElem (by rw [NL.out]; omega)]; rfl
            obtain ⟨ax, bx⟩ := HSM.out.get (3 + q)
            have hc := hI.atN (3 + q) (by omega)
            generalize i.getD (3 + q) 0 = x at *
            have HX := hide (ptrB_succ hx)
            have hi2 : (q : Int) < 6 := by omega
            clear hx
            go_wp2_with fail
            refine (ref7_two w1 _ hF _ _ _ _ hO _ ax bx (by omega) hI hAp).mono ?_
            rintro e w' ⟨A', c', rfl, hO', hF', hI', hAp'⟩
            rw [← wd2_fix, List.append_assoc, ← HX.out] at hO'
            go_wp2
            go_roundw
            case rel => exact ⟨q + 1, c', A', by omega, by go_num, by simp; omega, by rw [show 23 * k + 7 + 2 * (q + 1) = 23 * k + 7 + 2 * q + 2 from by omega]; exact hO', hF', hI', hAp'⟩
            case measure => simp [intOf]; omega
          · obtain rfl : q = 6 := by omega
            go_wp2_with fail
            have k9' := (hI.cellAt 9 (by omega)).trans KC.out.2.2.2.1
            have k10' := (hI.cellAt 10 (by omega)).trans KC.out.2.2.2.2
            have hfin : hd ++ ptrB ((i.drop 3).take 6) ++ fixB x9.toNat 2 ++ fixB x10.toNat 2 = layB is (k + 1) := by
              have e : ptrB (i.drop 3) = ptrB ((i.drop 3).take 6) ++ (wd2 x9 ++ wd2 x10) := by
                conv => lhs; rw [← HD3.out]
                unfold ptrB
                rw [List.flatMap_append]
                rfl
              rw [wd2_fix, wd2_fix] at e
              rw [HS.out, HIB.out, e, ← HHD.out]
              simp only [List.append_assoc]
            have HFIN := hide hfin
            clear hfin
            obtain ⟨hO1, hI1, hF1, hAp1⟩ := And.intro (hO.ext (Ext.refl _).drew) (And.intro (hI.ext (Ext.refl _).drew) (And.intro hF.drew hAp))
            clear hO hI hF hAp
            obtain ⟨hO, hI, hF, hAp⟩ := And.intro hO1 (And.intro hI1 (And.intro hF1 hAp1))
            clear hO1 hI1 hF1 hAp1
            go_region_held3 (fun w' => w'.cell? ⟨g0, 9, none⟩ = some (.int .i64 x9) ∧ w'.cell? ⟨g0, 10, none⟩ = some (.int .i64 x10)) (first | go_keep | (exact ⟨(hI.cellAt 9 (by omega)).trans KC.out.2.2.2.1, (hI.cellAt 10 (by omega)).trans KC.out.2.2.2.2⟩))
              (first
                | (go_at_call 63; (with_reducible refine (ref7_two w1 _ hF _ _ _ _ hO _ a9 b9 (by omega) hI hAp).mono ?_); rintro e w' ⟨A', c', rfl, hO', hF', hI', hAp'⟩; clear hO hF hI hAp; have hO := hO'; have hF := hF'; have hI := hI'; have hAp := hAp'; clear hO' hF' hI' hAp')
                | (go_at_call 63; (with_reducible refine (ref7_two w1 _ hF _ _ _ _ hO _ a10 b10 (by omega) hI hAp).mono ?_); rintro e w' ⟨A', c', rfl, hO', hF', hI', hAp'⟩; clear hO hF hI hAp; have hO := hO'; have hF := hF'; have hI := hI'; have hAp := hAp'; clear hO' hF' hI' hAp'))
            rw [HFIN.out] at hO
            clear k9' k10'
            go_wp2
            go_roundw
            case rel => exact ⟨k + 1, c', A', by omega, by go_num, by simp; omega, by rw [show 23 * (k + 1) = 23 * k + 7 + 2 * 6 + 2 + 2 from by omega]; exact hO, HA, hF⟩
            case measure => simp [intOf]; omega
      · rw [decide_eq_false hm]
        have hno : ¬ allI is 4 := fun h => hm (h k hlt)
        have h1 : layIL is = [] := if_neg hno
        have h2 : layIE is = 2 := if_neg hno
        have H12 := hide (And.intro h1 h2)
        clear hm hno h1 h2 hmay
        go_wp2
        go_ret2
        rw [H12.out.1, H12.out.2]
        exact ⟨none, 0, 0, rfl, by omega, Own.nilS _ _ _, hE1.trans (hE.trans (hE4.trans hE5))⟩
    · obtain rfl : k = 4 := by omega
      have h1 : layIL is = sealOf 73 (layB is 4) := if_pos ha.out
      have h2 : layIE is = 0 := if_pos ha.out
      have H12 := hide (And.intro h1 h2)
      have bb := Bytes.layB is 4
      clear h1 h2 ha hlt
      go_wp2_with fail
      refine (ref_Seal 73 _ _ _ _ _ hO.sl bb (by omega) (by omega) (by omega)).mono ?_
      rintro e w5 ⟨g5, c5, rfl, hO5, hE5⟩
      go_wp2
      go_ret2
      rw [H12.out.1, H12.out.2]
      exact ⟨_, _, _, rfl, by omega, hO5.low (by have := hE1.size; omega), hE1.trans (hE.trans hE5)⟩
end Go.Proofs.Ythbdnaogjmnagaa
