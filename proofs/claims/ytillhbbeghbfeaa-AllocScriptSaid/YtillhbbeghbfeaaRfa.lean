/- The document's space: memory, and what is free of a group. -/
import Derived.Test.YtillhbbeghbfeaaLawG2
import Derived.Test.YtillhbbeghbfeaaRf1
namespace Go.Proofs.Ytillhbbeghbfeaa
set_option linter.unusedVariables false
open Go.RowKit

theorem Sl.lit2 (w : World) (cs : Array Value) (e : TypeId) (n : Nat) (hn : cs.size = n) (hm : n ≤ 9223372036854775807) (h1 : ∀ u ∈ cs.toList, u.oneCell' = true) (g : Nat) (hg : g = w.heap.size) : Sl (w.alloc (.cells cs e)) (some ⟨g, 0, none⟩) n n cs.toList := by
  subst hg
  exact Sl.lit w cs e n hn hm h1
/-- Those that are free, below one. -/
def frL (n : Nat) (xs : List Nat) : List Nat := (List.range n).filter fun i => !hasB xs i
theorem frL_zero (xs : List Nat) : frL 0 xs = [] := rfl
theorem frL_succ (n : Nat) (xs : List Nat) : frL (n + 1) xs = if hasB xs n = true then frL n xs else frL n xs ++ [n] := by
  unfold frL
  rw [List.range_succ, List.filter_append]
  cases h : hasB xs n <;> simp [h]
theorem frL_len (n : Nat) (xs : List Nat) : (frL n xs).length = freeN n xs := by
  unfold frL freeN
  rw [allB_count, ← List.countP_eq_length_filter]
  have h := List.length_eq_countP_add_countP (hasB xs) (l := List.range n)
  rw [List.length_range] at h
  have e : List.countP (fun i => !hasB xs i) (List.range n) = List.countP (fun a => decide ¬hasB xs a = true) (List.range n) := by
    congr 1
    funext a
    cases hasB xs a <;> rfl
  omega
theorem frL_head {n : Nat} {xs : List Nat} (h : 0 < freeN n xs) : (frL n xs)[0]? = some (firN n xs) := by
  unfold frL firN
  rw [← List.head?_eq_getElem?, List.head?_filter]
  obtain ⟨i, hi, hx⟩ := freeN_pos.1 h
  rcases hf : (List.range n).find? (fun i => !hasB xs i) with _ | r
  · rw [List.find?_eq_none] at hf
    have := hf i (List.mem_range.2 hi)
    rw [hx] at this
    simp at this
  · rfl
/-- An inode's number; a block's sector. -/
def posI (N k i : Nat) : Nat := k * N + i + 1
def posB (N M k i : Nat) : Nat := 2 + k * (1 + N / 4 + M) + (1 + N / 4) + i
theorem fst_posB {G N M k i : Nat} (hm : mayG (G : Int) N M) (hk : k < G) : fstG (G : Int) N M (k : Int) + (i : Int) = (posB N M k i : Nat) := by
  rw [fstG_yes hm (by omega) (by omega)]
  unfold lenG posB
  have h1 : (k : Int) * (1 + (N : Int) / 4 + (M : Int)) = ((k * (1 + N / 4 + M) : Nat) : Int) := by rw [Int.natCast_mul]; rfl
  rw [h1]
  omega
theorem sec_posB {G N M : Nat} (hm : mayG (G : Int) N M) : secG (G : Int) N M = ((2 + G * (1 + N / 4 + M) : Nat) : Int) := by
  rw [secG_yes hm]
  unfold lenG
  have h1 : (G : Int) * (1 + (N : Int) / 4 + (M : Int)) = ((G * (1 + N / 4 + M) : Nat) : Int) := by rw [Int.natCast_mul]; rfl
  rw [h1]
  omega
theorem posB_lt {G N M k i : Nat} (hk : k < G) (hi : i < M) : posB N M k i < 2 + G * (1 + N / 4 + M) := by
  unfold posB
  have h : (k + 1) * (1 + N / 4 + M) ≤ G * (1 + N / 4 + M) := Nat.mul_le_mul_right _ hk
  rw [Nat.add_mul] at h
  omega
theorem posI_lt {G N k i : Nat} (hk : k < G) (hi : i < N) : posI N k i < G * N + 1 := by
  unfold posI
  have h : (k + 1) * N ≤ G * N := Nat.mul_le_mul_right _ hk
  rw [Nat.add_mul] at h
  omega
/-- Where the rows of the document's space lie. -/
structure Ql where
  (g1 c1 g2 c2 g3 c3 g4 c4 : Nat)
def rspc (G N M : Nat) (q : Ql) : List Value :=
  [.int .i64 (G : Int), .int .i64 (N : Int), .int .i64 (M : Int), .slice (some ⟨q.g1, 0, none⟩) (G * N + 1) q.c1, .slice (some ⟨q.g2, 0, none⟩) (2 + G * (1 + N / 4 + M)) q.c2,
   .slice (some ⟨q.g3, 0, none⟩) (G * N + 1) q.c3, .slice (some ⟨q.g4, 0, none⟩) (2 + G * (1 + N / 4 + M)) q.c4]
structure RefAt (w : World) (B g : Nat) (q : Ql) (G N M : Nat) (bi bb bx bz : List Bool) : Prop where
  own : Own w B 77 (some ⟨g, 0, none⟩) 7 7 (rspc G N M q)
  r1 : Own w B 4 (some ⟨q.g1, 0, none⟩) (G * N + 1) q.c1 (bl bi)
  r2 : Own w B 4 (some ⟨q.g2, 0, none⟩) (2 + G * (1 + N / 4 + M)) q.c2 (bl bb)
  r3 : Own w B 4 (some ⟨q.g3, 0, none⟩) (G * N + 1) q.c3 (bl bx)
  r4 : Own w B 4 (some ⟨q.g4, 0, none⟩) (2 + G * (1 + N / 4 + M)) q.c4 (bl bz)
  n12 : q.g1 ≠ q.g2
  n13 : q.g1 ≠ q.g3
  n14 : q.g1 ≠ q.g4
  n23 : q.g2 ≠ q.g3
  n24 : q.g2 ≠ q.g4
  n34 : q.g3 ≠ q.g4
  may : mayG (G : Int) (N : Int) (M : Int)
section
variable {w w' : World} {B g : Nat} {q : Ql} {G N M : Nat} {bi bb bx bz : List Bool}
theorem RefAt.ext (h : RefAt w B g q G N M bi bb bx bz) (hE : Ext w w') : RefAt w' B g q G N M bi bb bx bz :=
  { h with own := h.own.ext hE, r1 := h.r1.ext hE, r2 := h.r2.ext hE, r3 := h.r3.ext hE, r4 := h.r4.ext hE }
theorem RefAt.cells (h : RefAt w B g q G N M bi bb bx bz) : w.cell? ⟨g, 0, none⟩ = some (.int .i64 (G : Int)) ∧ w.cell? ⟨g, 1, none⟩ = some (.int .i64 (N : Int)) ∧ w.cell? ⟨g, 2, none⟩ = some (.int .i64 (M : Int)) ∧
    w.cell? ⟨g, 3, none⟩ = some (.slice (some ⟨q.g1, 0, none⟩) (G * N + 1) q.c1) ∧ w.cell? ⟨g, 4, none⟩ = some (.slice (some ⟨q.g2, 0, none⟩) (2 + G * (1 + N / 4 + M)) q.c2) ∧
    w.cell? ⟨g, 5, none⟩ = some (.slice (some ⟨q.g3, 0, none⟩) (G * N + 1) q.c3) ∧ w.cell? ⟨g, 6, none⟩ = some (.slice (some ⟨q.g4, 0, none⟩) (2 + G * (1 + N / 4 + M)) q.c4) := by
  refine ⟨?_, ?_, ?_, ?_, ?_, ?_, ?_⟩
  · rw [h.own.cellAt 0 (by omega)]; rfl
  · rw [h.own.cellAt 1 (by omega)]; rfl
  · rw [h.own.cellAt 2 (by omega)]; rfl
  · rw [h.own.cellAt 3 (by omega)]; rfl
  · rw [h.own.cellAt 4 (by omega)]; rfl
  · rw [h.own.cellAt 5 (by omega)]; rfl
  · rw [h.own.cellAt 6 (by omega)]; rfl
theorem nI_snoc (xs : List Nat) (x : Nat) : i64s (nI (xs ++ [x])) = i64s (nI xs) ++ [.int .i64 (x : Int)] := by rw [nI_append, i64s_append]; rfl
set_option maxHeartbeats 2000000 in
theorem ref_free_ino (h : RefAt w B g q G N M bi bb bx bz) {k : Nat} (hk : k < G) {xs : List Nat} (hx : ∀ i, i < N → bi[posI N k i]? = some (hasB xs i)) :
    Calls Try.prog 47 #[.pointer (some ⟨g, 0, none⟩), .int .i64 (k : Int), .bool true] w fun e w' => ∃ A n c, e = .returned (.slice A n c) ∧ n = freeN N xs ∧
      Own w' w.heap.size 3 A n c (i64s (nI ((frL N xs).map (posI N k)))) ∧ Ext w w' := by
  have hm := mayG_nat h.may
  obtain ⟨c0, c1, c2, c3, c4, c5, c6⟩ := h.cells
  have hb := mul_bd (k := (k : Int)) (a := 8) (L := (N : Int)) (by omega) (by omega) (by omega)
  obtain ⟨m, hmm⟩ : ∃ m, m = k * N := ⟨_, rfl⟩
  have hmI : (k : Int) * (N : Int) = (m : Int) := by rw [hmm, Int.natCast_mul]
  have hmb : m ≤ 256 := by omega
  have hcell : ∀ i (wr : World), i < N → Ext w wr → wr.cell? ⟨q.g1, m + i + 1, none⟩ = some (.bool (hasB xs i)) := fun i wr hi hE => by
    have hp := posI_lt hk hi
    have e : m + i + 1 = posI N k i := by unfold posI; omega
    rw [e]
    exact hE.cell (by rw [h.r1.cellAt _ hp]; exact bl_get (hx i hi))
  have hplt : ∀ i, i < N → m + i + 1 < G * N + 1 := fun i hi => by have := posI_lt hk hi; unfold posI at this; omega
  have hpos : ∀ i, posI N k i = m + i + 1 := fun i => by unfold posI; omega
  have HC := hide hcell
  have HP := hide hplt
  have HQ := hide hpos
  generalize G * N + 1 = GN at *
  clear hcell hplt hpos hx hmm h hk hb
  go_enter Try.func47, Try.ntmps47
  go_wp2_with fail
  go_loopw [7, 8] (fun v i wr => ∃ (j n : Nat) (A1 : Option Addr) (d1 : Nat), j ≤ N ∧ i = .int .i64 j ∧ v = .slice A1 n d1 ∧ n ≤ j ∧ Own wr w.heap.size 3 A1 n d1 (i64s (nI ((frL j xs).map (posI N k)))) ∧ Ext w wr) (fun _ i _ => N - (intOf i).toNat)
  case atStart => exact ⟨0, 0, none, 0, by omega, rfl, rfl, by omega, Own.nilS _ _ _, Ext.refl _⟩
  case round =>
    obtain ⟨j, n, A1, d1, hj, rfl, rfl, hn, hO, hE⟩ := hrel
    have hsz := hE.size
    have d1' := hE.cell c1
    have d3' := hE.cell c3
    by_cases hlt : j < N
    · have hcj := HC.out j wr hlt hE
      have hpl := HP.out j hlt
      obtain ⟨t, ht⟩ : ∃ t, t = m + j + 1 := ⟨_, rfl⟩
      have htI : 1 + (m : Int) + (j : Int) = (t : Int) := by omega
      rw [← ht] at hcj hpl
      have hq := HQ.out j
      rw [← ht] at hq
      have HT := hide hq
      have htb : t ≤ 300 := by omega
      have W1 : IntKind.i64.wrap ((k : Int) * (N : Int)) = (m : Int) := by rw [hmI]; exact wrapI _ (by omega)
      have W2 := wrapI (1 + (m : Int)) (by omega)
      have W3 : IntKind.i64.wrap (1 + (m : Int) + (j : Int)) = (t : Int) := by rw [htI]; exact wrapI _ (by omega)
      have i1 : (t : Int) < (GN : Int) := by omega
      have hfs := frL_succ j xs
      clear ht hq
      cases hbj : hasB xs j
      · rw [hbj] at hcj hfs
        rw [if_neg (by simp)] at hfs
        have HS := hide hfs
        clear hfs
        go_wp2_with fail
        go_quiet (fail)
        have hO1 := (hO.ext ((Ext.refl wr).drewN nq)).ext ((Ext.refl (wr.drewN nq)).alloc (.cells #[.int .i64 (t : Int)] 3))
        go_wp2_with (at_builtin; refine appI rfl (.tmp 37) (.tmp 48) rfl w.heap.size _ n d1 _ rfl hO1 _ 1 1 _ rfl (Sl.lit2 (wr.drewN nq) #[.int .i64 (t : Int)] 3 1 rfl (by omega) (by simp [Value.oneCell']) _ (by first | rfl | simp)) (by omega) (by have := hsz; simp; omega) ?_; intro A2 c2' w2 hO2 hG2)
        go_roundw
        case rel => exact ⟨j + 1, n + 1, A2, c2', by omega, by go_num, rfl, by omega, by rw [HS.out, List.map_append, List.map_cons, List.map_nil, HT.out, nI_snoc]; exact hO2, ((hE.drewN nq).alloc _).grown hG2 (fun q hq => (hO.block q hq).1)⟩
        case measure => simp [intOf]; omega
      · rw [hbj] at hcj hfs
        rw [if_pos rfl] at hfs
        have HS := hide hfs
        clear hfs
        go_wp2_with fail
        go_quiet (fail)
        go_wp2_with fail
        go_roundw
        case rel => exact ⟨j + 1, n, A1, d1, by omega, by go_num, rfl, by omega, by rw [HS.out]; exact hO.ext ((Ext.refl wr).drewN nq), hE.drewN nq⟩
        case measure => simp [intOf]; omega
    · obtain rfl : j = N := by omega
      have hl := hO.len
      rw [i64s_len, nI_len, List.length_map, frL_len] at hl
      have HL := hide hl.symm
      clear hl
      go_wp2_with fail
      go_ret
      exact ⟨A1, n, d1, rfl, HL.out, hO, hE⟩
theorem spc_geoR (G N M : Nat) (q : Ql) : i64s (geo (G : Int) (N : Int) (M : Int)) = ((rspc G N M q).drop 0).take 3 := rfl
set_option maxHeartbeats 2000000 in
theorem ref_free_blk (h : RefAt w B g q G N M bi bb bx bz) {k : Nat} (hk : k < G) {xs : List Nat} (hx : ∀ i, i < M → bb[posB N M k i]? = some (hasB xs i)) :
    Calls Try.prog 47 #[.pointer (some ⟨g, 0, none⟩), .int .i64 (k : Int), .bool false] w fun e w' => ∃ A n c, e = .returned (.slice A n c) ∧ n = freeN M xs ∧
      Own w' w.heap.size 3 A n c (i64s (nI ((frL M xs).map (posB N M k)))) ∧ Ext w w' := by
  have hm := mayG_nat h.may
  obtain ⟨c0, c1, c2, c3, c4, c5, c6⟩ := h.cells
  have hO7 := h.own
  obtain ⟨F, hF⟩ : ∃ F, fstG (G : Int) N M (k : Int) = F := ⟨_, rfl⟩
  have hcell : ∀ i (wr : World), i < M → Ext w wr → wr.cell? ⟨q.g2, posB N M k i, none⟩ = some (.bool (hasB xs i)) := fun i wr hi hE =>
    hE.cell (by rw [h.r2.cellAt _ (posB_lt hk hi)]; exact bl_get (hx i hi))
  have hplt : ∀ i, i < M → posB N M k i < 2 + G * (1 + N / 4 + M) := fun i hi => posB_lt hk hi
  have hpos : ∀ i : Nat, F + (i : Int) = (posB N M k i : Nat) := fun i => by rw [← hF]; exact fst_posB h.may hk
  have hfb := fstG_bd (G : Int) N M (k : Int)
  rw [hF] at hfb
  have hFc : ∀ w1, Calls Try.prog 51 #[.agg #[.int .i64 (G : Int), .int .i64 (N : Int), .int .i64 (M : Int)], .int .i64 (k : Int)] w1 fun e w' => e = .returned (.int .i64 F) ∧ Ext w1 w' := fun w1 => by
    rw [← hF]; exact ref5_First (G : Int) N M (k : Int) w1
  have hFd : ∀ w1, Calls Try.prog 51 #[.agg (i64s (geo (G : Int) (N : Int) (M : Int))).toArray, .int .i64 (k : Int)] w1 fun e w' => e = .returned (.int .i64 F) ∧ Ext w1 w' := hFc
  have HC := hide hcell
  have HP := hide hplt
  have HQ := hide hpos
  have HF1 := hide hFc
  have HF2 := hide hFd
  generalize 2 + G * (1 + N / 4 + M) = GN at *
  clear hcell hplt hpos hx hF hFc hFd h hk
  go_enter Try.func47, Try.ntmps47
  go_wp2_with fail
  go_loopw [7, 9] (fun v i wr => ∃ (j n : Nat) (A1 : Option Addr) (d1 : Nat), j ≤ M ∧ i = .int .i64 j ∧ v = .slice A1 n d1 ∧ n ≤ j ∧ Own wr w.heap.size 3 A1 n d1 (i64s (nI ((frL j xs).map (posB N M k)))) ∧ Ext w wr) (fun _ i _ => M - (intOf i).toNat)
  case atStart => exact ⟨0, 0, none, 0, by omega, rfl, rfl, by omega, Own.nilS _ _ _, Ext.refl _⟩
  case round =>
    obtain ⟨j, n, A1, d1, hj, rfl, rfl, hn, hO, hE⟩ := hrel
    have hsz := hE.size
    have d0' := hE.cell c0
    have d1' := hE.cell c1
    have d2' := hE.cell c2
    have d4' := hE.cell c4
    by_cases hlt : j < M
    · have hcj := HC.out j wr hlt hE
      have hpl := HP.out j hlt
      have hq := HQ.out j
      obtain ⟨t, ht⟩ : ∃ t, t = posB N M k j := ⟨_, rfl⟩
      rw [← ht] at hcj hpl hq
      have HT := hide ht
      have htm : t < 100000 := by omega
      have W3 : IntKind.i64.wrap (F + (j : Int)) = (t : Int) := by rw [hq]; exact wrapI _ (by omega)
      have W4 : IntKind.i64.wrap (t : Int) = (t : Int) := wrapI _ (by omega)
      have i0 : (0 : Int) ≤ (t : Int) := by omega
      have i1 : (t : Int) < (GN : Int) := by omega
      have hfs := frL_succ j xs
      clear ht
      cases hbj : hasB xs j
      · rw [hbj] at hcj hfs
        rw [if_neg (by simp)] at hfs
        have HS := hide hfs
        clear hfs
        go_wp2_with fail
        go_region_held3 (fun w' => w'.cell? ⟨g, 0, none⟩ = some (.int .i64 (G : Int)) ∧ w'.cell? ⟨g, 1, none⟩ = some (.int .i64 (N : Int)) ∧ w'.cell? ⟨g, 2, none⟩ = some (.int .i64 (M : Int)) ∧ w'.cell? ⟨g, 4, none⟩ = some (.slice (some ⟨q.g2, 0, none⟩) GN q.c2) ∧ w'.cell? ⟨q.g2, t, none⟩ = some (.bool false))
          (first | go_keep | (exact ⟨hE4.cell d0', hE4.cell d1', hE4.cell d2', hE4.cell d4', hE4.cell hcj⟩))
          ((go_at_call 51; with_reducible refine (HF1.out _).mono ?_; rintro e w4 ⟨rfl, hE4⟩))
        have hX4 := hE.trans (((Ext.refl wr).drew).trans hE4)
        have hS4 := hO7.ext hX4
        go_wp2_with (first
          | (with_reducible refine ag_loadUs (i64s (geo (G : Int) (N : Int) (M : Int))) rfl 24 _ rfl g 0 3 7 7 B 77 _ (spc_geoR G N M q) rfl hS4 agg_geo info_geo (by omega) ?_)
          | (go_at_call 51; with_reducible refine (HF2.out _).mono ?_; rintro e w5 ⟨rfl, hE5⟩; have hO5 := ((hO.ext (((Ext.refl wr).drew).trans hE4)).ext hE5).ext ((Ext.refl w5).alloc (.cells #[.int .i64 (t : Int)] 3)); have hs5 := (hX4.trans hE5).size)
          | (at_builtin; refine appI rfl (.tmp 75) (.tmp 84) rfl w.heap.size _ n d1 _ rfl hO5 _ 1 1 _ rfl (Sl.lit2 w5 #[.int .i64 (t : Int)] 3 1 rfl (by omega) (by simp [Value.oneCell']) _ (by first | rfl | simp)) (by omega) (by simp; omega) ?_; intro A2 c2' w6 hO6 hG6))
        go_roundw
        case rel => exact ⟨j + 1, n + 1, A2, c2', by omega, by go_num, rfl, by omega, by rw [HS.out, List.map_append, List.map_cons, List.map_nil, ← HT.out, nI_snoc]; exact hO6, ((hX4.trans hE5).alloc _).grown hG6 (fun q hq => (hO.block q hq).1)⟩
        case measure => simp [intOf]; omega
      · rw [hbj] at hcj hfs
        rw [if_pos rfl] at hfs
        have HS := hide hfs
        clear hfs
        go_wp2_with fail
        go_region_held3 (fun w' => w'.cell? ⟨g, 0, none⟩ = some (.int .i64 (G : Int)) ∧ w'.cell? ⟨g, 1, none⟩ = some (.int .i64 (N : Int)) ∧ w'.cell? ⟨g, 2, none⟩ = some (.int .i64 (M : Int)) ∧ w'.cell? ⟨g, 4, none⟩ = some (.slice (some ⟨q.g2, 0, none⟩) GN q.c2) ∧ w'.cell? ⟨q.g2, t, none⟩ = some (.bool true))
          (first | go_keep | (exact ⟨hE4.cell d0', hE4.cell d1', hE4.cell d2', hE4.cell d4', hE4.cell hcj⟩))
          ((go_at_call 51; with_reducible refine (HF1.out _).mono ?_; rintro e w4 ⟨rfl, hE4⟩))
        have hX4 := hE.trans (((Ext.refl wr).drew).trans hE4)
        go_wp2_with fail
        go_roundw
        case rel => exact ⟨j + 1, n, A1, d1, by omega, by go_num, rfl, by omega, by rw [HS.out]; exact hO.ext (((Ext.refl wr).drew).trans hE4), hX4⟩
        case measure => simp [intOf]; omega
    · obtain rfl : j = M := by omega
      have hl := hO.len
      rw [i64s_len, nI_len, List.length_map, frL_len] at hl
      have HL := hide hl.symm
      clear hl
      go_wp2_with fail
      go_ret
      exact ⟨A1, n, d1, rfl, HL.out, hO, hE⟩
end
end Go.Proofs.Ytillhbbeghbfeaa
