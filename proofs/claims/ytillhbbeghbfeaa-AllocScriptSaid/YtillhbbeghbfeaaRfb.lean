/- The document's space: what is taken, as lists; Take, one, Mark, Defer. -/
import Derived.Test.YtillhbbeghbfeaaRfg
namespace Go.Proofs.Ytillhbbeghbfeaa
set_option linter.unusedVariables false
set_option linter.unusedSimpArgs false
open Go.RowKit

def inoF (N : Nat) (t : List (List Nat)) (j : Nat) : Bool := if j = 0 then false else hasB (t.getD ((j - 1) / N) []) ((j - 1) % N)
def inoL (G N : Nat) (t : List (List Nat)) : List Bool := (List.range (G * N + 1)).map (inoF N t)
def blkF (N M : Nat) (t : List (List Nat)) (j : Nat) : Bool :=
  if 2 ≤ j ∧ 1 + N / 4 ≤ (j - 2) % (1 + N / 4 + M) then hasB (t.getD ((j - 2) / (1 + N / 4 + M)) []) ((j - 2) % (1 + N / 4 + M) - (1 + N / 4)) else false
def blkL (G N M : Nat) (t : List (List Nat)) : List Bool := (List.range (2 + G * (1 + N / 4 + M))).map (blkF N M t)
theorem div_at {k N i : Nat} (h : i < N) : (k * N + i) / N = k ∧ (k * N + i) % N = i := by
  have hN : 0 < N := by omega
  rw [Nat.mul_comm, Nat.mul_add_div hN, Nat.div_eq_of_lt h, Nat.mul_add_mod, Nat.mod_eq_of_lt h]
  exact ⟨rfl, rfl⟩
theorem inoF_pos {N k i : Nat} (t : List (List Nat)) (h : i < N) : inoF N t (posI N k i) = hasB (t.getD k []) i := by
  unfold inoF posI
  rw [if_neg (by omega), Nat.add_sub_cancel, (div_at h).1, (div_at h).2]
theorem blkF_pos {N M k i : Nat} (t : List (List Nat)) (h : i < M) : blkF N M t (posB N M k i) = hasB (t.getD k []) i := by
  unfold blkF posB
  have e : 2 + k * (1 + N / 4 + M) + (1 + N / 4) + i - 2 = k * (1 + N / 4 + M) + (1 + N / 4 + i) := by omega
  have hd := div_at (k := k) (N := 1 + N / 4 + M) (i := 1 + N / 4 + i) (by omega)
  rw [e, hd.1, hd.2, if_pos (by omega), Nat.add_sub_cancel_left]
theorem inoL_len (G N : Nat) (t : List (List Nat)) : (inoL G N t).length = G * N + 1 := by simp [inoL]
theorem blkL_len (G N M : Nat) (t : List (List Nat)) : (blkL G N M t).length = 2 + G * (1 + N / 4 + M) := by simp [blkL]
theorem inoL_is (G N : Nat) (t : List (List Nat)) : IsI G N (inoL G N t) t := fun k i hk hi => by
  unfold inoL
  rw [List.getElem?_map, List.getElem?_range (posI_lt hk hi)]
  show some (inoF N t (posI N k i)) = _
  rw [inoF_pos t hi]
theorem blkL_is (G N M : Nat) (t : List (List Nat)) : IsB G N M (blkL G N M t) t := fun k i hk hi => by
  unfold blkL
  rw [List.getElem?_map, List.getElem?_range (posB_lt hk hi)]
  show some (blkF N M t (posB N M k i)) = _
  rw [blkF_pos t hi]
theorem getD_set_eq {t : List (List Nat)} {k : Nat} {x y : List Nat} (h : t[k]? = some x) (q : Nat) : (t.set k y).getD q [] = if q = k then y else t.getD q [] := by
  by_cases hq : q = k
  · subst hq
    rw [if_pos rfl, List.getD_eq_getElem?_getD, List.getElem?_set_self (List.getElem?_eq_some_iff.1 h).1]; rfl
  · rw [if_neg hq, List.getD_eq_getElem?_getD, List.getElem?_set_ne (fun hh => hq hh.symm), ← List.getD_eq_getElem?_getD]
theorem map_set {n : Nat} {f f' : Nat → Bool} {p : Nat} {b : Bool} (hp : f' p = b) (h : ∀ j, j ≠ p → f' j = f j) : ((List.range n).map f).set p b = (List.range n).map f' := by
  apply List.ext_getElem?
  intro j
  by_cases hj : p = j
  · subst hj
    by_cases hl : p < n
    · rw [List.getElem?_set_self (by simpa using hl), List.getElem?_map, List.getElem?_range hl]
      simp [hp]
    · rw [List.getElem?_eq_none (by simp; omega), List.getElem?_eq_none (by simp; omega)]
  · rw [List.getElem?_set_ne hj, List.getElem?_map, List.getElem?_map]
    by_cases hl : j < n
    · rw [List.getElem?_range hl]
      simp [h j (fun hh => hj hh.symm)]
    · rw [List.getElem?_eq_none (by simp; omega)]
      rfl
theorem inoL_set {G N k i : Nat} {t : List (List Nat)} {x : List Nat} (b : Bool) (hx : t[k]? = some x) (hb : Bytes x) (hi : i < N) (hl : i / 8 < x.length) : (inoL G N t).set (posI N k i) b = inoL G N (t.set k (withB x i b)) := by
  unfold inoL
  refine map_set ?_ (fun j hj => ?_)
  · rw [inoF_pos _ hi, getD_set_eq hx, if_pos rfl, hasB_withB hb, if_pos ⟨rfl, hl⟩]
  · unfold inoF
    by_cases h0 : j = 0
    · rw [if_pos h0, if_pos h0]
    · rw [if_neg h0, if_neg h0, getD_set_eq hx]
      split
      · rename_i hq
        rw [hasB_withB hb, if_neg, hq, getD_row hx]
        rintro ⟨hr, _⟩
        have := Nat.div_add_mod (j - 1) N
        rw [hq, hr, Nat.mul_comm] at this
        exact hj (by unfold posI; omega)
      · rfl
theorem blkL_set {G N M k i : Nat} {t : List (List Nat)} {x : List Nat} (b : Bool) (hx : t[k]? = some x) (hb : Bytes x) (hi : i < M) (hl : i / 8 < x.length) : (blkL G N M t).set (posB N M k i) b = blkL G N M (t.set k (withB x i b)) := by
  unfold blkL
  refine map_set ?_ (fun j hj => ?_)
  · rw [blkF_pos _ hi, getD_set_eq hx, if_pos rfl, hasB_withB hb, if_pos ⟨rfl, hl⟩]
  · unfold blkF
    by_cases h0 : 2 ≤ j ∧ 1 + N / 4 ≤ (j - 2) % (1 + N / 4 + M)
    · rw [if_pos h0, if_pos h0, getD_set_eq hx]
      split
      · rename_i hq
        rw [hasB_withB hb, if_neg, hq, getD_row hx]
        rintro ⟨hr, _⟩
        have := Nat.div_add_mod (j - 2) (1 + N / 4 + M)
        rw [hq, Nat.mul_comm] at this
        exact hj (by unfold posB; omega)
      · rfl
    · rw [if_neg h0, if_neg h0]
theorem inoL_zero (G N : Nat) : inoL G N (List.replicate G (zr N)) = List.replicate (G * N + 1) false := by
  unfold inoL
  apply List.ext_getElem?
  intro j
  rw [List.getElem?_map]
  by_cases hl : j < G * N + 1
  · rw [List.getElem?_range hl, List.getElem?_replicate, if_pos hl]
    simp only [Option.map_some]
    congr 1
    unfold inoF
    split
    · rfl
    · rw [List.getD_eq_getElem?_getD, List.getElem?_replicate]
      split
      · simp [zr, hasB_zero]
      · simp [hasB]
  · rw [List.getElem?_eq_none (by simp; omega), List.getElem?_eq_none (by simp; omega)]
    rfl
theorem blkL_zero (G N M : Nat) : blkL G N M (List.replicate G (zr M)) = List.replicate (2 + G * (1 + N / 4 + M)) false := by
  unfold blkL
  apply List.ext_getElem?
  intro j
  rw [List.getElem?_map]
  by_cases hl : j < 2 + G * (1 + N / 4 + M)
  · rw [List.getElem?_range hl, List.getElem?_replicate, if_pos hl]
    simp only [Option.map_some]
    congr 1
    unfold blkF
    split
    · rw [List.getD_eq_getElem?_getD, List.getElem?_replicate]
      split
      · simp [zr, hasB_zero]
      · simp [hasB]
    · rfl
  · rw [List.getElem?_eq_none (by simp; omega), List.getElem?_eq_none (by simp; omega)]
    rfl
section
variable {w w' : World} {B g : Nat} {q : Ql} {G N M : Nat} {bi bb bx bz : List Bool}
theorem RefAt.nog (h : RefAt w B g q G N M bi bb bx bz) : g ≠ q.g1 ∧ g ≠ q.g2 ∧ g ≠ q.g3 ∧ g ≠ q.g4 := by
  have key : ∀ {x n c : Nat} {vs : List Value}, Own w B 4 (some ⟨x, 0, none⟩) n c vs → g ≠ x := by
    intro x n c vs hr he
    subst he
    exact absurd (h.own.tag.uniq hr.tag) (by decide)
  exact ⟨key h.r1, key h.r2, key h.r3, key h.r4⟩
theorem RefAt.put1 (h : RefAt w B g q G N M bi bb bx bz) (j : Nat) (b : Bool) : RefAt (w.setCell ⟨q.g1, j, none⟩ (.bool b)) B g q G N M (bi.set j b) bb bx bz :=
  { h with own := h.own.other h.nog.1 _ _, r1 := by rw [← bl_set]; exact h.r1.store j _ rfl, r2 := h.r2.other h.n12.symm _ _, r3 := h.r3.other h.n13.symm _ _, r4 := h.r4.other h.n14.symm _ _ }
theorem RefAt.put2 (h : RefAt w B g q G N M bi bb bx bz) (j : Nat) (b : Bool) : RefAt (w.setCell ⟨q.g2, j, none⟩ (.bool b)) B g q G N M bi (bb.set j b) bx bz :=
  { h with own := h.own.other h.nog.2.1 _ _, r1 := h.r1.other h.n12 _ _, r2 := by rw [← bl_set]; exact h.r2.store j _ rfl, r3 := h.r3.other h.n23.symm _ _, r4 := h.r4.other h.n24.symm _ _ }
theorem RefAt.put3 (h : RefAt w B g q G N M bi bb bx bz) (j : Nat) (b : Bool) : RefAt (w.setCell ⟨q.g3, j, none⟩ (.bool b)) B g q G N M bi bb (bx.set j b) bz :=
  { h with own := h.own.other h.nog.2.2.1 _ _, r1 := h.r1.other h.n13 _ _, r2 := h.r2.other h.n23 _ _, r3 := by rw [← bl_set]; exact h.r3.store j _ rfl, r4 := h.r4.other h.n34.symm _ _ }
theorem RefAt.put4 (h : RefAt w B g q G N M bi bb bx bz) (j : Nat) (b : Bool) : RefAt (w.setCell ⟨q.g4, j, none⟩ (.bool b)) B g q G N M bi bb bx (bz.set j b) :=
  { h with own := h.own.other h.nog.2.2.2 _ _, r1 := h.r1.other h.n14 _ _, r2 := h.r2.other h.n24 _ _, r3 := h.r3.other h.n34 _ _, r4 := by rw [← bl_set]; exact h.r4.store j _ rfl }
theorem own_cell {w : World} {B g n c : Nat} {bs : List Bool} (h : Own w B 4 (some ⟨g, 0, none⟩) n c (bl bs)) {j : Nat} {b : Bool} (hb : bs[j]? = some b) : w.cell? ⟨g, j, none⟩ = some (.bool b) ∧ w.frozen? ⟨g, j, none⟩ = false ∧ j < n := by
  have hl := h.len
  rw [bl_len] at hl
  have hj := (List.getElem?_eq_some_iff.1 hb).1
  exact ⟨by rw [h.cellAt j (by omega), bl_get hb], h.frozenAt j, by omega⟩
theorem ref_one (h : RefAt w B g q G N M bi bb bx bz) (n m : Int) (hn0 : -9223372036854775808 ≤ n) :
    Calls Try.prog 64 #[.pointer (some ⟨g, 0, none⟩), .int .i64 n, .int .i64 m] w fun e w' => e = .returned (.bool (spot G N M n m).isSome) ∧ Ext w w' := by
  have hO7 := h.own
  have hK := fun w => ref5_OfInode (G : Int) N M n w hn0
  have hJ := fun w => ref5_OfBlock (G : Int) N M m w
  have hi0 : oinK (G : Int) N M 0 = -1 := by unfold oinK; rw [if_neg (by omega)]
  have hj0 : oblK (G : Int) N M 0 = -1 := by unfold oblK; rw [if_neg (by unfold isB; omega)]
  have hsp : (spot G N M n m).isSome = ((n == 0 && decide (0 ≤ oblK (G : Int) N M m)) || (m == 0 && decide (0 ≤ oinK (G : Int) N M n))) := by
    unfold spot
    by_cases h1 : n = 0
    · by_cases h2 : m = 0
      · subst h1 h2
        rw [if_pos (Iff.rfl), hi0, hj0]; rfl
      · subst h1
        rw [if_neg (fun hh => h2 (hh.1 rfl)), if_neg h2]
        by_cases h3 : 0 ≤ oblK (G : Int) N M m
        · rw [if_pos h3]; simp [h3]
        · rw [if_neg h3]; simp [h3, h2]
    · by_cases h2 : m = 0
      · subst h2
        rw [if_neg (fun hh => h1 (hh.2 rfl)), if_pos rfl]
        by_cases h3 : 0 ≤ oinK (G : Int) N M n
        · rw [if_pos h3]; simp [h3, h1]
        · rw [if_neg h3]; simp [h3, h1]
      · rw [if_pos ⟨fun hh => absurd hh h1, fun hh => absurd hh h2⟩]
        simp [h1, h2]
  rw [hsp]
  generalize oinK (G : Int) N M n = a at *
  generalize oblK (G : Int) N M m = b at *
  generalize oinI (G : Int) N M n = a2 at *
  generalize oblI (G : Int) N M m = b2 at *
  have HK := hide hK
  have HJ := hide hJ
  clear hsp hi0 hj0 hK hJ h hn0
  rcases h1 : (n == 0) with _ | _ <;> rcases h2 : (m == 0) with _ | _ <;> rcases h3 : decide (0 ≤ a) with _ | _ <;> rcases h4 : decide (0 ≤ b) with _ | _
  all_goals
    go_enter Try.func64, Try.ntmps64
    go_wp2_with (first
      | (with_reducible refine ag_loadUs (o := ⟨some 15, _, _, _, _, _⟩) (i64s (geo (G : Int) (N : Int) (M : Int))) rfl 24 _ rfl g 0 3 7 7 B 77 _ (spc_geoR G N M q) rfl hO7 agg_geo info_geo (by omega) ?_)
      | (go_at_call 71; with_reducible refine (HK.out _).mono ?_; rintro e w2 ⟨rfl, hE2⟩; have hO8 := hO7.ext hE2)
      | (with_reducible refine ag_loadUs (o := ⟨some 24, _, _, _, _, _⟩) (i64s (geo (G : Int) (N : Int) (M : Int))) rfl 24 _ rfl g 0 3 7 7 B 77 _ (spc_geoR G N M q) rfl hO8 agg_geo info_geo (by omega) ?_)
      | (go_at_call 72; with_reducible refine (HJ.out _).mono ?_; rintro e w3 ⟨rfl, hE3⟩))
    go_ret
    exact ⟨rfl, hE2.trans hE3⟩
theorem ref_Take_no (h : RefAt w B g q G N M bi bb bx bz) (near : Int) (b : Bool) {t : List (List Nat)} (hx : if b = true then IsI G N bi t else IsB G N M bb t) (hb : bestF (scL near (if b = true then N else M) t G) = -1) :
    Calls Try.prog 43 #[.pointer (some ⟨g, 0, none⟩), .int .i64 near, .bool b] w fun e w' => e = .returned (.tuple #[.int .i64 0, .int .i64 13]) ∧ Ext w w' := by
  have hG : Calls Try.prog 17 #[.pointer (some ⟨g, 0, none⟩), .int .i64 near, .bool b] w fun e w' => e = .returned (.int .i64 (-1)) ∧ Ext w w' := by
    cases b
    · have := ref_Group_blk h near (t := t) (by simpa using hx)
      simp only [Bool.false_eq_true, if_false] at hb
      rwa [hb] at this
    · have := ref_Group_ino h near (t := t) (by simpa using hx)
      simp only [if_true] at hb
      rwa [hb] at this
  have HG := hide hG
  clear hG hb hx h
  go_enter Try.func43, Try.ntmps43
  go_wp2_with (go_at_call 17; with_reducible refine HG.out.mono ?_; rintro e w2 ⟨rfl, hE2⟩)
  go_ret2
  exact ⟨rfl, hE2⟩
theorem cell0 {w : World} {B n c : Nat} {A : Option Addr} {xs : List Nat} {x : Nat} (h : Own w B 3 A n c (i64s (nI xs))) (hx : xs[0]? = some x) : ∃ a, A = some ⟨a, 0, none⟩ ∧ w.cell? ⟨a, 0, none⟩ = some (.int .i64 (x : Int)) ∧ 0 < n := by
  have hl := h.len
  rw [i64s_len, nI_len] at hl
  have h0 := (List.getElem?_eq_some_iff.1 hx).1
  obtain ⟨a, rfl, _, _⟩ := h.head (by have := h.sl.nc; omega)
  exact ⟨a, rfl, by rw [h.cellAt 0 (by omega), i64s_get (x := (x : Int))]; simp [nI, hx], by omega⟩
set_option maxHeartbeats 1000000 in
theorem ref_Take_ino (h : RefAt w B g q G N M bi bb bx bz) (near : Int) {t : List (List Nat)} (hx : IsI G N bi t) {k : Nat} {xs : List Nat} (hb : bestF (scL near N t G) = (k : Int)) (hk : k < G) (hxs : t[k]? = some xs) (hf : 0 < freeN N xs) (hB : B ≤ w.heap.size) :
    Calls Try.prog 43 #[.pointer (some ⟨g, 0, none⟩), .int .i64 near, .bool true] w fun e w' => e = .returned (.tuple #[.int .i64 ((posI N k (firN N xs) : Nat) : Int), .int .i64 0]) ∧
      RefAt w' B g q G N M (bi.set (posI N k (firN N xs)) true) bb bx bz ∧ Turned [q.g1] w w' := by
  have hG := ref_Group_ino h near hx
  rw [hb] at hG
  have HG := hide hG
  obtain ⟨r1, r2⟩ : firN N xs < N ∧ hasB xs (firN N xs) = false := by
    rcases firN_is hf with ⟨h1, _⟩ | ⟨_, _, h3, h4, _⟩
    · omega
    · rw [hasI_nat] at h4; exact ⟨by omega, h4⟩
  have HF := hide (fun w' (hE : Ext w w') => ref_free_ino (h.ext hE) hk (xs := xs) (fun i hi => by rw [hx k i hk hi, getD_row hxs]))
  have hfh : ((frL N xs).map (posI N k))[0]? = some (posI N k (firN N xs)) := by rw [List.getElem?_map, frL_head hf]; rfl
  have HFH := hide hfh
  have hc0 := hx k (firN N xs) hk r1
  have HC := hide (fun w' (hE : Ext w w') => own_cell (h.ext hE).r1 hc0)
  have HR := hide (fun w' (hE : Ext w w') => (h.ext hE).put1 (posI N k (firN N xs)) true)
  obtain ⟨c0, c1, c2, c3, c4, c5, c6⟩ := h.cells
  generalize posI N k (firN N xs) = P at *
  clear hG hb hx hxs hf r1 r2 hfh hc0 h
  go_enter Try.func43, Try.ntmps43
  go_wp2_with (first
    | (go_at_call 17; with_reducible refine HG.out.mono ?_; rintro e w2 ⟨rfl, hE2⟩)
    | (go_at_call 47; refine (HF.out _ hE2).mono ?_; rintro e w3 ⟨A3, n3, d3, rfl, hn3, hO3, hE3⟩; obtain ⟨a3, rfl, hc3, hn0⟩ := cell0 hO3 HFH.out; have hX3 := hE2.trans hE3; obtain ⟨k1, k2, k3⟩ := HC.out _ hX3; have e3 := hX3.cell c3))
  go_ret2
  exact ⟨rfl, HR.out _ hX3, (hX3.turned _).trans (Turned.setCell _ _ _ _)⟩
set_option maxHeartbeats 1000000 in
theorem ref_Take_blk (h : RefAt w B g q G N M bi bb bx bz) (near : Int) {t : List (List Nat)} (hx : IsB G N M bb t) {k : Nat} {xs : List Nat} (hb : bestF (scL near M t G) = (k : Int)) (hk : k < G) (hxs : t[k]? = some xs) (hf : 0 < freeN M xs) (hB : B ≤ w.heap.size) :
    Calls Try.prog 43 #[.pointer (some ⟨g, 0, none⟩), .int .i64 near, .bool false] w fun e w' => e = .returned (.tuple #[.int .i64 ((posB N M k (firN M xs) : Nat) : Int), .int .i64 0]) ∧
      RefAt w' B g q G N M bi (bb.set (posB N M k (firN M xs)) true) bx bz ∧ Turned [q.g2] w w' := by
  have hG := ref_Group_blk h near hx
  rw [hb] at hG
  have HG := hide hG
  obtain ⟨r1, r2⟩ : firN M xs < M ∧ hasB xs (firN M xs) = false := by
    rcases firN_is hf with ⟨h1, _⟩ | ⟨_, _, h3, h4, _⟩
    · omega
    · rw [hasI_nat] at h4; exact ⟨by omega, h4⟩
  have HF := hide (fun w' (hE : Ext w w') => ref_free_blk (h.ext hE) hk (xs := xs) (fun i hi => by rw [hx k i hk hi, getD_row hxs]))
  have hfh : ((frL M xs).map (posB N M k))[0]? = some (posB N M k (firN M xs)) := by rw [List.getElem?_map, frL_head hf]; rfl
  have HFH := hide hfh
  have hc0 := hx k (firN M xs) hk r1
  have HC := hide (fun w' (hE : Ext w w') => own_cell (h.ext hE).r2 hc0)
  have HR := hide (fun w' (hE : Ext w w') => (h.ext hE).put2 (posB N M k (firN M xs)) true)
  obtain ⟨c0, c1, c2, c3, c4, c5, c6⟩ := h.cells
  generalize posB N M k (firN M xs) = P at *
  generalize 2 + G * (1 + N / 4 + M) = GN at *
  clear hG hb hx hxs hf r1 r2 hfh hc0 h
  go_enter Try.func43, Try.ntmps43
  go_wp2_with (first
    | (go_at_call 17; with_reducible refine HG.out.mono ?_; rintro e w2 ⟨rfl, hE2⟩)
    | (go_at_call 47; refine (HF.out _ hE2).mono ?_; rintro e w3 ⟨A3, n3, d3, rfl, hn3, hO3, hE3⟩; obtain ⟨a3, rfl, hc3, hn0⟩ := cell0 hO3 HFH.out; have hX3 := hE2.trans hE3; obtain ⟨k1, k2, k3⟩ := HC.out _ hX3; have e4 := hX3.cell c4))
  go_ret2
  exact ⟨rfl, HR.out _ hX3, (hX3.turned _).trans (Turned.setCell _ _ _ _)⟩
end
end Go.Proofs.Ytillhbbeghbfeaa
