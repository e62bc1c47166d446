/- The document's space: Bits. -/
import Derived.Test.YtillhbbeghbfeaaRff
namespace Go.Proofs.Ytillhbbeghbfeaa
set_option linter.unusedVariables false
open Go.RowKit

/-- Those that are taken, below one. -/
def tkL (n : Nat) (xs : List Nat) : List Nat := (List.range n).filter (hasB xs)
theorem tkL_succ (n : Nat) (xs : List Nat) : tkL (n + 1) xs = if hasB xs n = true then tkL n xs ++ [n] else tkL n xs := by
  unfold tkL
  rw [List.range_succ, List.filter_append]
  cases h : hasB xs n <;> simp [h]
theorem tkL_lt (n : Nat) (xs : List Nat) : ∀ i ∈ tkL n xs, i < n := fun i hi => List.mem_range.1 (List.mem_filter.1 hi).1
/-- A set that has none beyond its numbers. -/
def Clean (n : Nat) (xs : List Nat) : Prop := ∀ k, n ≤ k → hasB xs k = false
theorem ofB_tkL {n : Nat} {xs : List Nat} (hb : Bytes xs) (hl : xs.length = (n + 7) / 8) (hc : Clean n xs) : ofB n (nI (tkL n xs)) = xs := by
  have h := ofB_allB hb n (by omega) (fun k h1 _ => hc k h1)
  rw [List.take_of_length_le (by omega), allB_eq] at h
  exact h
/-- A slice of numbers of the call's own, that lies apart from another one. -/
def IntsAp (w wr : World) (v : Value) (j : Nat) (xs : List Nat) (A1 : Option Addr) : Prop := ∃ (n : Nat) (A : Option Addr) (d : Nat), v = .slice A n d ∧ n ≤ j ∧ Own wr w.heap.size 3 A n d (i64s (nI xs)) ∧ Apart A A1
theorem Apart.none2 (A : Option Addr) : Apart A none := fun x y hx hy => by cases hy
section
variable {w w' : World} {B g : Nat} {q : Ql} {G N M : Nat} {bi bb bx bz : List Bool}
theorem ref_Bits_no (h : RefAt w B g q G N M bi bb bx bz) (k : Int) (hk : k < 0 ∨ (G : Int) ≤ k) :
    Calls Try.prog 19 #[.pointer (some ⟨g, 0, none⟩), .int .i64 k] w fun e w' => e = .returned (.tuple #[.slice none 0 0, .slice none 0 0]) ∧ Ext w w' := by
  obtain ⟨c0, _, _, _, _, _, _⟩ := h.cells
  clear h
  by_cases h0 : k < 0
  · clear hk
    go_enter Try.func19, Try.ntmps19
    go_wp2_with fail
    go_ret2
    exact ⟨rfl, Ext.refl _⟩
  · have h1 : (G : Int) ≤ k := by omega
    clear hk
    go_enter Try.func19, Try.ntmps19
    go_wp2_with fail
    go_ret2
    exact ⟨rfl, Ext.refl _⟩
set_option maxRecDepth 100000 in
set_option maxHeartbeats 4000000 in
theorem ref_Bits (h : RefAt w B g q G N M bi bb bx bz) {k : Nat} (hk : k < G) {xs ys : List Nat} (hx : ∀ i, i < N → bi[posI N k i]? = some (hasB xs i)) (hy : ∀ i, i < M → bb[posB N M k i]? = some (hasB ys i)) :
    Calls Try.prog 19 #[.pointer (some ⟨g, 0, none⟩), .int .i64 (k : Int)] w fun e w' => ∃ A1 c1 A2 c2, e = .returned (.tuple #[.slice A1 ((N + 7) / 8) c1, .slice A2 ((M + 7) / 8) c2]) ∧
      Own w' w.heap.size 5 A1 ((N + 7) / 8) c1 (by8 (ofB N (nI (tkL N xs)))) ∧ Own w' w.heap.size 5 A2 ((M + 7) / 8) c2 (by8 (ofB M (nI (tkL M ys)))) ∧ Ext w w' := by
  have hm := mayG_nat h.may
  obtain ⟨c0, c1, c2, c3, c4, c5, c6⟩ := h.cells
  have hb := mul_bd (k := (k : Int)) (a := 8) (L := (N : Int)) (by omega) (by omega) (by omega)
  obtain ⟨m, hmm⟩ : ∃ m, m = k * N := ⟨_, rfl⟩
  have hmI : (k : Int) * (N : Int) = (m : Int) := by rw [hmm, Int.natCast_mul]
  have hmb : m ≤ 256 := by omega
  have hcell : ∀ i (wr : World), i < N → Ext w wr → wr.cell? ⟨q.g1, m + i + 1, none⟩ = some (.bool (hasB xs i)) := fun i wr hi hE => by
    have hp := posI_lt hk hi
    have e : m + i + 1 = posI N k i := by unfold posI; omega
    rw [e]
    exact hE.cell (by rw [h.r1.cellAt _ hp]; exact bl_get (hx i hi))
  have hplt : ∀ i, i < N → m + i + 1 < G * N + 1 := fun i hi => by have := posI_lt hk hi; unfold posI at this; omega
  obtain ⟨F, hF⟩ : ∃ F, fstG (G : Int) N M (k : Int) = F := ⟨_, rfl⟩
  have hcell2 : ∀ i (wr : World), i < M → Ext w wr → wr.cell? ⟨q.g2, posB N M k i, none⟩ = some (.bool (hasB ys i)) := fun i wr hi hE =>
    hE.cell (by rw [h.r2.cellAt _ (posB_lt hk hi)]; exact bl_get (hy i hi))
  have hplt2 : ∀ i, i < M → posB N M k i < 2 + G * (1 + N / 4 + M) := fun i hi => posB_lt hk hi
  have hpos2 : ∀ i : Nat, F + (i : Int) = (posB N M k i : Nat) := fun i => by rw [← hF]; exact fst_posB h.may hk
  have hfb := fstG_bd (G : Int) N M (k : Int)
  rw [hF] at hfb
  have hFc : ∀ w1, Calls Try.prog 51 #[.agg #[.int .i64 (G : Int), .int .i64 (N : Int), .int .i64 (M : Int)], .int .i64 (k : Int)] w1 fun e w' => e = .returned (.int .i64 F) ∧ Ext w1 w' := fun w1 => by
    rw [← hF]; exact ref5_First (G : Int) N M (k : Int) w1
  have q0 : decide ((k : Int) < 0) = false := decide_eq_false (by omega)
  have q1 : decide (G ≤ k) = false := decide_eq_false (by omega)
  have q2 : ¬ ((G : Int) ≤ (k : Int)) := by omega
  have HC := hide hcell
  have HP := hide hplt
  have HC2 := hide hcell2
  have HP2 := hide hplt2
  have HQ2 := hide hpos2
  have HF1 := hide hFc
  generalize G * N + 1 = GN at *
  generalize 2 + G * (1 + N / 4 + M) = GM at *
  clear hcell hplt hcell2 hplt2 hpos2 hFc hF hx hy hmm h hb
  go_enter Try.func19, Try.ntmps19
  go_wp2_with fail
  go_loopw [6, 8] (fun v i wr => ∃ j : Nat, j ≤ N ∧ i = .int .i64 j ∧ IntsAp w wr v j (tkL j xs) none ∧ Ext w wr) (fun _ i _ => N - (intOf i).toNat)
  case atStart => exact ⟨0, by omega, rfl, ⟨0, none, 0, rfl, by omega, Own.nilS _ _ _, Apart.nil _⟩, Ext.refl _⟩
  case round =>
    obtain ⟨j, hj, rfl, ⟨n, A1, d1, rfl, hn, hO, _⟩, hE⟩ := hrel
    have hsz := hE.size
    have d1' := hE.cell c1
    have d3' := hE.cell c3
    by_cases hlt : j < N
    · have hcj := HC.out j wr hlt hE
      have hpl := HP.out j hlt
      obtain ⟨t, ht⟩ : ∃ t, t = m + j + 1 := ⟨_, rfl⟩
      have htI : 1 + (m : Int) + (j : Int) = (t : Int) := by omega
      rw [← ht] at hcj hpl
      have htb : t ≤ 300 := by omega
      have W1 : IntKind.i64.wrap ((k : Int) * (N : Int)) = (m : Int) := by rw [hmI]; exact wrapI _ (by omega)
      have W2 := wrapI (1 + (m : Int)) (by omega)
      have W3 : IntKind.i64.wrap (1 + (m : Int) + (j : Int)) = (t : Int) := by rw [htI]; exact wrapI _ (by omega)
      have i1 : (t : Int) < (GN : Int) := by omega
      have hfs := tkL_succ j xs
      clear ht
      cases hbj : hasB xs j
      · rw [hbj] at hcj hfs
        rw [if_neg (by simp)] at hfs
        have HS := hide hfs
        clear hfs
        go_wp2_with fail
        go_quiet (fail)
        go_wp2_with fail
        go_roundw
        case rel => exact ⟨j + 1, by omega, by go_num, ⟨n, A1, d1, rfl, by omega, by rw [HS.out]; exact hO.ext ((Ext.refl wr).drewN nq), Apart.none2 _⟩, hE.drewN nq⟩
        case measure => simp [intOf]; omega
      · rw [hbj] at hcj hfs
        rw [if_pos rfl] at hfs
        have HS := hide hfs
        clear hfs
        go_wp2_with fail
        go_quiet (fail)
        have hO1 := (hO.ext ((Ext.refl wr).drewN nq)).ext ((Ext.refl (wr.drewN nq)).alloc (.cells #[.int .i64 (j : Int)] 3))
        go_wp2_with (at_builtin; refine appI rfl (.tmp 46) (.tmp 48) rfl w.heap.size _ n d1 _ rfl hO1 _ 1 1 _ rfl (Sl.lit2 (wr.drewN nq) #[.int .i64 (j : Int)] 3 1 rfl (by omega) (by simp [Value.oneCell']) _ (by first | rfl | simp)) (by omega) (by have := hsz; simp; omega) ?_; intro A2 c2' w2 hO2 hG2)
        go_roundw
        case rel => exact ⟨j + 1, by omega, by go_num, ⟨n + 1, A2, c2', rfl, by omega, by rw [HS.out, nI_snoc]; exact hO2, Apart.none2 _⟩, ((hE.drewN nq).alloc _).grown hG2 (fun q hq => (hO.block q hq).1)⟩
        case measure => simp [intOf]; omega
    · obtain rfl : j = N := by omega
      obtain ⟨w0, hw0⟩ : ∃ w0 : World, w0 = wr := ⟨_, rfl⟩
      have hOa := hO
      have hEa := hE
      have hsza := hsz
      rw [← hw0] at hOa hEa hsza
      have hst : Own wr w.heap.size 3 none 0 0 (i64s (nI (tkL 0 ys))) := Own.nilS _ _ _
      have hE0 : Ext w0 wr := by rw [hw0]; exact Ext.refl _
      clear hO hw0
      go_wp2_with fail
      go_loopw [7, 9] (fun v i wr => ∃ y : Nat, y ≤ M ∧ i = .int .i64 y ∧ IntsAp w wr v y (tkL y ys) A1 ∧ Own wr w.heap.size 3 A1 n d1 (i64s (nI (tkL j xs))) ∧ Ext w wr) (fun _ i _ => M - (intOf i).toNat)
      case atStart => exact ⟨0, by omega, rfl, ⟨0, none, 0, rfl, by omega, hst, Apart.nil _⟩, hOa.ext hE0, hE⟩
      case round =>
        obtain ⟨y, hy, rfl, ⟨l, A2, d2, rfl, hl, hO, hap⟩, hOb, hE⟩ := hrel
        have hsz := hE.size
        have d0' := hE.cell c0
        have d1' := hE.cell c1
        have d2' := hE.cell c2
        have d4' := hE.cell c4
        by_cases hlt : y < M
        · have hcj := HC2.out y wr hlt hE
          have hpl := HP2.out y hlt
          have hq := HQ2.out y
          obtain ⟨t, ht⟩ : ∃ t, t = posB j M k y := ⟨_, rfl⟩
          rw [← ht] at hcj hpl hq
          have htm : t < 100000 := by omega
          have W3 : IntKind.i64.wrap (F + (y : Int)) = (t : Int) := by rw [hq]; exact wrapI _ (by omega)
          have W4 : IntKind.i64.wrap (t : Int) = (t : Int) := wrapI _ (by omega)
          have i0 : (0 : Int) ≤ (t : Int) := by omega
          have i1 : (t : Int) < (GM : Int) := by omega
          have hfs := tkL_succ y ys
          clear ht
          cases hbj : hasB ys y
          · rw [hbj] at hcj hfs
            rw [if_neg (by simp)] at hfs
            have HS := hide hfs
            clear hfs
            go_wp2_with fail
            go_region_held3 (fun w' => w'.cell? ⟨g, 0, none⟩ = some (.int .i64 (G : Int)) ∧ w'.cell? ⟨g, 1, none⟩ = some (.int .i64 (j : Int)) ∧ w'.cell? ⟨g, 2, none⟩ = some (.int .i64 (M : Int)) ∧ w'.cell? ⟨g, 4, none⟩ = some (.slice (some ⟨q.g2, 0, none⟩) GM q.c2) ∧ w'.cell? ⟨q.g2, t, none⟩ = some (.bool false))
              (first | go_keep | (exact ⟨hE4.cell d0', hE4.cell d1', hE4.cell d2', hE4.cell d4', hE4.cell hcj⟩))
              ((go_at_call 51; with_reducible refine (HF1.out _).mono ?_; rintro e w4 ⟨rfl, hE4⟩))
            have hX4 := ((Ext.refl wr).drew).trans hE4
            go_wp2_with fail
            go_roundw
            case rel => exact ⟨y + 1, by omega, by go_num, ⟨l, A2, d2, rfl, by omega, by rw [HS.out]; exact hO.ext hX4, hap⟩, hOb.ext hX4, hE.trans hX4⟩
            case measure => simp [intOf]; omega
          · rw [hbj] at hcj hfs
            rw [if_pos rfl] at hfs
            have HS := hide hfs
            clear hfs
            go_wp2_with fail
            go_region_held3 (fun w' => w'.cell? ⟨g, 0, none⟩ = some (.int .i64 (G : Int)) ∧ w'.cell? ⟨g, 1, none⟩ = some (.int .i64 (j : Int)) ∧ w'.cell? ⟨g, 2, none⟩ = some (.int .i64 (M : Int)) ∧ w'.cell? ⟨g, 4, none⟩ = some (.slice (some ⟨q.g2, 0, none⟩) GM q.c2) ∧ w'.cell? ⟨q.g2, t, none⟩ = some (.bool true))
              (first | go_keep | (exact ⟨hE4.cell d0', hE4.cell d1', hE4.cell d2', hE4.cell d4', hE4.cell hcj⟩))
              ((go_at_call 51; with_reducible refine (HF1.out _).mono ?_; rintro e w4 ⟨rfl, hE4⟩))
            have hX4 := ((Ext.refl wr).drew).trans hE4
            have hs4 := (hE.trans hX4).size
            have hO5 := (hO.ext hX4).ext ((Ext.refl w4).alloc (.cells #[.int .i64 (y : Int)] 3))
            have hOb5 := (hOb.ext hX4).ext ((Ext.refl w4).alloc (.cells #[.int .i64 (y : Int)] 3))
            go_wp2_with (at_builtin; refine appI2 rfl (.tmp 73) (.tmp 75) rfl w.heap.size _ l d2 _ rfl hO5 _ 1 1 _ rfl (Sl.lit2 w4 #[.int .i64 (y : Int)] 3 1 rfl (by omega) (by simp [Value.oneCell']) _ (by first | rfl | simp)) (by omega) (by simp; omega) ?_; intro A6 c6' w6 hO6 hG6 hg6)
            go_roundw
            case rel => exact ⟨y + 1, by omega, by go_num, ⟨l + 1, A6, c6', rfl, by omega, by rw [HS.out, nI_snoc]; exact hO6, hap.grew hg6 hOb5 (Nat.le_refl _)⟩, hOb5.kept hG6 (Apart.row hap), ((hE.trans hX4).alloc _).grown hG6 (fun q hq => (hO.block q hq).1)⟩
            case measure => simp [intOf]; omega
        · obtain rfl : y = M := by omega
          have HO1 := hide (fun w' (hE' : Ext wr w') => ref3_Of j (j : Int) rfl A1 n d1 (tkL j xs) w' (hOb.sl.ext hE') (tkL_lt j xs) (by omega))
          have HO2 := hide (fun w' (hE' : Ext wr w') => ref3_Of y (y : Int) rfl A2 l d2 (tkL y ys) w' (hO.sl.ext hE') (tkL_lt y ys) (by omega))
          go_wp2_with fail
          go_region_held3 (fun w' => w'.cell? ⟨g, 1, none⟩ = some (.int .i64 (j : Int)) ∧ w'.cell? ⟨g, 2, none⟩ = some (.int .i64 (y : Int)))
            (first | go_keep | (exact ⟨(hE4.trans hE5).cell d1', (hE4.trans hE5).cell d2'⟩) | (exact ⟨hE4.cell d1', hE4.cell d2'⟩))
            (first
              | (go_at_call 52; with_reducible refine (HO1.out _ ((Ext.refl wr).drew)).mono ?_; rintro e w4 ⟨A4, c4', rfl, hO4, hE4⟩)
              | (go_at_call 52; with_reducible refine (HO2.out _ (((Ext.refl wr).drew).trans hE4)).mono ?_; rintro e w5 ⟨A5, c5', rfl, hO5, hE5⟩))
          go_wp2
          go_ret2
          have hX4 := ((Ext.refl wr).drew).trans hE4
          have hs4 := (hE.trans hX4).size
          exact ⟨A4, c4', A5, c5', rfl, (hO4.ext hE5).low hsz, hO5.low hs4, (hE.trans hX4).trans hE5⟩
end
end Go.Proofs.Ytillhbbeghbfeaa
