/- Contracts of sectors of bits, and of their reference. -/
import Derived.Test.YthfkacgehdfciaaSealW
import Derived.Test.YthfkacgehdfciaaBitsW
import Derived.Test.YthfkacgehdfciaaGroup
import Derived.Test.YthfkacgehdfciaaPtrW
namespace Go.Proofs.Ythfkacgehdfciaa
set_option linter.unusedVariables false
open Go.RowKit

theorem seal_pad16 {b : List Nat} (h : b.length ≤ 16) : sealOf 71 (padTo 16 b) = sealOf 71 b := by
  rw [← sealOf_pad (xs := padTo 16 b) (by rw [padTo_len h]; omega), pad_pad h (by omega), sealOf_pad (by omega)]
theorem g_row1 (xs : List Nat) (h : xs.length ≤ 4) :
    List.take 0 (List.replicate 16 (Value.int IntKind.u8 0)) ++ ((by8 xs).take 16 ++ (List.replicate 16 (Value.int IntKind.u8 0)).drop (0 + min xs.length 16)) = by8 (padTo 16 xs) := by
  rw [show (Value.int .u8 0) = Value.int .u8 ((0 : Nat) : Int) from rfl, by8_rep', List.take_zero, List.nil_append, by8_take, by8_drop, List.take_of_length_le (by omega), ← by8_append]
  congr 1
  unfold padTo
  rw [List.drop_replicate, show 16 - (0 + min xs.length 16) = 16 - xs.length from by omega]
theorem g_row2 (xs ys : List Nat) (h : xs.length ≤ 4) (h2 : ys.length ≤ 12) :
    List.take 4 (by8 (padTo 16 xs)) ++ ((by8 ys).take 12 ++ (by8 (padTo 16 xs)).drop (4 + min ys.length 12)) = by8 (padTo 16 (gB xs ys)) := by
  rw [by8_take, by8_take, by8_drop, List.take_of_length_le h2, ← by8_append, ← by8_append]
  congr 1
  have e : padTo 16 xs = padTo 4 xs ++ List.replicate 12 0 := by
    unfold padTo
    rw [List.append_assoc, List.replicate_append_replicate]
    congr 2
    omega
  rw [e, List.take_append_of_le_length (by rw [padTo_len h]; omega), List.take_of_length_le (by rw [padTo_len h]; omega), List.drop_append, List.drop_of_length_le (by rw [padTo_len h]; omega), padTo_len h, List.nil_append,
    List.drop_replicate]
  unfold gB
  rw [pad_app 4 16 _ _ (padTo_len h) (by omega)]
  congr 1
  unfold padTo
  congr 2
  omega

set_option maxHeartbeats 400000 in
theorem group_Lay_no (A A2 : Option Addr) (n c m c2 : Nat) (w : World) (hn : n ≤ 9223372036854775807) (hm : m ≤ 9223372036854775807) (hno : ¬ ((1 ≤ n ∧ n ≤ 4) ∧ (2 ≤ m ∧ m ≤ 12))) :
    Calls Try.prog 41 #[.slice A n c, .slice A2 m c2] w fun e w' => e = .returned (.tuple #[.slice none 0 0, .int .i64 2]) ∧ w = w' := by
  by_cases h1 : (n : Int) < 1
  · clear hno; go_enter Try.func41, Try.ntmps41
    go_wp2
    go_ret2
    exact ⟨rfl, rfl⟩
  by_cases h2 : (4 : Int) < n
  · clear hno; go_enter Try.func41, Try.ntmps41
    go_wp2
    go_ret2
    exact ⟨rfl, rfl⟩
  by_cases h3 : (m : Int) < 2
  · clear hno; go_enter Try.func41, Try.ntmps41
    go_wp2
    go_ret2
    exact ⟨rfl, rfl⟩
  have h4 : (12 : Int) < m := by omega
  clear hno; go_enter Try.func41, Try.ntmps41
  go_wp2
  go_ret2
  exact ⟨rfl, rfl⟩
set_option maxHeartbeats 400000 in
theorem group_Lay (A A2 : Option Addr) (n c m c2 : Nat) (xs ys : List Nat) (w : World) (h : Sl w A n c (by8 xs)) (h2 : Sl w A2 m c2 (by8 ys)) (hb : Bytes xs) (hb2 : Bytes ys)
    (hn1 : 1 ≤ n) (hn2 : n ≤ 4) (hm1 : 2 ≤ m) (hm2 : m ≤ 12) :
    Calls Try.prog 41 #[.slice A n c, .slice A2 m c2] w fun e w' => ∃ g c', e = .returned (.tuple #[.slice (some ⟨g, 0, none⟩) 128 c', .int .i64 0]) ∧
      Own w' w.heap.size 5 (some ⟨g, 0, none⟩) 128 c' (by8 (sealOf 71 (gB xs ys))) ∧ Ext w w' := by
  have hl : xs.length = n := by have := h.len; rwa [by8_len] at this
  have hl2 : ys.length = m := by have := h2.len; rwa [by8_len] at this
  have r1 := g_row1 xs (by omega)
  have r2 := g_row2 xs ys (by omega) (by omega)
  have r3 := seal_pad16 (b := gB xs ys) (by rw [gB_len (by omega)]; omega)
  have hbb : Bytes (padTo 16 (gB xs ys)) := (Bytes.gB hb hb2).pad
  rw [hl] at r1
  rw [hl2] at r2
  have R1 := hide r1
  have R2 := hide r2
  have R3 := hide r3
  have i1 : (1 : Int) ≤ n := by omega
  have i2 : (n : Int) ≤ 4 := by omega
  have i3 : (2 : Int) ≤ m := by omega
  have i4 : (m : Int) ≤ 12 := by omega
  clear r1 r2 r3 hl hl2
  go_enter Try.func41, Try.ntmps41
  go_wp2_with (first
    | (at_make; refine mkl8 rfl _ _ rfl .i64 .i64 16 16 16 16 rfl rfl rfl rfl (by omega) (by omega) w.heap.size (Nat.le_refl _) ?_; intro w1 hO1 hE1)
    | (with_reducible refine cpy8 (o := ⟨some 28, _, _, _, _, _⟩) rfl (.tmp 26) (.tmp 27) rfl w.heap.size w.heap.size 0 16 16 rfl _ n c _ rfl (h.ext hE1) 16 _ hO1 (by omega) ?_; intro w2 hO2 hG2
       have hO3 : Own w2 w.heap.size 5 (some ⟨w.heap.size, 0, none⟩) 16 16 (by8 (padTo 16 xs)) := by
         rw [R1.out] at hO2; exact hO2
       have hE2 : Ext w w2 := hE1.grown hG2 (by simp))
    | (with_reducible refine cpy8 (o := ⟨some 32, _, _, _, _, _⟩) rfl (.tmp 30) (.tmp 31) rfl w.heap.size w.heap.size 4 12 12 rfl _ m c2 _ rfl (h2.ext hE2) 16 _ hO3 (by omega) ?_; intro w3 hO4 hG3
       have hO5 : Own w3 w.heap.size 5 (some ⟨w.heap.size, 0, none⟩) 16 16 (by8 (padTo 16 (gB xs ys))) := by
         rw [R2.out] at hO4; exact hO4
       have hE3 : Ext w w3 := hE2.grown hG3 (by simp))
    | (go_at_call 17; refine (seal_Seal 71 _ _ _ _ _ hO5.sl hbb (by omega) (by omega) (by omega)).mono ?_; rintro e w4 ⟨g4, c4, rfl, hO6, hE4⟩))
  go_ret2
  rw [R3.out] at hO6
  exact ⟨g4, c4, rfl, hO6.low hE3.size, hE3.trans hE4⟩

set_option maxHeartbeats 400000 in
theorem refgroup_Lay_no (A A2 : Option Addr) (n c m c2 : Nat) (w : World) (hn : n ≤ 9223372036854775807) (hm : m ≤ 9223372036854775807) (hno : ¬ ((1 ≤ n ∧ n ≤ 4) ∧ (2 ≤ m ∧ m ≤ 12))) :
    Calls Try.prog 42 #[.slice A n c, .slice A2 m c2] w fun e w' => e = .returned (.tuple #[.slice none 0 0, .int .i64 2]) ∧ w = w' := by
  by_cases h1 : (n : Int) < 1
  · clear hno; go_enter Try.func42, Try.ntmps42
    go_wp2
    go_ret2
    exact ⟨rfl, rfl⟩
  by_cases h2 : (4 : Int) < n
  · clear hno; go_enter Try.func42, Try.ntmps42
    go_wp2
    go_ret2
    exact ⟨rfl, rfl⟩
  by_cases h3 : (m : Int) < 2
  · clear hno; go_enter Try.func42, Try.ntmps42
    go_wp2
    go_ret2
    exact ⟨rfl, rfl⟩
  have h4 : (12 : Int) < m := by omega
  clear hno; go_enter Try.func42, Try.ntmps42
  go_wp2
  go_ret2
  exact ⟨rfl, rfl⟩
set_option maxHeartbeats 400000 in
theorem refgroup_Lay (A A2 : Option Addr) (n c m c2 : Nat) (xs ys : List Nat) (w : World) (h : Sl w A n c (by8 xs)) (h2 : Sl w A2 m c2 (by8 ys)) (hb : Bytes xs) (hb2 : Bytes ys)
    (hn1 : 1 ≤ n) (hn2 : n ≤ 4) (hm1 : 2 ≤ m) (hm2 : m ≤ 12) :
    Calls Try.prog 42 #[.slice A n c, .slice A2 m c2] w fun e w' => ∃ g c', e = .returned (.tuple #[.slice (some ⟨g, 0, none⟩) 128 c', .int .i64 0]) ∧
      Own w' w.heap.size 5 (some ⟨g, 0, none⟩) 128 c' (by8 (sealOf 71 (gB xs ys))) ∧ Ext w w' := by
  have hl : xs.length = n := by have := h.len; rwa [by8_len] at this
  have hl2 : ys.length = m := by have := h2.len; rwa [by8_len] at this
  have HL := hide hl
  have i1 : (1 : Int) ≤ n := by omega
  have i2 : (n : Int) ≤ 4 := by omega
  have i3 : (2 : Int) ≤ m := by omega
  have i4 : (m : Int) ≤ 12 := by omega
  clear hl hl2
  go_enter Try.func42, Try.ntmps42
  go_wp2_with (first
    | (with_reducible refine app8 (o := ⟨some 26, _, _, _, _, _⟩) rfl _ _ rfl w.heap.size none 0 0 [] rfl (Own.nilS _ _ _) _ n c _ rfl h (by omega) (by omega) ?_; intro A1 c1 w1 hO1 hG1
       rw [Nat.zero_add] at hO1
       have hE1 : Ext w w1 := (Ext.refl w).grown hG1 (by simp [Value.ownBlock]))
    | (with_reducible refine app8z (o := ⟨some 30, _, _, _, _, _⟩) rfl _ _ rfl w.heap.size _ n c1 _ rfl hO1 _ (4 - n) rfl (by omega) (by omega) hE1.size ?_; intro A3 c3 w3 hO3 hG3
       have hE3 : Ext w w3 := hE1.grown hG3 (fun q hq => (hO1.block q hq).1)
       have e3 : n + (4 - n) = 4 := by omega
       rw [e3] at hO3
       rw [e3]
       clear e3)
    | (with_reducible refine app8 (o := ⟨some 33, _, _, _, _, _⟩) rfl _ _ rfl w.heap.size _ 4 c3 _ rfl hO3 _ m c2 _ rfl (h2.ext hE3) (by omega) hE3.size ?_; intro A4 c4 w4 hO4 hG4
       have hE4 : Ext w w4 := hE3.grown hG4 (fun q hq => (hO3.block q hq).1)
       have hO5 : Own w4 w.heap.size 5 A4 (4 + m) c4 (by8 (gB xs ys)) := by
         have e : by8 (gB xs ys) = [] ++ by8 xs ++ List.replicate (4 - n) (Value.int IntKind.u8 0) ++ by8 ys := by
           unfold gB padTo
           rw [by8_append, by8_append, HL.out, show (Value.int .u8 0) = Value.int .u8 ((0 : Nat) : Int) from rfl, by8_rep']
           rfl
         rw [e]; exact hO4)
    | (go_at_call 18; refine (ref_Seal 71 _ _ _ _ _ hO5.sl (Bytes.gB hb hb2) (by omega) (by omega) (by omega)).mono ?_; rintro e w5 ⟨g5, c5, rfl, hO6, hE5⟩))
  go_ret2
  exact ⟨g5, c5, rfl, hO6.low hE4.size, hE4.trans hE5⟩

/-- What Read answers: two slices of blocks of their own, or none. -/
def GRes (xs : List Nat) (n m B : Nat) (w' : World) (e : Ending) : Prop :=
  (gOk xs n m ∧ ∃ A1 c1 A2 c2 B2, e = .returned (.tuple #[.slice A1 ((n + 7) / 8) c1, .slice A2 ((m + 7) / 8) c2, .int .i64 0]) ∧ Own w' B 5 A1 ((n + 7) / 8) c1 (by8 (gXr xs n)) ∧ Own w' B2 5 A2 ((m + 7) / 8) c2 (by8 (gYr xs m)) ∧
    (B ≤ B2 ∧ B2 ≤ w'.heap.size) ∧ (∀ k, (Value.slice A1 ((n + 7) / 8) c1).ownBlock = some k → k < B2)) ∨
  (¬ gOk xs n m ∧ e = .returned (.tuple #[.slice none 0 0, .slice none 0 0, .int .i64 3]))
theorem GRes.ok {xs : List Nat} {n m B : Nat} {w' : World} {e : Ending} (h : GRes xs n m B w' e) (hg : gOk xs n m) :
    ∃ A1 c1 A2 c2 B2, e = .returned (.tuple #[.slice A1 ((n + 7) / 8) c1, .slice A2 ((m + 7) / 8) c2, .int .i64 0]) ∧ Own w' B 5 A1 ((n + 7) / 8) c1 (by8 (gXr xs n)) ∧ Own w' B2 5 A2 ((m + 7) / 8) c2 (by8 (gYr xs m)) ∧
    (B ≤ B2 ∧ B2 ≤ w'.heap.size) ∧ (∀ k, (Value.slice A1 ((n + 7) / 8) c1).ownBlock = some k → k < B2) := by
  rcases h with h | h
  · exact h.2
  · exact absurd hg h.1
theorem GRes.no {xs : List Nat} {n m B : Nat} {w' : World} {e : Ending} (h : GRes xs n m B w' e) (hg : ¬ gOk xs n m) : e = .returned (.tuple #[.slice none 0 0, .slice none 0 0, .int .i64 3]) := by
  rcases h with h | h
  · exact absurd h.1 hg
  · exact h.2

set_option maxHeartbeats 400000 in
theorem group_Read_arg (A : Option Addr) (n c : Nat) (N M : Int) (w : World) (hno : ¬ gIn N M) :
    Calls Try.prog 43 #[.slice A n c, .int .i64 N, .int .i64 M] w fun e w' => e = .returned (.tuple #[.slice none 0 0, .slice none 0 0, .int .i64 2]) ∧ w = w' := by
  unfold gIn at hno
  by_cases h1 : N < 4
  · clear hno; go_enter Try.func43, Try.ntmps43
    go_wp2
    go_ret3
    exact ⟨rfl, rfl⟩
  by_cases h2 : 32 < N
  · clear hno; go_enter Try.func43, Try.ntmps43
    go_wp2
    go_ret3
    exact ⟨rfl, rfl⟩
  by_cases h3 : M < 16
  · clear hno; go_enter Try.func43, Try.ntmps43
    go_wp2
    go_ret3
    exact ⟨rfl, rfl⟩
  have h4 : 96 < M := by omega
  clear hno; go_enter Try.func43, Try.ntmps43
  go_wp2
  go_ret3
  exact ⟨rfl, rfl⟩
set_option maxHeartbeats 1000000 in
theorem group_Read (A : Option Addr) (l c : Nat) (xs : List Nat) (n m : Nat) (w : World) (h : Sl w A l c (by8 xs)) (hb : Bytes xs) (hn1 : 4 ≤ n) (hn2 : n ≤ 32) (hm1 : 16 ≤ m) (hm2 : m ≤ 96) :
    Calls Try.prog 43 #[.slice A l c, .int .i64 n, .int .i64 m] w fun e w' => GRes xs n m w.heap.size w' e ∧ Ext w w' := by
  have i1 : (4 : Int) ≤ n := by omega
  have i2 : (n : Int) ≤ 32 := by omega
  have i3 : (16 : Int) ≤ m := by omega
  have i4 : (m : Int) ≤ 96 := by omega
  by_cases hk : kindOf xs = 71
  case neg =>
    have hg : ¬ gOk xs n m := fun h => hk h.1
    have HG := hide hg
    have HK := hide hk
    clear hg hk
    go_enter Try.func43, Try.ntmps43
    go_wp2_with (go_at_call 19; refine (seal_Open_no 71 _ _ _ xs _ h hb (Or.inr HK.out)).mono ?_; rintro e w2 ⟨rfl, hE2⟩)
    go_ret3
    exact ⟨.inr ⟨HG.out, rfl⟩, hE2⟩
  case pos =>
  have ha := g_again hb hk hn1 hn2 hm1 hm2
  have hgx := gX_len hk
  have hgy := gY_len hk
  have HK := hide hk
  clear hk
  have HA := hide ha
  clear ha
  have lX : ∀ (ys : List Nat) (N : Nat), N ≤ 1000 → ∀ i ∈ nI (allB ys N), i ≤ 9223372036854775807 := by
    intro ys N hN i hi
    obtain ⟨k, hk, rfl⟩ := List.mem_map.1 hi
    have := (mem_allB.1 hk).1
    omega
  have HX := hide lX
  clear lX
  have b1 := Bytes.ofB n (nI (allB (gX xs) n))
  have b2 := Bytes.ofB m (nI (allB (gY xs) m))
  have HXL := hide hgx
  have HYL := hide hgy
  have hln : (sealOf 71 (gB (ofB n (nI (allB (gX xs) n))) (ofB m (nI (allB (gY xs) m))))).length = 128 := sealOf_len (by rw [gB_len (by rw [ofB_len]; omega), ofB_len]; omega)
  have HLN := hide hln
  clear hgx hgy hln
  go_enter Try.func43, Try.ntmps43
  go_wp2_with fail
  refine (seal_Open 71 _ _ _ xs _ h hb (by omega) HK.out).mono ?_
  rintro e w2 ⟨g2, k2, rfl, hO2, hE2⟩
  have hk2 := hO2.sl.nc
  have hk3 : (16 : Int) ≤ k2 := by omega
  have hk4 : ¬ k2 = 4 := by omega
  have hSx : Sl w2 (some ⟨g2, 0, none⟩) 4 k2 (by8 (gX xs)) := by
    have := hO2.sl.pre (m := 4) (by omega)
    rw [by8_take] at this
    exact this
  have hSy : Sl w2 (some ⟨g2, 4, none⟩) 12 (k2 - 4) (by8 (gY xs)) := by
    have := (hO2.sl.cut (l := 4) (by omega)).pre (m := 12) (by omega)
    rw [if_neg hk4, by8_drop, by8_take] at this
    simpa [Addr.add_lit, gY] using this
  go_wp2_with fail
  refine (bits_All _ _ _ _ _ _ hSx hb.gX (by omega) (by omega)).mono ?_
  rintro e w3 ⟨A3, m3, c3, rfl, hO3, hE3⟩
  rw [Int.toNat_natCast] at hO3
  go_wp2_with fail
  refine (bits_Of n _ rfl _ _ _ _ _ hO3.sl (HX.out _ _ (by omega)) (by omega)).mono ?_
  rintro e w4 ⟨A4, c4, rfl, hO4, hE4⟩
  go_wp2_with fail
  refine (bits_All _ _ _ _ _ _ (hSy.ext (hE3.trans hE4)) hb.gY (by omega) (by omega)).mono ?_
  rintro e w5 ⟨A5, m5, c5, rfl, hO5, hE5⟩
  rw [Int.toNat_natCast] at hO5
  go_wp2_with fail
  refine (bits_Of m _ rfl _ _ _ _ _ hO5.sl (HX.out _ _ (by omega)) (by omega)).mono ?_
  rintro e w6 ⟨A6, c6, rfl, hO6, hE6⟩
  go_wp2_with fail
  refine (group_Lay _ _ _ _ _ _ _ _ _ (hO4.ext (hE5.trans hE6)).sl hO6.sl b1 b2 (by omega) (by omega) (by omega) (by omega)).mono ?_
  rintro e w7 ⟨g7, c7, rfl, hO7, hE7⟩
  have hF7 : Ext w w7 := hE2.trans (hE3.trans (hE4.trans (hE5.trans (hE6.trans hE7))))
  go_wp2_with fail
  refine (BEqual _ _ _ _ _ _ _ _ _ hO7.sl (h.ext hF7) (Bytes.sealOf (by omega) (Bytes.gB b1 b2)) hb).mono ?_
  rintro e w8 ⟨rfl, rfl⟩
  by_cases hs : sealOf 71 (gB (ofB n (nI (allB (gX xs) n))) (ofB m (nI (allB (gY xs) m)))) = xs
  · have hg : gOk xs n m := HA.out.1 hs
    have hown := g_own hb hn2 hm2 hg
    have HG := hide hg
    rw [decide_eq_true hs]
    have HO := hide hown
    clear hs hg hown
    go_wp2
    go_ret3
    have o1 := (hO4.ext (hE5.trans (hE6.trans hE7))).low (B' := w.heap.size) (by have := hE2.size; have := hE3.size; omega)
    have o2 := hO6.ext hE7
    have o3 := fun k hk => (hO4.block k hk).2
    have e1 : ofB n (nI (allB (gX xs) n)) = gXr xs n := HO.out.1
    have e2 : ofB m (nI (allB (gY xs) m)) = gYr xs m := HO.out.2
    rw [e1] at o1
    rw [e2] at o2
    exact ⟨.inl ⟨HG.out, A4, c4, A6, c6, _, rfl, o1, o2, ⟨by have := hE2.size; have := hE3.size; have := hE4.size; have := hE5.size; omega, by have := hE6.size; have := hE7.size; omega⟩, fun k hk => Nat.lt_of_lt_of_le (o3 k hk) hE5.size⟩, hF7⟩
  · have hg : ¬ gOk xs n m := fun hh => hs (HA.out.2 hh)
    have HG := hide hg
    rw [decide_eq_false hs]
    clear hs hg
    go_wp2
    go_ret3
    exact ⟨.inr ⟨HG.out, rfl⟩, hF7⟩
theorem group_Read2 (A : Option Addr) (l c : Nat) (xs : List Nat) (n m : Nat) (N M : Int) (hN : N = n) (hM : M = m) (w : World) (h : Sl w A l c (by8 xs)) (hb : Bytes xs) (hn1 : 4 ≤ n) (hn2 : n ≤ 32) (hm1 : 16 ≤ m) (hm2 : m ≤ 96) :
    Calls Try.prog 43 #[.slice A l c, .int .i64 N, .int .i64 M] w fun e w' => GRes xs n m w.heap.size w' e ∧ Ext w w' := by
  subst hN hM
  exact group_Read A l c xs n m w h hb hn1 hn2 hm1 hm2

set_option maxHeartbeats 400000 in
theorem refgroup_Read_arg (A : Option Addr) (n c : Nat) (N M : Int) (w : World) (hno : ¬ gIn N M) :
    Calls Try.prog 44 #[.slice A n c, .int .i64 N, .int .i64 M] w fun e w' => e = .returned (.tuple #[.slice none 0 0, .slice none 0 0, .int .i64 2]) ∧ w = w' := by
  unfold gIn at hno
  by_cases h1 : N < 4
  · clear hno; go_enter Try.func44, Try.ntmps44
    go_wp2
    go_ret3
    exact ⟨rfl, rfl⟩
  by_cases h2 : 32 < N
  · clear hno; go_enter Try.func44, Try.ntmps44
    go_wp2
    go_ret3
    exact ⟨rfl, rfl⟩
  by_cases h3 : M < 16
  · clear hno; go_enter Try.func44, Try.ntmps44
    go_wp2
    go_ret3
    exact ⟨rfl, rfl⟩
  have h4 : 96 < M := by omega
  clear hno; go_enter Try.func44, Try.ntmps44
  go_wp2
  go_ret3
  exact ⟨rfl, rfl⟩
theorem all_split' {xs : List Nat} {n N : Nat} (hl : 8 * xs.length ≤ N) (h : n ≤ N) : (allB xs N).length = (allB xs n).length ↔ ∀ k, n ≤ k → hasB xs k = false := by
  rw [allB_split xs h]
  constructor
  · intro h0 k hk
    by_cases h1 : k < N
    · exact h0 k hk h1
    · exact hasB_far (by omega)
  · intro h0 k hk _
    exact h0 k hk
set_option maxRecDepth 100000 in
set_option maxHeartbeats 1000000 in
theorem refgroup_Read (A : Option Addr) (l c : Nat) (xs : List Nat) (n m : Nat) (w : World) (h : Sl w A l c (by8 xs)) (hb : Bytes xs) (hn1 : 4 ≤ n) (hn2 : n ≤ 32) (hm1 : 16 ≤ m) (hm2 : m ≤ 96) :
    Calls Try.prog 44 #[.slice A l c, .int .i64 n, .int .i64 m] w fun e w' => GRes xs n m w.heap.size w' e ∧ Ext w w' := by
  have i1 : (4 : Int) ≤ n := by omega
  have i2 : (n : Int) ≤ 32 := by omega
  have i3 : (16 : Int) ≤ m := by omega
  have i4 : (m : Int) ≤ 96 := by omega
  by_cases hk : kindOf xs = 71
  case neg =>
    have hg : ¬ gOk xs n m := fun h => hk h.1
    have HG := hide hg
    have HK := hide hk
    clear hg hk
    go_enter Try.func44, Try.ntmps44
    go_wp2_with (go_at_call 20; refine (ref_Open_no 71 _ _ _ xs _ h hb (Or.inr HK.out)).mono ?_; rintro e w2 ⟨rfl, hE2⟩)
    go_ret3
    exact ⟨.inr ⟨HG.out, rfl⟩, hE2⟩
  case pos =>
  have hgx := gX_len hk
  have hgy := gY_len hk
  have hbl := bodyOf_len (kind_len (xs := xs) (by omega))
  have HK := hide hk
  have HXL := hide hgx
  have HYL := hide hgy
  have HBL := hide hbl
  clear hk hgx hgy hbl
  go_enter Try.func44, Try.ntmps44
  go_wp2_with fail
  refine (ref_Open 71 _ _ _ xs _ h hb (by omega) HK.out).mono ?_
  rintro e w2 ⟨g2, k2, rfl, hO2, hE2⟩
  have hk2 := hO2.sl.nc
  have hk3 : (16 : Int) ≤ k2 := by omega
  have hk4 : ¬ k2 = 4 := by omega
  have hSx : Sl w2 (some ⟨g2, 0, none⟩) 4 k2 (by8 (gX xs)) := by
    have := hO2.sl.pre (m := 4) (by omega)
    rw [by8_take] at this
    exact this
  have hSy : Sl w2 (some ⟨g2, 4, none⟩) 12 (k2 - 4) (by8 (gY xs)) := by
    have := (hO2.sl.cut (l := 4) (by omega)).pre (m := 12) (by omega)
    rw [if_neg hk4, by8_drop, by8_take] at this
    simpa [Addr.add_lit, gY] using this
  go_wp2_with fail
  go_region
  have hD : Ext w2 w2.drew := Ext.drew (Ext.refl _)
  have hO3 := hO2.ext hD
  have hSx3 := hSx.ext hD
  have hSy3 := hSy.ext hD
  have hbb : Bytes (bodyOf xs) := (hb.drop 1).take 123
  clear hO2 hSx hSy
  go_wp2_with fail
  go_loop [13] (fun i => ∃ k : Nat, k ≤ 123 ∧ i = .int .i64 k ∧ Hid (∀ j, 16 ≤ j → j < k → (bodyOf xs).getD j 0 = 0)) (fun i => 123 - (intOf i).toNat)
  case atStart => exact ⟨0, by omega, rfl, fun j _ h => by omega⟩
  case round =>
    obtain ⟨k, hk, rfl, hz⟩ := hrel
    by_cases hlt : k < 123
    · obtain ⟨_, _, x, hA, hx, hc, hx2⟩ := hO3.sl.at8 hbb hlt
      simp at hA
      obtain ⟨rfl, rfl⟩ := hA
      simp only [Nat.zero_add] at hc
      have hi0 : (0 : Int) ≤ (k : Int) := by omega
      have hi1 : (k : Int) < 123 := by omega
      have hgd : (bodyOf xs).getD k 0 = x := by rw [List.getD_eq_getElem?_getD, hx.out]; rfl
      have HGD := hide hgd
      clear hgd
      by_cases h16 : 16 ≤ k
      · have hi2 : (16 : Int) ≤ (k : Int) := by omega
        by_cases hx0 : x = 0
        · subst hx0
          go_wp2
          go_round
          case rel => exact ⟨k + 1, by omega, by go_num, fun j h1 h2 => by
            by_cases hj : j < k
            · exact hz.out j h1 hj
            · obtain rfl : j = k := by omega
              exact HGD.out⟩
          case measure => simp [intOf]; omega
        · have e1 : ((x : Int) == 0) = false := by simp; omega
          have e2 : ((x : Int) != 0) = true := by simp; omega
          have hg : ¬ gOk xs n m := fun hh => hx0 (by rw [← HGD.out]; exact hh.2.1 k h16)
          have HG := hide hg
          clear hg
          go_wp2
          go_ret3
          exact ⟨.inr ⟨HG.out, rfl⟩, hE2.drew⟩
      · have hi2 : (k : Int) < 16 := by omega
        go_wp2
        go_round
        case rel => exact ⟨k + 1, by omega, by go_num, fun j h1 h2 => by omega⟩
        case measure => simp [intOf]; omega
    · obtain rfl : k = 123 := by omega
      have hz' : ∀ j, 16 ≤ j → (bodyOf xs).getD j 0 = 0 := by
        intro j hj
        by_cases h1 : j < 123
        · exact hz.out j hj h1
        · rw [List.getD_eq_getElem?_getD, List.getElem?_eq_none (by rw [HBL.out]; omega)]; rfl
      have HZ := hide hz'
      clear hz' hz
      have hF2 := hE2.trans hD
      have sx := all_split' (xs := gX xs) (n := n) (N := 32) (by rw [HXL.out]; omega) hn2
      have sy := all_split' (xs := gY xs) (n := m) (N := 96) (by rw [HYL.out]; omega) hm2
      have SX := hide sx
      have SY := hide sy
      clear sx sy
      go_wp2_with fail
      refine (ref_All _ _ _ _ _ _ hSx3 hb.gX (by omega) (by omega)).mono ?_
      rintro e w3 ⟨A3, m3, c3, rfl, hO4, hE3⟩
      have l3 := hO4.len
      rw [i64s_len, nI_len, show (32 : Int).toNat = 32 from rfl] at l3
      have b3 := allB_len (gX xs) 32
      rw [l3] at SX b3
      clear hO4 l3
      go_wp2_with fail
      refine (ref_All _ _ _ _ _ _ (hSx3.ext hE3) hb.gX (by omega) (by omega)).mono ?_
      rintro e w4 ⟨A4, m4, c4, rfl, hO4, hE4⟩
      have l4 := hO4.len
      rw [i64s_len, nI_len, Int.toNat_natCast] at l4
      have b4 := allB_len (gX xs) n
      rw [l4] at SX b4
      clear hO4 l4
      by_cases hx1 : m3 = m4
      case neg =>
        have e1 : ((m3 : Int) == (m4 : Int)) = false := by simp; omega
        have e2 : ((m3 : Int) != (m4 : Int)) = true := by simp; omega
        have hg : ¬ gOk xs n m := fun hh => hx1 (SX.out.2 hh.2.2.1)
        have HG := hide hg
        clear hg
        go_wp2
        go_ret3
        exact ⟨.inr ⟨HG.out, rfl⟩, hF2.trans (hE3.trans hE4)⟩
      have HGX := hide (SX.out.1 hx1)
      clear SX
      subst hx1
      go_wp2_with fail
      refine (ref_All _ _ _ _ _ _ (hSy3.ext (hE3.trans hE4)) hb.gY (by omega) (by omega)).mono ?_
      rintro e w5 ⟨A5, m5, c5, rfl, hO4, hE5⟩
      have l5 := hO4.len
      rw [i64s_len, nI_len, show (96 : Int).toNat = 96 from rfl] at l5
      have b5 := allB_len (gY xs) 96
      rw [l5] at SY b5
      clear hO4 l5
      go_wp2_with fail
      refine (ref_All _ _ _ _ _ _ (hSy3.ext (hE3.trans (hE4.trans hE5))) hb.gY (by omega) (by omega)).mono ?_
      rintro e w6 ⟨A6, m6, c6, rfl, hO4, hE6⟩
      have l6 := hO4.len
      rw [i64s_len, nI_len, Int.toNat_natCast] at l6
      have b6 := allB_len (gY xs) m
      rw [l6] at SY b6
      clear hO4 l6
      have hF6 := hE3.trans (hE4.trans (hE5.trans hE6))
      by_cases hx2 : m5 = m6
      case neg =>
        have e1 : ((m5 : Int) == (m6 : Int)) = false := by simp; omega
        have e2 : ((m5 : Int) != (m6 : Int)) = true := by simp; omega
        have hg : ¬ gOk xs n m := fun hh => hx2 (SY.out.2 hh.2.2.2)
        have HG := hide hg
        clear hg
        go_wp2
        go_ret3
        exact ⟨.inr ⟨HG.out, rfl⟩, hF2.trans hF6⟩
      have hg : gOk xs n m := ⟨HK.out, HZ.out, HGX.out, SY.out.1 hx2⟩
      subst hx2
      have HG := hide hg
      clear hg SY
      have hSx6 := (hSx3.ext hF6).pre (m := (n + 7) / 8) (by omega)
      have hSy6 := (hSy3.ext hF6).pre (m := (m + 7) / 8) (by omega)
      rw [by8_take] at hSx6 hSy6
      have j1 : ((n : Int) + 7) / 8 ≤ 4 := by omega
      have j2 : ((m : Int) + 7) / 8 ≤ 12 := by omega
      have j3 : ((n : Int) + 7) / 8 ≤ (k2 : Int) := by omega
      have j4 : ((m : Int) + 7) / 8 ≤ ((k2 - 4 : Nat) : Int) := by omega
      have k1 : IntKind.i64.wrap ((n : Int) + 7) = (n : Int) + 7 := IntWalk.i64_in _ (by omega)
      have k2' : ((n : Int) + 7).tdiv 8 = ((n : Int) + 7) / 8 := Int.tdiv_eq_ediv_of_nonneg (by omega)
      have k3 : IntKind.i64.wrap (((n : Int) + 7) / 8) = ((n : Int) + 7) / 8 := IntWalk.i64_in _ (by omega)
      have k4 : (0 : Int) ≤ ((n : Int) + 7) / 8 := by omega
      have k5 : (((n : Int) + 7) / 8).toNat = (n + 7) / 8 := by omega
      have q1 : IntKind.i64.wrap ((m : Int) + 7) = (m : Int) + 7 := IntWalk.i64_in _ (by omega)
      have q2 : ((m : Int) + 7).tdiv 8 = ((m : Int) + 7) / 8 := Int.tdiv_eq_ediv_of_nonneg (by omega)
      have q3 : IntKind.i64.wrap (((m : Int) + 7) / 8) = ((m : Int) + 7) / 8 := IntWalk.i64_in _ (by omega)
      have q4 : (0 : Int) ≤ ((m : Int) + 7) / 8 := by omega
      have q5 : (((m : Int) + 7) / 8).toNat = (m + 7) / 8 := by omega
      go_wp2_with fail
      have hB6 : w.heap.size ≤ w6.heap.size := (hF2.trans hF6).size
      go_region_held3 (fun w' => True) (trivial) (first
        | (refine step8 (by rfl) _ (.tmp 76) (by rfl) w.heap.size none 0 0 [] (by rfl) (Own.nilS _ _ _) _ ((n + 7) / 8) k2 _ (by rfl) (hSx6.ext (Ext.drew (Ext.refl _))) (by omega) (by exact hB6) ?_; intro A7 c7 w7 hO7 hG7; rw [Nat.zero_add] at hO7)
        | (refine step8 (by rfl) _ (.tmp 82) (by rfl) w7.heap.size none 0 0 [] (by rfl) (Own.nilS _ _ _) _ ((m + 7) / 8) (k2 - 4) _ (by rfl) (hSy6.ext ((Ext.drew (Ext.refl _)).grown hG7 (by simp [Value.ownBlock]))) (by omega) (Nat.le_refl _) ?_; intro A8 c8 w8 hO8 hG8; rw [Nat.zero_add] at hO8))
      have hO7' := hO7.kept hG8 (by intro a ha; simp [Value.ownBlock])
      have hF8 : Ext w w8 := (((hF2.trans hF6).drew).grown hG7 (by simp [Value.ownBlock])).grown hG8 (by simp [Value.ownBlock])
      have h67 : w.heap.size ≤ w7.heap.size := Nat.le_trans hB6 hG7.size
      have h78 := hG8.size
      clear k1 k2' k3 k4 k5 q1 q2 q3 q4 q5 j1 j2 j3 j4 hG7 hG8
      go_wp2
      go_ret3
      exact ⟨.inl ⟨HG.out, A7, c7, A8, c8, _, rfl, hO7', hO8, ⟨h67, h78⟩, fun k hk => (hO7.block k hk).2⟩, hF8⟩

/-! Whatever came in: one answer. -/
def gMayP (xs ys : List Nat) : Prop := (1 ≤ xs.length ∧ xs.length ≤ 4) ∧ (2 ≤ ys.length ∧ ys.length ≤ 12)
instance (xs ys : List Nat) : Decidable (gMayP xs ys) := by unfold gMayP; infer_instance
def gL (xs ys : List Nat) : List Nat := if gMayP xs ys then sealOf 71 (gB xs ys) else []
def gE (xs ys : List Nat) : Nat := if gMayP xs ys then 0 else 2
theorem Bytes.gL {xs ys : List Nat} (hb : Bytes xs) (hb2 : Bytes ys) : Bytes (gL xs ys) := by
  unfold Go.Proofs.Ythfkacgehdfciaa.gL
  split
  · exact Bytes.sealOf (by omega) (Bytes.gB hb hb2)
  · exact Bytes.nil
def gSound (xs : List Nat) (N M : Int) : Prop := gIn N M ∧ gOk xs N.toNat M.toNat
open Classical in
noncomputable def gXL (xs : List Nat) (N M : Int) : List Nat := if gSound xs N M then gXr xs N.toNat else []
open Classical in
noncomputable def gYL (xs : List Nat) (N M : Int) : List Nat := if gSound xs N M then gYr xs M.toNat else []
open Classical in
noncomputable def gF (xs : List Nat) (N M : Int) : Nat := if gSound xs N M then 0 else if gIn N M then 3 else 2
theorem Bytes.gXL {xs : List Nat} (hb : Bytes xs) (N M : Int) : Bytes (gXL xs N M) := by
  unfold Go.Proofs.Ythfkacgehdfciaa.gXL
  split
  · exact hb.gX.take _
  · exact Bytes.nil
theorem Bytes.gYL {xs : List Nat} (hb : Bytes xs) (N M : Int) : Bytes (gYL xs N M) := by
  unfold Go.Proofs.Ythfkacgehdfciaa.gYL
  split
  · exact hb.gY.take _
  · exact Bytes.nil

theorem group_Lay_any (A A2 : Option Addr) (n c m c2 : Nat) (xs ys : List Nat) (w : World) (h : Sl w A n c (by8 xs)) (h2 : Sl w A2 m c2 (by8 ys)) (hb : Bytes xs) (hb2 : Bytes ys) :
    Calls Try.prog 41 #[.slice A n c, .slice A2 m c2] w fun e w' => ∃ A' n' c', e = .returned (.tuple #[.slice A' n' c', .int .i64 (gE xs ys : Nat)]) ∧ n' ≤ 128 ∧
      Own w' w.heap.size 5 A' n' c' (by8 (gL xs ys)) ∧ Ext w w' := by
  have hl : xs.length = n := by have := h.len; rwa [by8_len] at this
  have hl2 : ys.length = m := by have := h2.len; rwa [by8_len] at this
  by_cases hm : gMayP xs ys
  · have hm' := hm
    unfold gMayP at hm'
    refine (group_Lay A A2 n c m c2 xs ys w h h2 hb hb2 (by omega) (by omega) (by omega) (by omega)).mono ?_
    rintro e w' ⟨g, c', rfl, hO, hE⟩
    refine ⟨some ⟨g, 0, none⟩, 128, c', ?_, Nat.le_refl _, ?_, hE⟩
    · unfold gE; rw [if_pos hm]; rfl
    · unfold gL; rw [if_pos hm]; exact hO
  · have hm' := hm
    unfold gMayP at hm'
    refine (group_Lay_no A A2 n c m c2 w (Nat.le_trans h.nc h.cm) (Nat.le_trans h2.nc h2.cm) (by omega)).mono ?_
    rintro e w' ⟨rfl, rfl⟩
    refine ⟨none, 0, 0, ?_, by omega, ?_, Ext.refl _⟩
    · unfold gE; rw [if_neg hm]; rfl
    · unfold gL; rw [if_neg hm]; exact Own.nilS _ _ _

theorem refgroup_Lay_any (A A2 : Option Addr) (n c m c2 : Nat) (xs ys : List Nat) (w : World) (h : Sl w A n c (by8 xs)) (h2 : Sl w A2 m c2 (by8 ys)) (hb : Bytes xs) (hb2 : Bytes ys) :
    Calls Try.prog 42 #[.slice A n c, .slice A2 m c2] w fun e w' => ∃ A' n' c', e = .returned (.tuple #[.slice A' n' c', .int .i64 (gE xs ys : Nat)]) ∧ n' ≤ 128 ∧
      Own w' w.heap.size 5 A' n' c' (by8 (gL xs ys)) ∧ Ext w w' := by
  have hl : xs.length = n := by have := h.len; rwa [by8_len] at this
  have hl2 : ys.length = m := by have := h2.len; rwa [by8_len] at this
  by_cases hm : gMayP xs ys
  · have hm' := hm
    unfold gMayP at hm'
    refine (refgroup_Lay A A2 n c m c2 xs ys w h h2 hb hb2 (by omega) (by omega) (by omega) (by omega)).mono ?_
    rintro e w' ⟨g, c', rfl, hO, hE⟩
    refine ⟨some ⟨g, 0, none⟩, 128, c', ?_, Nat.le_refl _, ?_, hE⟩
    · unfold gE; rw [if_pos hm]; rfl
    · unfold gL; rw [if_pos hm]; exact hO
  · have hm' := hm
    unfold gMayP at hm'
    refine (refgroup_Lay_no A A2 n c m c2 w (Nat.le_trans h.nc h.cm) (Nat.le_trans h2.nc h2.cm) (by omega)).mono ?_
    rintro e w' ⟨rfl, rfl⟩
    refine ⟨none, 0, 0, ?_, by omega, ?_, Ext.refl _⟩
    · unfold gE; rw [if_neg hm]; rfl
    · unfold gL; rw [if_neg hm]; exact Own.nilS _ _ _

theorem group_Read_any (A : Option Addr) (l c : Nat) (xs : List Nat) (N M : Int) (w : World) (h : Sl w A l c (by8 xs)) (hb : Bytes xs) :
    Calls Try.prog 43 #[.slice A l c, .int .i64 N, .int .i64 M] w fun e w' => ∃ A1 n1 c1 A2 n2 c2 B2, e = .returned (.tuple #[.slice A1 n1 c1, .slice A2 n2 c2, .int .i64 (gF xs N M : Nat)]) ∧ (n1 ≤ 4 ∧ n2 ≤ 12) ∧
      Own w' w.heap.size 5 A1 n1 c1 (by8 (gXL xs N M)) ∧ Own w' B2 5 A2 n2 c2 (by8 (gYL xs N M)) ∧ (w.heap.size ≤ B2 ∧ B2 ≤ w'.heap.size) ∧ (∀ k, (Value.slice A1 n1 c1).ownBlock = some k → k < B2) ∧ Ext w w' := by
  by_cases hin : gIn N M
  case neg =>
    have hs : ¬ gSound xs N M := fun h => hin h.1
    refine (group_Read_arg A l c N M w hin).mono ?_
    rintro e w' ⟨rfl, rfl⟩
    refine ⟨none, 0, 0, none, 0, 0, w.heap.size, ?_, by omega, ?_, ?_, ⟨Nat.le_refl _, Nat.le_refl _⟩, (fun k hk => by simp [Value.ownBlock] at hk), Ext.refl _⟩
    · unfold gF; rw [if_neg hs, if_neg hin]; rfl
    · unfold gXL; rw [if_neg hs]; exact Own.nilS _ _ _
    · unfold gYL; rw [if_neg hs]; exact Own.nilS _ _ _
  have hin' := hin
  unfold gIn at hin'
  obtain ⟨n, rfl⟩ := Int.eq_ofNat_of_zero_le (show 0 ≤ N by omega)
  obtain ⟨m, rfl⟩ := Int.eq_ofNat_of_zero_le (show 0 ≤ M by omega)
  refine (group_Read A l c xs n m w h hb (by omega) (by omega) (by omega) (by omega)).mono ?_
  rintro e w' ⟨hR, hE⟩
  by_cases hg : gOk xs n m
  · have hs : gSound xs (n : Int) (m : Int) := ⟨hin, by simpa using hg⟩
    obtain ⟨A1, c1, A2, c2, B2, rfl, o1, o2, o3, o4⟩ := hR.ok hg
    refine ⟨A1, (n + 7) / 8, c1, A2, (m + 7) / 8, c2, B2, ?_, by omega, ?_, ?_, o3, o4, hE⟩
    · unfold gF; rw [if_pos hs]; rfl
    · unfold gXL; rw [if_pos hs]; simpa using o1
    · unfold gYL; rw [if_pos hs]; simpa using o2
  · have hs : ¬ gSound xs (n : Int) (m : Int) := fun h => hg (by simpa using h.2)
    have := hR.no hg
    subst this
    refine ⟨none, 0, 0, none, 0, 0, w.heap.size, ?_, by omega, ?_, ?_, ⟨Nat.le_refl _, hE.size⟩, (fun k hk => by simp [Value.ownBlock] at hk), hE⟩
    · unfold gF; rw [if_neg hs, if_pos hin]; rfl
    · unfold gXL; rw [if_neg hs]; exact Own.nilS _ _ _
    · unfold gYL; rw [if_neg hs]; exact Own.nilS _ _ _

theorem refgroup_Read_any (A : Option Addr) (l c : Nat) (xs : List Nat) (N M : Int) (w : World) (h : Sl w A l c (by8 xs)) (hb : Bytes xs) :
    Calls Try.prog 44 #[.slice A l c, .int .i64 N, .int .i64 M] w fun e w' => ∃ A1 n1 c1 A2 n2 c2 B2, e = .returned (.tuple #[.slice A1 n1 c1, .slice A2 n2 c2, .int .i64 (gF xs N M : Nat)]) ∧ (n1 ≤ 4 ∧ n2 ≤ 12) ∧
      Own w' w.heap.size 5 A1 n1 c1 (by8 (gXL xs N M)) ∧ Own w' B2 5 A2 n2 c2 (by8 (gYL xs N M)) ∧ (w.heap.size ≤ B2 ∧ B2 ≤ w'.heap.size) ∧ (∀ k, (Value.slice A1 n1 c1).ownBlock = some k → k < B2) ∧ Ext w w' := by
  by_cases hin : gIn N M
  case neg =>
    have hs : ¬ gSound xs N M := fun h => hin h.1
    refine (refgroup_Read_arg A l c N M w hin).mono ?_
    rintro e w' ⟨rfl, rfl⟩
    refine ⟨none, 0, 0, none, 0, 0, w.heap.size, ?_, by omega, ?_, ?_, ⟨Nat.le_refl _, Nat.le_refl _⟩, (fun k hk => by simp [Value.ownBlock] at hk), Ext.refl _⟩
    · unfold gF; rw [if_neg hs, if_neg hin]; rfl
    · unfold gXL; rw [if_neg hs]; exact Own.nilS _ _ _
    · unfold gYL; rw [if_neg hs]; exact Own.nilS _ _ _
  have hin' := hin
  unfold gIn at hin'
  obtain ⟨n, rfl⟩ := Int.eq_ofNat_of_zero_le (show 0 ≤ N by omega)
  obtain ⟨m, rfl⟩ := Int.eq_ofNat_of_zero_le (show 0 ≤ M by omega)
  refine (refgroup_Read A l c xs n m w h hb (by omega) (by omega) (by omega) (by omega)).mono ?_
  rintro e w' ⟨hR, hE⟩
  by_cases hg : gOk xs n m
  · have hs : gSound xs (n : Int) (m : Int) := ⟨hin, by simpa using hg⟩
    obtain ⟨A1, c1, A2, c2, B2, rfl, o1, o2, o3, o4⟩ := hR.ok hg
    refine ⟨A1, (n + 7) / 8, c1, A2, (m + 7) / 8, c2, B2, ?_, by omega, ?_, ?_, o3, o4, hE⟩
    · unfold gF; rw [if_pos hs]; rfl
    · unfold gXL; rw [if_pos hs]; simpa using o1
    · unfold gYL; rw [if_pos hs]; simpa using o2
  · have hs : ¬ gSound xs (n : Int) (m : Int) := fun h => hg (by simpa using h.2)
    have := hR.no hg
    subst this
    refine ⟨none, 0, 0, none, 0, 0, w.heap.size, ?_, by omega, ?_, ?_, ⟨Nat.le_refl _, hE.size⟩, (fun k hk => by simp [Value.ownBlock] at hk), hE⟩
    · unfold gF; rw [if_neg hs, if_pos hin]; rfl
    · unfold gXL; rw [if_neg hs]; exact Own.nilS _ _ _
    · unfold gYL; rw [if_neg hs]; exact Own.nilS _ _ _
end Go.Proofs.Ythfkacgehdfciaa
