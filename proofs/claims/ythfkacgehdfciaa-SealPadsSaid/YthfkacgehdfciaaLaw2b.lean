/- The other statements on sealed sectors. -/
import Derived.Test.YthfkacgehdfciaaLaw2
import Derived.Test.YthfkacgehdfciaaFlat
namespace Go.Proofs.Ythfkacgehdfciaa
open Go.RowKit

theorem alBody (w : World) : (Instr.alloc 36 true (.tuple #[])).run Try.prog w = .ok (.pointer (some ⟨w.heap.size, 0, none⟩)) (w.alloc (.cells (madeCells #[.int .u8 0] 123) 36)) := by kernel_rfl
theorem info_body : (Try.prog.info? 36).map (·.size) = some 123 := by kernel_rfl
theorem arr_row (xs : List Nat) (h : xs.length ≤ 123) :
    (List.replicate 123 (Value.int .u8 0)).take 0 ++ ((by8 xs).take 123 ++ (List.replicate 123 (Value.int .u8 0)).drop (0 + min xs.length 123)) = by8 (padTo 123 xs) := by
  rw [show (Value.int .u8 0) = Value.int .u8 ((0 : Nat) : Int) from rfl, by8_rep', by8_take, by8_take, by8_drop, ← by8_append, ← by8_append]
  congr 1
  rw [List.take_of_length_le h, show min xs.length 123 = xs.length from by omega]
  unfold padTo
  rw [List.take_zero, List.nil_append, List.drop_replicate, Nat.zero_add]
theorem seal_alike {j k : Nat} {xs ys : List Nat} (hx : xs.length ≤ 123) (hy : ys.length ≤ 123) : sealOf j xs = sealOf k ys ↔ j = k ∧ padTo 123 xs = padTo 123 ys := by
  constructor
  · intro h
    constructor
    · have := congrArg (·[0]?) h
      simpa [sealOf_zero] using this
    · rw [← bodyOf_sealOf (k := j) hx, ← bodyOf_sealOf (k := k) hy, h]
  · rintro ⟨rfl, h⟩
    unfold sealOf
    rw [h]

set_option maxRecDepth 100000 in
set_option maxHeartbeats 1000000 in
theorem law_SealApart (w : World) (j : Nat) (hj : j < 256) (k : Nat) (hk : k < 256) (A : Option Addr) (n c : Nat) (xs : List Nat) (h : Sl w A n c (by8 xs)) (hb : Bytes xs) (A2 : Option Addr) (m c2 : Nat) (ys : List Nat) (h2 : Sl w A2 m c2 (by8 ys)) (hb2 : Bytes ys) :
    Calls Try.prog 5 #[.int .u8 j, .int .u8 k, .slice A n c, .slice A2 m c2] w fun e w' => e = .returned (.bool true) ∧ Ext w w' := by
  have hl : xs.length = n := by have := h.len; rwa [by8_len] at this
  have hl2 : ys.length = m := by have := h2.len; rwa [by8_len] at this
  by_cases hbad : 123 < n ∨ 123 < m ∨ j = 0 ∨ k = 0
  · clear hl hl2
    by_cases b1 : (123 : Int) < n
    · go_enter Try.func5, Try.ntmps5
      go_wp2_with (go_at_call 15; refine (law2_awake _).mono ?_; rintro e w1 ⟨rfl, hE1⟩)
      go_ret
      exact ⟨rfl, hE1⟩
    by_cases b2 : (123 : Int) < m
    · go_enter Try.func5, Try.ntmps5
      go_wp2_with (go_at_call 15; refine (law2_awake _).mono ?_; rintro e w1 ⟨rfl, hE1⟩)
      go_ret
      exact ⟨rfl, hE1⟩
    by_cases b3 : j = 0
    · subst b3
      go_enter Try.func5, Try.ntmps5
      go_wp2_with (go_at_call 15; refine (law2_awake _).mono ?_; rintro e w1 ⟨rfl, hE1⟩)
      go_ret
      exact ⟨rfl, hE1⟩
    · obtain rfl : k = 0 := by omega
      have b4 : ((j : Int) == 0) = false := by simp; omega
      go_enter Try.func5, Try.ntmps5
      go_wp2_with (go_at_call 15; refine (law2_awake _).mono ?_; rintro e w1 ⟨rfl, hE1⟩)
      go_ret
      exact ⟨rfl, hE1⟩
  have b1 : ¬ (123 : Int) < n := by omega
  have b2 : ¬ (123 : Int) < m := by omega
  have b3 : ((j : Int) == 0) = false := by simp; omega
  have b4 : ((k : Int) == 0) = false := by simp; omega
  have hxl : xs.length ≤ 123 := by omega
  have hyl : ys.length ≤ 123 := by omega
  have HL := hide hl
  have HL2 := hide hl2
  clear hl hl2
  go_enter Try.func5, Try.ntmps5
  go_wp2_with fail
  refine (seal_Seal j _ _ _ xs _ h hb (by omega) hj (by omega)).mono ?_
  rintro e w1 ⟨g1, c1, rfl, hO1, hE1⟩
  go_wp2_with fail
  refine (seal_Seal k _ _ _ ys _ (h2.ext hE1) hb2 (by omega) hk (by omega)).mono ?_
  rintro e w2 ⟨g2, c2', rfl, hO2, hE2⟩
  go_wp2_with (first
    | (with_reducible refine wpList_al (a := ⟨_, _⟩) (o := ⟨some 13, _, _, _, _, _⟩) rfl 36 rfl (.int .u8 0) 123 (alBody _) (by omega) rfl w2.heap.size (Nat.le_refl _) ?_; intro w3 hP3 hE3 hz3)
    | (with_reducible refine wpList_al (a := ⟨_, _⟩) (o := ⟨some 14, _, _, _, _, _⟩) rfl 36 rfl (.int .u8 0) 123 (alBody _) (by omega) rfl w2.heap.size (by omega) ?_; intro w4 hQ4 hE4 hz4)
    | (with_reducible refine wpList_cpy (o := ⟨some 48, _, _, _, _, _⟩) rfl (.tmp 46) (.tmp 47) 22 rfl w2.heap.size 5 36 Try.underlying22 info_size_u8 w2.heap.size 0 123 123 rfl _ n c _ rfl (h.ext (hE1.trans (hE2.trans (hE3.trans hE4)))) 123 _ (hP3.ext hE4) (by omega) ?_; intro w5 hP5 hG5)
    | (with_reducible refine wpList_cpy (o := ⟨some 51, _, _, _, _, _⟩) rfl (.tmp 49) (.tmp 50) 22 rfl w2.heap.size 5 36 Try.underlying22 info_size_u8 w3.heap.size 0 123 123 rfl _ m c2 _ rfl (h2.ext (hE1.trans (hE2.trans ((hE3.trans hE4).grown hG5 (by simp))))) 123 _ (hQ4.kept hG5 (by intro a ha; simp at ha; subst ha; simp; omega)) (by omega) ?_; intro w6 hQ6 hG6)
    | fail)
  have hPR : Own w6 w2.heap.size 36 (some ⟨w2.heap.size, 0, none⟩) 123 123 (by8 (padTo 123 xs)) := by
    have e := arr_row xs hxl
    rw [HL.out] at e
    rw [e] at hP5
    exact hP5.kept hG6 (by intro a ha; simp at ha; subst ha; simp; omega)
  have hQR : Own w6 w2.heap.size 36 (some ⟨w3.heap.size, 0, none⟩) 123 123 (by8 (padTo 123 ys)) := by
    have e := arr_row ys hyl
    rw [HL2.out] at e
    rw [e] at hQ6
    exact hQ6
  have hE6 : Ext w2 w6 := ((hE3.trans hE4).grown hG5 (by simp)).grown hG6 (by simp; omega)
  clear hP5 hQ6 hG5 hG6 hP3 hQ4
  have hbs : Bytes (sealOf j xs) := Bytes.sealOf hj hb
  have hbs2 : Bytes (sealOf k ys) := Bytes.sealOf hk hb2
  have hO16 := hO1.ext (hE2.trans hE6)
  have hO26 := hO2.ext hE6
  by_cases hjk : j = k
  · subst hjk
    refine (seal_Open j _ _ _ _ _ hO16.sl hbs (by omega) (kindOf_sealOf hxl (by omega))).mono ?_
    rintro e w7 ⟨g7, c7, rfl, hO7, hE7⟩
    go_wp2_with fail
    refine (SameBytes _ _ _ _ _ _ _ _ _ (hO16.ext hE7).sl (hO26.ext hE7).sl hbs hbs2).mono ?_
    rintro e w8 ⟨rfl, j8, hw8⟩
    have hE8 : Ext w7 w8 := by rw [hw8]; exact (Ext.refl _).drewN _
    clear hw8
    have hra := (hPR.ext (hE7.trans hE8)).row
    have hrb := (hQR.ext (hE7.trans hE8)).row
    obtain ⟨i0, hi0, hz0, hz1, hz2⟩ := info_parts info_u8
    have heq := run_eql_by8 (P := Try.prog) w8 36 Try.underlying36 Try.underlying5 hi0 hz1 (padTo 123 xs) (padTo 123 ys) (padTo_len hxl) (padTo_len hyl)
    have hia : (Try.prog.info? 36).map (·.size) = some (by8 (padTo 123 xs)).toArray.size := by rw [info_body]; simp [by8_len, padTo_len hxl]
    have hib : (Try.prog.info? 36).map (·.size) = some (by8 (padTo 123 ys)).toArray.size := by rw [info_body]; simp [by8_len, padTo_len hyl]
    have HIA := hide hia
    have HIB := hide hib
    have HRA := hide hra
    have HRB := hide hrb
    clear hia hib hra hrb
    by_cases hp : padTo 123 xs = padTo 123 ys
    · rw [decide_eq_true ((seal_alike hxl hyl).2 ⟨rfl, hp⟩)]
      rw [decide_eq_true hp] at heq
      clear hp
      go_wp2_with (first
        | (with_reducible refine wpList_ldarr (o := ⟨some 72, _, _, _, _, _⟩) 36 (.tmp 13) rfl ?ha1 w2.heap.size rfl 36 _ HRA.out Try.underlying36 HIA.out ?_; case ha1 => go_simp)
        | (with_reducible refine wpList_ldarr (o := ⟨some 73, _, _, _, _, _⟩) 36 (.tmp 14) rfl ?hb1 w3.heap.size rfl 36 _ HRB.out Try.underlying36 HIB.out ?_; case hb1 => go_simp)
        | (go_at_call 15; refine (law2_awake _).mono ?_; rintro e w9 ⟨rfl, hE9⟩))
      go_ret
      exact ⟨rfl, hE1.trans (hE2.trans (hE6.trans (hE7.trans (hE8.trans hE9))))⟩
    · rw [decide_eq_false (fun h => hp ((seal_alike hxl hyl).1 h).2)]
      rw [decide_eq_false hp] at heq
      clear hp
      go_wp2_with (first
        | (with_reducible refine wpList_ldarr (o := ⟨some 72, _, _, _, _, _⟩) 36 (.tmp 13) rfl ?ha2 w2.heap.size rfl 36 _ HRA.out Try.underlying36 HIA.out ?_; case ha2 => go_simp)
        | (with_reducible refine wpList_ldarr (o := ⟨some 73, _, _, _, _, _⟩) 36 (.tmp 14) rfl ?hb2 w3.heap.size rfl 36 _ HRB.out Try.underlying36 HIB.out ?_; case hb2 => go_simp)
        | (go_at_call 15; refine (law2_awake _).mono ?_; rintro e w9 ⟨rfl, hE9⟩))
      go_ret
      exact ⟨rfl, hE1.trans (hE2.trans (hE6.trans (hE7.trans (hE8.trans hE9))))⟩
  · have c1 : ((j : Int) == (k : Int)) = false := by simp; omega
    refine (seal_Open_no k _ _ _ _ _ hO16.sl hbs (Or.inr (by rw [kindOf_sealOf hxl (by omega)]; exact hjk))).mono ?_
    rintro e w7 ⟨rfl, hE7⟩
    go_wp2_with fail
    refine (SameBytes _ _ _ _ _ _ _ _ _ (hO16.ext hE7).sl (hO26.ext hE7).sl hbs hbs2).mono ?_
    rintro e w8 ⟨rfl, j8, hw8⟩
    have hE8 : Ext w7 w8 := by rw [hw8]; exact (Ext.refl _).drewN _
    clear hw8
    rw [decide_eq_false (fun h => hjk ((seal_alike hxl hyl).1 h).1)]
    clear hjk
    go_wp2_with (go_at_call 15; refine (law2_awake _).mono ?_; rintro e w9 ⟨rfl, hE9⟩)
    go_ret
    exact ⟨rfl, hE1.trans (hE2.trans (hE6.trans (hE7.trans (hE8.trans hE9))))⟩

set_option maxRecDepth 100000 in
set_option maxHeartbeats 1000000 in
theorem law_SealPads (w : World) (k : Nat) (hk : k < 256) (A : Option Addr) (n c : Nat) (xs : List Nat) (h : Sl w A n c (by8 xs)) (hb : Bytes xs) (z : Int) (_hz1 : -9223372036854775808 ≤ z) (_hz2 : z ≤ 9223372036854775807) :
    Calls Try.prog 6 #[.int .u8 k, .slice A n c, .int .i64 z] w fun e w' => e = .returned (.bool true) ∧ Ext w w' := by
  have hl : xs.length = n := by have := h.len; rwa [by8_len] at this
  by_cases b1 : (123 : Int) < n
  · clear hl
    go_enter Try.func6, Try.ntmps6
    go_wp2_with (go_at_call 15; refine (law2_awake _).mono ?_; rintro e w1 ⟨rfl, hE1⟩)
    go_ret
    exact ⟨rfl, hE1⟩
  by_cases b2 : k = 0
  · subst b2
    clear hl
    go_enter Try.func6, Try.ntmps6
    go_wp2_with (go_at_call 15; refine (law2_awake _).mono ?_; rintro e w1 ⟨rfl, hE1⟩)
    go_ret
    exact ⟨rfl, hE1⟩
  have b3 : ((k : Int) == 0) = false := by simp; omega
  have hxl : xs.length ≤ 123 := by omega
  have HL := hide hl
  clear hl
  go_enter Try.func6, Try.ntmps6
  go_wp2_with fail
  refine (Low z _ (123 - n + 1) _ (by omega) (by omega) (by omega)).mono ?_
  rintro e w1 ⟨rfl, rfl⟩
  have hq := low_lt z (n := 123 - n + 1) (by omega)
  generalize low z (123 - n + 1) = q at *
  go_wp2_with fail
  refine (seal_Seal k _ _ _ xs _ h hb (by omega) hk (by omega)).mono ?_
  rintro e w1 ⟨g1, c1, rfl, hO1, hE1⟩
  go_wp2_with (first
    | (at_builtin; refine app8 rfl (.const (.slice none 0 0)) (.tmp 37) rfl w1.heap.size none 0 0 [] rfl (Own.nilS _ _ _) _ n c _ rfl (h.ext hE1) (by omega) (Nat.le_refl _) ?_; intro A2 c2 w2 hO2 hG2
       simp only [Nat.zero_add, List.nil_append] at hO2 hG2
       have hE2 : Ext w1 w2 := (Ext.refl _).grown hG2 (by simp [Value.ownBlock]))
    | (at_builtin; refine app8z rfl (.tmp 38) (.tmp 39) rfl w1.heap.size A2 n c2 _ rfl hO2 _ q rfl rfl (by omega) hE2.size ?_; intro A3 c3 w3 hO3 hG3
       have hE3 : Ext w1 w3 := hE2.grown hG3 (fun k hk => (hO2.block k hk).1)))
  have hbx : Bytes (xs ++ List.replicate q 0) := hb.append (Bytes.rep q)
  have hO4 : Own w3 w1.heap.size 5 A3 (n + q) c3 (by8 (xs ++ List.replicate q 0)) := by
    rw [by8_append, ← by8_rep']; exact hO3
  have hxq : (xs ++ List.replicate q 0).length ≤ 123 := by simp [HL.out]; omega
  have hpq : sealOf k (xs ++ List.replicate q 0) = sealOf k xs := by
    have e : padTo 123 (xs ++ List.replicate q 0) = padTo 123 xs := by
      unfold padTo
      rw [List.append_assoc, List.replicate_append_replicate]
      congr 2
      simp [HL.out]; omega
    unfold sealOf; rw [e]
  refine (seal_Seal k _ _ _ _ _ hO4.sl hbx (by omega) hk (by omega)).mono ?_
  rintro e w4 ⟨g4, c4, rfl, hO5, hE4⟩
  rw [hpq] at hO5
  have hbs : Bytes (sealOf k xs) := Bytes.sealOf hk hb
  have hKO : kindOf (sealOf k xs) = k := kindOf_sealOf hxl (by omega)
  have HK := hide hKO
  clear hKO hpq
  go_wp2_with fail
  refine (seal_Open k _ _ _ _ _ (hO1.ext (hE3.trans hE4)).sl hbs (by omega) HK.out).mono ?_
  rintro e w5 ⟨g5, c5, rfl, hO6, hE5⟩
  rw [bodyOf_sealOf hxl] at hO6
  go_wp2_with fail
  refine (seal_Seal k _ _ _ _ _ hO6.sl hb.pad (by omega) hk (by omega)).mono ?_
  rintro e w6 ⟨g6, c6, rfl, hO7, hE6⟩
  rw [sealOf_pad hxl] at hO7
  have hA6 := hO1.ext (hE3.trans (hE4.trans (hE5.trans hE6)))
  go_wp2_with fail
  refine (SameBytes _ _ _ _ _ _ _ _ _ hA6.sl (hO5.ext (hE5.trans hE6)).sl hbs hbs).mono ?_
  rintro e w7 ⟨rfl, j7, hw7⟩
  have hE7 : Ext w6 w7 := by rw [hw7]; exact (Ext.refl _).drewN _
  clear hw7
  rw [decide_eq_true (rfl : sealOf k xs = sealOf k xs)]
  go_wp2_with fail
  refine (SameBytes _ _ _ _ _ _ _ _ _ (hA6.ext hE7).sl (hO7.ext hE7).sl hbs hbs).mono ?_
  rintro e w8 ⟨rfl, j8, hw8⟩
  have hE8 : Ext w7 w8 := by rw [hw8]; exact (Ext.refl _).drewN _
  clear hw8
  rw [decide_eq_true (rfl : sealOf k xs = sealOf k xs)]
  have hc0 : w8.cell? ⟨g1, 0, none⟩ = some (.int .u8 (k : Int)) := by
    rw [(hA6.ext (hE7.trans hE8)).cellAt 0 (by omega)]
    simp only [by8, List.getElem?_map, sealOf_zero]
    rfl
  go_wp2_with fail
  refine (seal_Kind _ _ _ _ _ (hO7.ext (hE7.trans hE8)).sl hbs).mono ?_
  rintro e w9 ⟨rfl, hE9⟩
  rw [HK.out]
  go_wp2_with (go_at_call 15; refine (law2_awake _).mono ?_; rintro e w10 ⟨rfl, hE10⟩)
  go_ret
  exact ⟨rfl, hE1.trans (hE3.trans (hE4.trans (hE5.trans (hE6.trans (hE7.trans (hE8.trans (hE9.trans hE10)))))))⟩
end Go.Proofs.Ythfkacgehdfciaa
