/- The statements on sealed sectors. -/
import Derived.Test.YthfkacgehdfciaaSealW
import Derived.Test.YthfkacgehdfciaaSum
namespace Go.Proofs.Ythfkacgehdfciaa
open Go.RowKit

set_option maxHeartbeats 1000000 in
theorem law2_awake (w : World) : Calls Try.prog 15 #[] w fun e w' => e = .returned (.bool true) ∧ Ext w w' := by
  have hb5 : Bytes [5] := Bytes.cons (by omega) Bytes.nil
  go_enter Try.func15, Try.ntmps15
  go_wp2_with fail
  have hE0 : Ext w (w.alloc (.cells #[.int .u8 5] 5)) := (Ext.refl w).alloc _
  refine (seal_Seal 68 _ 1 1 [5] _ (Sl.lit w #[.int .u8 5] 5 1 rfl (by omega) (by simp [Value.oneCell'])) hb5 (by omega) (by omega) (by omega)).mono ?_
  rintro e w1 ⟨g, c1, rfl, hO1, hE1'⟩
  have hE1 := hE0.trans hE1'
  clear hE1'
  go_wp2_with fail
  have hbs : Bytes (sealOf 68 [5]) := Bytes.sealOf (by omega) hb5
  have hk : kindOf (sealOf 68 [5]) = 68 := kindOf_sealOf (by simp) (by omega)
  have HK := hide hk
  clear hk
  refine (seal_Open 68 _ 128 c1 _ _ hO1.sl hbs (by omega) HK.out).mono ?_
  rintro e w2 ⟨g2, c2, rfl, hO2, hE2⟩
  go_wp2_with fail
  refine (seal_Open_no 69 _ 128 c1 _ _ (hO1.ext hE2).sl hbs (Or.inr (by rw [HK.out]; omega))).mono ?_
  rintro e w3 ⟨rfl, hE3⟩
  have hc : w3.cell? ⟨g2, 0, none⟩ = some (.int .u8 5) := by
    rw [(hO2.ext hE3).cellAt 0 (by omega), bodyOf_sealOf (by simp)]
    rfl
  go_wp2_with fail
  refine (seal_Kind _ _ _ _ _ (hO1.ext (hE2.trans hE3)).sl hbs).mono ?_
  rintro e w4 ⟨rfl, hE4⟩
  rw [HK.out]
  go_wp2
  go_ret
  exact ⟨rfl, hE1.trans (hE2.trans (hE3.trans hE4))⟩

set_option maxHeartbeats 1000000 in
theorem law_SealTells (w : World) (k : Nat) (hk : k < 256) (A : Option Addr) (n c : Nat) (xs : List Nat) (h : Sl w A n c (by8 xs)) (hb : Bytes xs) (A2 : Option Addr) (m c2 : Nat) (ys : List Nat) (h2 : Sl w A2 m c2 (by8 ys)) (hb2 : Bytes ys) :
    Calls Try.prog 3 #[.int .u8 k, .slice A n c, .slice A2 m c2] w fun e w' => e = .returned (.bool true) ∧ Ext w w' := by
  by_cases hbig : 300 < n ∨ 300 < m
  · by_cases hn : 300 < n
    · have hI : (300 : Int) < n := by omega
      go_enter Try.func3, Try.ntmps3
      go_wp2_with (go_at_call 15; refine (law2_awake _).mono ?_; rintro e w1 ⟨rfl, hE1⟩)
      go_ret
      exact ⟨rfl, hE1⟩
    · have hI : ¬ (300 : Int) < n := by omega
      have hI2 : (300 : Int) < m := by omega
      go_enter Try.func3, Try.ntmps3
      go_wp2_with (go_at_call 15; refine (law2_awake _).mono ?_; rintro e w1 ⟨rfl, hE1⟩)
      go_ret
      exact ⟨rfl, hE1⟩
  · have hI : ¬ (300 : Int) < n := by omega
    have hI2 : ¬ (300 : Int) < m := by omega
    have hn : n ≤ 300 := by omega
    have hm : m ≤ 300 := by omega
    clear hbig
    go_enter Try.func3, Try.ntmps3
    go_wp2_with fail
    refine (LendBytes _ _ _ _ _ h (by omega)).mono ?_
    rintro e w1 ⟨g1, rfl, hL1, hE1⟩
    go_wp2_with fail
    refine (LendBytes _ _ _ _ _ (h2.ext hE1) (by omega)).mono ?_
    rintro e w2 ⟨g2, rfl, hL2, hE2⟩
    have hS1 : Sl w2 (some ⟨g1, 0, none⟩) n (n + 3) (by8 xs) := by
      have := (hL1.ext hE2).sl.pre (m := n) (by omega)
      rw [by8_take, List.take_append_of_le_length (by have := h.len; rw [by8_len] at this; omega), List.take_of_length_le (by have := h.len; rw [by8_len] at this; omega)] at this
      exact this
    have hS2 : Sl w2 (some ⟨g2, 0, none⟩) m (m + 3) (by8 ys) := by
      have := hL2.sl.pre (m := m) (by omega)
      rw [by8_take, List.take_append_of_le_length (by have := h2.len; rw [by8_len] at this; omega), List.take_of_length_le (by have := h2.len; rw [by8_len] at this; omega)] at this
      exact this
    have hF2 : Ext w w2 := hE1.trans hE2
    go_wp2_with fail
    refine (seal_Seal_any k _ _ _ xs _ hS1 hb hk).mono ?_
    rintro e w3 ⟨Ax, nx, cx, rfl, hnx, hOx, hE3⟩
    go_wp2_with fail
    refine (ref_Seal_any k _ _ _ xs _ (h.ext (hF2.trans hE3)) hb hk).mono ?_
    rintro e w4 ⟨Ay, ny, cy, rfl, hny, hOy, hE4⟩
    go_wp2_with fail
    have hF4 : Ext w2 w4 := hE3.trans hE4
    refine (seal_Open_any k _ _ _ ys _ (hS2.ext hF4) hb2).mono ?_
    rintro e w5 ⟨Au, nu, cu, rfl, hnu, hOu, hE5⟩
    go_wp2_with fail
    have hF5 : Ext w2 w5 := hF4.trans hE5
    refine (ref_Open_any k _ _ _ ys _ (h2.ext (hF2.trans hF5)) hb2).mono ?_
    rintro e w6 ⟨Av, nv, cv, rfl, hnv, hOv, hE6⟩
    have hF6 : Ext w2 w6 := hF5.trans hE6
    go_wp2_with fail
    refine (SameBytes _ _ _ _ _ _ _ _ _ (hOx.ext (hE4.trans (hE5.trans hE6))).sl (hOy.ext (hE5.trans hE6)).sl (Bytes.sealL hk hb) (Bytes.sealL hk hb)).mono ?_
    rintro e w7 ⟨rfl, j7, hw7⟩
    have hE7 : Ext w6 w7 := by rw [hw7]; exact (Ext.refl _).drewN _
    clear hw7
    rw [decide_eq_true (rfl : sealL k xs = sealL k xs)]
    go_wp2_with fail
    refine (SameBytes _ _ _ _ _ _ _ _ _ (hOu.ext (hE6.trans hE7)).sl (hOv.ext hE7).sl (Bytes.openL hb2) (Bytes.openL hb2)).mono ?_
    rintro e w8 ⟨rfl, j8, hw8⟩
    have hE8 : Ext w7 w8 := by rw [hw8]; exact (Ext.refl _).drewN _
    clear hw8
    rw [decide_eq_true (rfl : openL k ys = openL k ys)]
    have hF8 : Ext w2 w8 := hF6.trans (hE7.trans hE8)
    go_wp2_with fail
    refine (seal_Kind _ _ _ ys _ (hS2.ext hF8) hb2).mono ?_
    rintro e w9 ⟨rfl, hE9⟩
    have hF9 : Ext w2 w9 := hF8.trans hE9
    go_wp2_with fail
    refine (ref_Kind _ _ _ ys _ (h2.ext (hF2.trans hF9)) hb2).mono ?_
    rintro e w10 ⟨rfl, hE10⟩
    have hF10 : Ext w2 w10 := hF9.trans hE10
    go_wp2_with fail
    refine (seal_Sum _ _ _ ys _ (hS2.ext hF10) hb2).mono ?_
    rintro e w11 ⟨rfl, rfl⟩
    go_wp2_with fail
    refine (ref_Sum _ _ _ ys _ (h2.ext (hF2.trans hF10)) hb2).mono ?_
    rintro e w11 ⟨rfl, rfl⟩
    go_wp2_with fail
    have hX8 : Ext w3 w10 := hE4.trans (hE5.trans (hE6.trans (hE7.trans (hE8.trans (hE9.trans hE10)))))
    have hU8 : Ext w5 w10 := hE6.trans (hE7.trans (hE8.trans (hE9.trans hE10)))
    refine (OverBytes _ _ _ _ _ _ (hOx.ext hX8) (by have := hF10.size; omega) (by omega)).mono ?_
    rintro e w11 ⟨rfl, hG11⟩
    have hF11 : Ext w2 w11 := hF10.grown hG11 (fun q hq => (hOx.block q hq).1)
    have hOu11 := (hOu.ext hU8).kept hG11 (fun a ha => by
      intro he
      subst ha
      have h1 := hOx.block _ he.symm
      have h2 := hOu.block a.block rfl
      have h3 := hE4.size
      omega)
    go_wp2_with fail
    refine (OverBytes _ _ _ _ _ _ hOu11 (by have := hG11.size; have := hF10.size; have := hU8.size; have := hE5.size; omega) (by omega)).mono ?_
    rintro e w12 ⟨rfl, hG12⟩
    have hF12 : Ext w2 w12 := hF11.grown hG12 (fun q hq => by have := (hOu11.block q hq).1; have := hF4.size; omega)
    go_wp2_with fail
    refine (KeptBytes _ _ _ _ _ _ _ _ _ (hL1.ext (hE2.trans hF12)).sl (by have := h.len; rwa [by8_len] at this) (by omega) (h.ext (hF2.trans hF12)) hb hb).mono ?_
    rintro e w13 ⟨rfl, j13, hw13⟩
    have hE13 : Ext w12 w13 := by rw [hw13]; exact (Ext.refl _).drewN _
    clear hw13
    rw [decide_eq_true (rfl : xs = xs)]
    have hF13 : Ext w2 w13 := hF12.trans hE13
    go_wp2_with fail
    refine (KeptBytes _ _ _ _ _ _ _ _ _ (hL2.ext hF13).sl (by have := h2.len; rwa [by8_len] at this) (by omega) (h2.ext (hF2.trans hF13)) hb2 hb2).mono ?_
    rintro e w14 ⟨rfl, j14, hw14⟩
    have hE14 : Ext w13 w14 := by rw [hw14]; exact (Ext.refl _).drewN _
    clear hw14
    rw [decide_eq_true (rfl : ys = ys)]
    go_wp2_with fail
    refine (law2_awake _).mono ?_
    rintro e w15 ⟨rfl, hE15⟩
    go_wp2
    go_ret
    exact ⟨rfl, hF2.trans (hF13.trans (hE14.trans hE15))⟩
set_option maxRecDepth 100000 in
set_option maxHeartbeats 1000000 in
theorem law_SealBack (w : World) (k : Nat) (hk : k < 256) (A : Option Addr) (n c : Nat) (xs : List Nat) (h : Sl w A n c (by8 xs)) (hb : Bytes xs) (bit : Int) (_hb1 : -9223372036854775808 ≤ bit) (_hb2 : bit ≤ 9223372036854775807) :
    Calls Try.prog 4 #[.int .u8 k, .slice A n c, .int .i64 bit] w fun e w' => e = .returned (.bool true) ∧ Ext w w' := by
  have hl : xs.length = n := by have := h.len; rwa [by8_len] at this
  by_cases hn : 123 < n
  · have hI : (123 : Int) < n := by omega
    clear hl
    go_enter Try.func4, Try.ntmps4
    go_wp2_with (go_at_call 15; refine (law2_awake _).mono ?_; rintro e w1 ⟨rfl, hE1⟩)
    go_ret
    exact ⟨rfl, hE1⟩
  by_cases hk0 : k = 0
  · subst hk0
    have hI : ¬ (123 : Int) < n := by omega
    clear hl
    go_enter Try.func4, Try.ntmps4
    go_wp2_with fail
    refine (seal_Seal_no 0 _ _ _ _ (Or.inl rfl) (by omega)).mono ?_
    rintro e w1 ⟨rfl, rfl⟩
    go_wp2_with (go_at_call 15; refine (law2_awake _).mono ?_; rintro e w1 ⟨rfl, hE1⟩)
    go_ret
    exact ⟨rfl, hE1⟩
  have hI : ¬ (123 : Int) < n := by omega
  have hk1 : ((k : Int) == 0) = false := by simp; omega
  have HL := hide hl
  clear hl
  go_enter Try.func4, Try.ntmps4
  go_wp2_with fail
  refine (seal_Seal k _ _ _ xs _ h hb (by omega) hk (by omega)).mono ?_
  rintro e w1 ⟨g1, c1, rfl, hO1, hE1⟩
  have hxl : xs.length ≤ 123 := by rw [HL.out]; omega
  have hbs : Bytes (sealOf k xs) := Bytes.sealOf hk hb
  go_wp2_with fail
  refine (seal_Open k _ _ _ _ _ hO1.sl hbs (by omega) (kindOf_sealOf hxl (by omega))).mono ?_
  rintro e w2 ⟨g2, c2, rfl, hO2, hE2⟩
  rw [bodyOf_sealOf hxl] at hO2
  have hS2 : Sl w2 (some ⟨g2, 0, none⟩) n c2 (by8 xs) := by
    have := hO2.sl.pre (m := n) (by omega)
    rw [by8_take] at this
    unfold padTo at this
    rw [List.take_append_of_le_length (by rw [HL.out]; omega), List.take_of_length_le (by rw [HL.out]; omega)] at this
    exact this
  have hnc2 : 123 ≤ c2 := hO2.sl.nc
  have hnI : (n : Int) ≤ c2 := by omega
  go_wp2_with fail
  refine (SameBytes _ _ _ _ _ _ _ _ _ hS2 (h.ext (hE1.trans hE2)) hb hb).mono ?_
  rintro e w3 ⟨rfl, j3, hw3⟩
  have hE3 : Ext w2 w3 := by rw [hw3]; exact (Ext.refl _).drewN _
  clear hw3
  rw [decide_eq_true (rfl : xs = xs)]
  have hO3 := hO2.ext hE3
  go_wp2
  have hZ : ∀ i, n ≤ i → i < 123 → w3.cell? ⟨g2, i, none⟩ = some (.int .u8 0) := by
    intro i h1 h2
    rw [hO3.cellAt i h2]
    simp only [by8, List.getElem?_map, pad_zero (n := 123) (xs := xs) (i := i) (by rw [HL.out]; exact h1) h2]
    rfl
  have HZ := hide hZ
  clear hZ
  go_loop [11] (fun i => ∃ q : Nat, n ≤ q ∧ q ≤ 123 ∧ i = .int .i64 q) (fun i => 123 - (intOf i).toNat)
  case atStart => exact ⟨n, by omega, by omega, rfl⟩
  case round =>
    obtain ⟨q, hq1, hq2, rfl⟩ := hrel
    by_cases hlt : q < 123
    · have hc := HZ.out q hq1 hlt
      go_wp2
      go_round
      case rel => exact ⟨q + 1, by omega, by omega, by go_num⟩
      case measure => simp [intOf]; omega
    · go_wp2_with fail
      refine (Low bit _ 1024 _ rfl (by omega) (by omega)).mono ?_
      rintro e w4 ⟨rfl, rfl⟩
      have hp := low_lt bit (n := 1024) (by omega)
      generalize low bit 1024 = p at *
      have hO4 := hO1.ext (hE2.trans hE3)
      obtain ⟨_, _, x, hA, hx, hc, hx2⟩ := hO4.sl.at8 hbs (k := p / 8) (by omega)
      simp at hA
      obtain ⟨rfl, rfl⟩ := hA
      simp only [Nat.zero_add] at hc
      have hf := hO4.frozenAt (p / 8)
      go_wp2_with fail
      go_region
      go_wp2_with fail
      obtain ⟨y, hy, hxy, hbx⟩ := flip_bit (x := x) (p := p) hx2
      rw [hbx]
      have hO5 := hO4.store (p / 8) (.int .u8 (y : Int)) rfl
      rw [by8_set] at hO5
      have hE5 : Ext w (w3.setCell ⟨g1, p / 8, none⟩ (.int .u8 (y : Int))).drew := ((hE1.trans (hE2.trans hE3)).setCell (hO1.block g1 rfl).1 _).drew
      have hK := kind_flip hbs (by rw [kindOf_sealOf hxl (by omega)]; omega) hx.out hy hxy
      refine (seal_Kind _ _ _ _ _ (hO5.ext (Ext.drew (Ext.refl _))).sl (hbs.set _ hy)).mono ?_
      rintro e w6 ⟨rfl, hE6⟩
      rw [hK]
      go_wp2_with (go_at_call 15; refine (law2_awake _).mono ?_; rintro e w7 ⟨rfl, hE7⟩)
      go_ret
      exact ⟨rfl, hE5.trans (hE6.trans hE7)⟩
end Go.Proofs.Ythfkacgehdfciaa
