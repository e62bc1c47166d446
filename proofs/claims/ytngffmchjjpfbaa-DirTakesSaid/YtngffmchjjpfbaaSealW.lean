/- Contracts of the first package of sectors and of its reference. -/
import Derived.Test.YtngffmchjjpfbaaBase
import Derived.Test.YtngffmchjjpfbaaSeal
namespace Go.Proofs.Ytngffmchjjpfbaa
open Go.RowKit

set_option maxHeartbeats 400000 in
theorem seal_Sum (A : Option Addr) (n c : Nat) (xs : List Nat) (w : World) (h : Sl w A n c (by8 xs)) (hb : Bytes xs) :
    Calls Try.prog 46 #[.slice A n c] w fun e w' => e = .returned (.int .u32 (sumN xs : Nat)) ∧ w = w' := by
  have hl : xs.length = n := by have := h.len; rwa [by8_len] at this
  have hm : n ≤ 9223372036854775807 := Nat.le_trans h.nc h.cm
  have HL := hide hl
  clear hl
  go_enter Try.func46, Try.ntmps46
  go_wp2
  go_loop [3, 8] (fun r i => ∃ k : Nat, k ≤ n ∧ i = .int .i64 k ∧ ∃ s : Nat, Hid ((xs.drop k).foldl stp s = xs.foldl stp 2166136261) ∧ r = .int .u32 s) (fun _ i => n - (intOf i).toNat)
  case atStart => exact ⟨0, by omega, rfl, 2166136261, rfl, rfl⟩
  case round =>
    obtain ⟨k, hk, rfl, s, hs, rfl⟩ := hrel
    by_cases hlt : k < n
    · obtain ⟨b, o, x, rfl, hx, hc, hx2⟩ := h.at8 hb hlt
      go_wp2
      go_round
      case rel => exact ⟨k + 1, by omega, by go_num, stp s x, by have := hs.out; rw [drop_cons hx.out] at this; exact this, by rw [stp_walk']⟩
      case measure => simp [intOf]; omega
    · go_wp2
      go_ret
      have he : (xs.drop k) = [] := List.drop_eq_nil_of_le (by rw [HL.out]; omega)
      have := hs.out
      rw [he] at this
      exact ⟨ret_int (by rw [fin_walk]; unfold sumN; rw [← this]; rfl), rfl⟩

set_option maxHeartbeats 400000 in
theorem ref_Sum (A : Option Addr) (n c : Nat) (xs : List Nat) (w : World) (h : Sl w A n c (by8 xs)) (hb : Bytes xs) :
    Calls Try.prog 47 #[.slice A n c] w fun e w' => e = .returned (.int .u32 (sumN xs : Nat)) ∧ w = w' := by
  have hl : xs.length = n := by have := h.len; rwa [by8_len] at this
  have hm : n ≤ 9223372036854775807 := Nat.le_trans h.nc h.cm
  have HL := hide hl
  clear hl
  go_enter Try.func47, Try.ntmps47
  go_wp2
  go_loop [3, 4] (fun r i => ∃ k : Nat, k ≤ n ∧ i = .int .i64 k ∧ ∃ s : Nat, Hid ((xs.drop k).foldl stp s = xs.foldl stp 2166136261) ∧ r = .int .u32 s) (fun _ i => n - (intOf i).toNat)
  case atStart => exact ⟨0, by omega, rfl, 2166136261, rfl, rfl⟩
  case round =>
    obtain ⟨k, hk, rfl, s, hs, rfl⟩ := hrel
    by_cases hlt : k < n
    · obtain ⟨b, o, x, rfl, hx, hc, hx2⟩ := h.at8 hb hlt
      go_wp2
      go_round
      case rel => exact ⟨k + 1, by omega, by go_num, stp s x, by have := hs.out; rw [drop_cons hx.out] at this; exact this, by rw [stp_walk']⟩
      case measure => simp [intOf]; omega
    · go_wp2
      go_ret
      have he : (xs.drop k) = [] := List.drop_eq_nil_of_le (by rw [HL.out]; omega)
      have := hs.out
      rw [he] at this
      exact ⟨ret_int (by rw [fin_walk]; unfold sumN; rw [← this]; rfl), rfl⟩

set_option maxHeartbeats 400000 in
theorem seal_Seal_no (k : Nat) (A : Option Addr) (n c : Nat) (w : World) (hk : k = 0 ∨ 123 < n) (hn : n ≤ 9223372036854775807) :
    Calls Try.prog 35 #[.int .u8 k, .slice A n c] w fun e w' => e = .returned (.tuple #[.slice none 0 0, .int .i64 2]) ∧ w = w' := by
  by_cases h0 : k = 0
  · subst h0
    go_enter Try.func35, Try.ntmps35
    go_wp2
    go_ret2
    exact ⟨rfl, rfl⟩
  · have h1 : ((k : Int) == 0) = false := by simp; omega
    have h2 : (123 : Int) < n := by omega
    go_enter Try.func35, Try.ntmps35
    go_wp2
    go_ret2
    exact ⟨rfl, rfl⟩

set_option maxHeartbeats 400000 in
theorem seal_Seal (k : Nat) (A : Option Addr) (n c : Nat) (xs : List Nat) (w : World) (h : Sl w A n c (by8 xs)) (hb : Bytes xs) (hk0 : 0 < k) (hk : k < 256) (hn : n ≤ 123) :
    Calls Try.prog 35 #[.int .u8 k, .slice A n c] w fun e w' => ∃ g c', e = .returned (.tuple #[.slice (some ⟨g, 0, none⟩) 128 c', .int .i64 0]) ∧
      Own w' w.heap.size 5 (some ⟨g, 0, none⟩) 128 c' (by8 (sealOf k xs)) ∧ Ext w w' := by
  have h1 : ((k : Int) == 0) = false := by simp; omega
  have hl : xs.length = n := by have := h.len; rwa [by8_len] at this
  have HL := hide hl
  clear hl
  go_enter Try.func35, Try.ntmps35
  go_wp2_with (first
    | (at_make; refine mkl8 rfl _ _ rfl .i64 .i64 124 128 124 128 rfl rfl rfl rfl (by omega) (by omega) w.heap.size (Nat.le_refl _) ?_; intro w1 hO1 hE1; obtain ⟨u0, hu0, hc0⟩ := hO1.elem (j := 0) (by omega); have hf0 := hO1.frozenAt 0)
    | (with_reducible refine cpy8 rfl (.tmp 20) (.tmp 21) rfl w.heap.size w.heap.size 1 123 127 rfl _ n c _ rfl (h.ext (hE1.setCell (Nat.le_refl _) _)) 128 _ (hO1.store 0 (.int .u8 k) rfl) (by omega) ?_; intro w2 hO2 hG2
       have hO3 : Own w2 w.heap.size 5 (some ⟨w.heap.size, 0, none⟩) 128 128 (by8 ((k :: padTo 123 xs) ++ [0, 0, 0, 0])) := by
         rw [← HL.out, seal_row1 k xs (by rw [HL.out]; exact hn)] at hO2; exact hO2
       have hO4 : Own w2 w.heap.size 5 (some ⟨w.heap.size, 0, none⟩) 124 128 (by8 (k :: padTo 123 xs)) := by
         have := hO3.pre (m := 124) (by omega)
         rw [by8_take, List.take_append_of_le_length (by simp [padTo_len (show xs.length ≤ 123 from by rw [HL.out]; exact hn)]), List.take_of_length_le (by simp [padTo_len (show xs.length ≤ 123 from by rw [HL.out]; exact hn)])] at this
         exact this
       have hE2 : Ext w w2 := (hE1.setCell (Nat.le_refl _) _).grown hG2 (by simp))
    | (go_at_call 46; refine (seal_Sum _ _ _ _ _ hO4.sl (Bytes.cons hk hb.pad)).mono ?_; rintro e w' ⟨rfl, rfl⟩)
    | (at_builtin; refine app8_room rfl (.tmp 25) (.tmp 37) rfl w.heap.size w.heap.size 124 128 _ rfl (hO3.ext ((Ext.refl w2).alloc _)) _ 4 4 _ rfl (Sl.lit w2 _ 5 4 rfl (by omega) (by simp [Value.oneCell'])) (by omega) ?_; intro w3 hO5 hG3))
  go_ret2
  have hO6 : Own w3 w.heap.size 5 (some ⟨w.heap.size, 0, none⟩) 128 128 (by8 (sealOf k xs)) := by
    have e := seal_row2 k xs (by rw [HL.out]; exact hn) (sumN (k :: padTo 123 xs) / 16777216 % 256) (sumN (k :: padTo 123 xs) / 65536 % 256) (sumN (k :: padTo 123 xs) / 256 % 256) (sumN (k :: padTo 123 xs) % 256)
    unfold sealOf be4
    rw [← e]
    simpa [by8] using hO5
  exact ⟨w.heap.size, 128, by simp, hO6, (hE2.alloc _).grown hG3 (by simp)⟩

set_option maxHeartbeats 400000 in
theorem ref_Seal_no (k : Nat) (A : Option Addr) (n c : Nat) (w : World) (hk : k = 0 ∨ 123 < n) (hn : n ≤ 9223372036854775807) :
    Calls Try.prog 37 #[.int .u8 k, .slice A n c] w fun e w' => e = .returned (.tuple #[.slice none 0 0, .int .i64 2]) ∧ w = w' := by
  by_cases h0 : k = 0
  · subst h0
    go_enter Try.func37, Try.ntmps37
    go_wp2
    go_ret2
    exact ⟨rfl, rfl⟩
  · have h1 : ((k : Int) == 0) = false := by simp; omega
    have h2 : (123 : Int) < n := by omega
    go_enter Try.func37, Try.ntmps37
    go_wp2
    go_ret2
    exact ⟨rfl, rfl⟩

set_option maxHeartbeats 400000 in
theorem ref_Seal (k : Nat) (A : Option Addr) (n c : Nat) (xs : List Nat) (w : World) (h : Sl w A n c (by8 xs)) (hb : Bytes xs) (hk0 : 0 < k) (hk : k < 256) (hn : n ≤ 123) :
    Calls Try.prog 37 #[.int .u8 k, .slice A n c] w fun e w' => ∃ g c', e = .returned (.tuple #[.slice (some ⟨g, 0, none⟩) 128 c', .int .i64 0]) ∧
      Own w' w.heap.size 5 (some ⟨g, 0, none⟩) 128 c' (by8 (sealOf k xs)) ∧ Ext w w' := by
  have h1 : ((k : Int) == 0) = false := by simp; omega
  have hl : xs.length = n := by have := h.len; rwa [by8_len] at this
  have HL := hide hl
  clear hl
  go_enter Try.func37, Try.ntmps37
  go_wp2_with (first
    | (at_builtin; refine app8 rfl (.tmp 16) (.tmp 17) rfl w.heap.size _ 1 1 _ rfl (Own.made (Nat.le_refl _) #[.int .u8 k] 1 (by simp [maxLen]) (Nat.le_refl _) rfl (by simp [Value.oneCell'])) _ n c _ rfl (h.ext ((Ext.refl w).alloc _)) (by omega) (by simp) ?_; intro A1 c1 w1 hO1 hG1
       have hE1 : Ext w w1 := ((Ext.refl w).alloc _).grown hG1 (by simp [Value.ownBlock]))
    | (at_builtin; refine app8z rfl (.tmp 19) (.tmp 22) rfl w.heap.size _ (1 + n) c1 _ rfl hO1 _ (123 - n) rfl (by omega) (by omega) hE1.size ?_; intro A2 c2 w2 hO2 hG2
       have hE2 : Ext w w2 := hE1.grown hG2 (fun k hk => (hO1.block k hk).1)))
  have e : 1 + n + (123 - n) = 124 := by omega
  have e2 : by8 (k :: padTo 123 xs) = List.take 1 [Value.int IntKind.u8 (k : Int)] ++ by8 xs ++ List.replicate (123 - n) (Value.int IntKind.u8 0) := by
    simp [padTo, by8, HL.out]
  rw [e] at hO2 ⊢
  have hO3 : Own w2 w.heap.size 5 A2 124 c2 (by8 (k :: padTo 123 xs)) := by rw [e2]; exact hO2
  clear e e2 hO2 hO1
  refine (ref_Sum _ _ _ _ _ hO3.sl (Bytes.cons hk hb.pad)).mono ?_
  rintro e w' ⟨rfl, rfl⟩
  go_wp2_with (at_builtin; refine app8 rfl (.tmp 26) (.tmp 38) rfl w.heap.size _ 124 c2 _ rfl (hO3.ext ((Ext.refl w2).alloc _)) _ 4 4 _ rfl (Sl.lit w2 _ 5 4 rfl (by omega) (by simp [Value.oneCell'])) (by omega) (by have := hE2.size; simp; omega) ?_; intro A3 c3 w3 hO5 hG3)
  have hnc := hO5.sl.nc
  obtain ⟨g, rfl, hgB, hgl⟩ := hO5.head (by omega)
  go_ret2
  have hO6 : Own w3 w.heap.size 5 (some ⟨g, 0, none⟩) 128 c3 (by8 (sealOf k xs)) := by
    unfold sealOf be4
    simpa [by8] using hO5
  exact ⟨g, c3, by simp, hO6, (hE2.alloc _).grown hG3 (fun k hk => (hO3.block k hk).1)⟩

theorem kind_short {xs : List Nat} (h : xs.length ≠ 128) : kindOf xs = 0 := by unfold kindOf; rw [if_neg (fun h' => h h'.1)]
theorem kind_zero {xs : List Nat} (h : xs[0]? = some 0) : kindOf xs = 0 := by unfold kindOf; rw [if_neg (fun h' => h'.2.1 (by simp [h]))]
theorem kind_yes {xs : List Nat} {k : Nat} (h : xs[0]? = some k) (hl : xs.length = 128) (hk : 0 < k) (hs : sealOf k (bodyOf xs) = xs) : kindOf xs = k := by
  have e : xs.getD 0 0 = k := by simp [h]
  unfold kindOf
  rw [e, if_pos ⟨hl, by omega, hs⟩]
theorem kind_no {xs : List Nat} {k : Nat} (h : xs[0]? = some k) (hs : ¬ sealOf k (bodyOf xs) = xs) : kindOf xs = 0 := by
  have e : xs.getD 0 0 = k := by simp [h]
  unfold kindOf
  rw [e, if_neg (fun h' => hs h'.2.2)]
theorem kindOf_lt {xs : List Nat} (hb : Bytes xs) : kindOf xs < 256 := by
  unfold kindOf
  split
  · rcases hx : xs[0]? with _ | k
    · simp [hx]
    · have := hb.get hx
      simp [hx]; omega
  · omega

set_option maxHeartbeats 400000 in
theorem seal_Kind (A : Option Addr) (n c : Nat) (xs : List Nat) (w : World) (h : Sl w A n c (by8 xs)) (hb : Bytes xs) :
    Calls Try.prog 48 #[.slice A n c] w fun e w' => e = .returned (.int .u8 (kindOf xs : Nat)) ∧ Ext w w' := by
  have hl : xs.length = n := by have := h.len; rwa [by8_len] at this
  have hnc := h.nc
  have hcm := h.cm
  by_cases hn : n = 128
  · subst hn
    obtain ⟨b, o, k, rfl, hx, hc, hk⟩ := h.at8 hb (k := 0) (by omega)
    simp only [Nat.add_zero] at hc
    by_cases hk0 : k = 0
    · subst hk0
      have e := kind_zero hx.out
      have HK := hide e
      clear e hl
      go_enter Try.func48, Try.ntmps48
      go_wp2
      go_ret
      exact ⟨ret_int (by rw [HK.out]; rfl), Ext.refl _⟩
    · have h1 : ((k : Int) == 0) = false := by simp; omega
      have hcut : Sl w (some ⟨b, o + 1, none⟩) 123 (c - 1) (by8 (bodyOf xs)) := by
        have := (h.cut (l := 1) (by omega)).pre (m := 123) (by omega)
        rw [if_neg (by omega), by8_drop, by8_take] at this
        simpa [Addr.add_lit, bodyOf] using this
      have hbb : Bytes (bodyOf xs) := (hb.drop 1).take 123
      have HL := hide hl
      have hcI : (124 : Int) ≤ (c : Int) := by omega
      have hc1 : ¬ c = 1 := by omega
      clear hl
      go_enter Try.func48, Try.ntmps48
      go_wp2_with fail
      go_region_held3 (fun w' => w'.cell? ⟨b, o, none⟩ = some (.int .u8 k)) (first | go_keep | exact hE1.cell hc)
        (first | (go_at_call 35; refine (seal_Seal k _ 123 (c - 1) (bodyOf xs) _ ?_ hbb (by omega) hk (by omega)).mono ?_; (exact hcut.ext (Ext.drew (Ext.refl w))); rintro e w1 ⟨g, c1, rfl, hO1, hE1⟩))
      go_wp2_with fail
      have hE : Ext w w1 := (Ext.drew (Ext.refl w)).trans hE1
      refine (Equal8 _ _ _ _ _ _ _ _ _ hO1.sl (h.ext hE) (Bytes.sealOf hk hbb) hb).mono ?_
      rintro e w2 ⟨rfl, j, rfl⟩
      by_cases hs : sealOf k (bodyOf xs) = xs
      · have e1 : decide (sealOf k (bodyOf xs) = xs) = true := by simpa using hs
        have HK := hide (kind_yes hx.out HL.out (by omega) hs)
        clear hs
        rw [e1]
        clear e1
        have hcj := (hE.drewN j).cell hc
        go_wp2
        go_ret
        exact ⟨ret_int (by rw [HK.out]), hE.drewN j⟩
      · have e1 : decide (sealOf k (bodyOf xs) = xs) = false := by simpa using hs
        have HK := hide (kind_no hx.out hs)
        clear hs
        rw [e1]
        clear e1
        go_wp2
        go_ret
        exact ⟨ret_int (by rw [HK.out]; rfl), hE.drewN j⟩
  · have h1 : ((n : Int) == 128) = false := by simp; omega
    have h2 : ((n : Int) != 128) = true := by simp; omega
    have e := kind_short (xs := xs) (by omega)
    have HK := hide e
    clear e hl
    go_enter Try.func48, Try.ntmps48
    go_wp2
    go_ret
    exact ⟨ret_int (by rw [HK.out]; rfl), Ext.refl _⟩
set_option maxHeartbeats 400000 in
theorem ref_Kind (A : Option Addr) (n c : Nat) (xs : List Nat) (w : World) (h : Sl w A n c (by8 xs)) (hb : Bytes xs) :
    Calls Try.prog 50 #[.slice A n c] w fun e w' => e = .returned (.int .u8 (kindOf xs : Nat)) ∧ Ext w w' := by
  have hl : xs.length = n := by have := h.len; rwa [by8_len] at this
  have hnc := h.nc
  have hcm := h.cm
  by_cases hn : n = 128
  · subst hn
    obtain ⟨b, o, k, rfl, hx, hc, hk⟩ := h.at8 hb (k := 0) (by omega)
    simp only [Nat.add_zero] at hc
    by_cases hk0 : k = 0
    · subst hk0
      have e := kind_zero hx.out
      have HK := hide e
      clear e hl
      go_enter Try.func50, Try.ntmps50
      go_wp2
      go_ret
      exact ⟨ret_int (by rw [HK.out]; rfl), Ext.refl _⟩
    · have h1 : ((k : Int) == 0) = false := by simp; omega
      have hcut : Sl w (some ⟨b, o + 1, none⟩) 123 (c - 1) (by8 (bodyOf xs)) := by
        have := (h.cut (l := 1) (by omega)).pre (m := 123) (by omega)
        rw [if_neg (by omega), by8_drop, by8_take] at this
        simpa [Addr.add_lit, bodyOf] using this
      have hbb : Bytes (bodyOf xs) := (hb.drop 1).take 123
      have HL := hide hl
      have hcI : (124 : Int) ≤ (c : Int) := by omega
      have hc1 : ¬ c = 1 := by omega
      clear hl
      go_enter Try.func50, Try.ntmps50
      go_wp2_with fail
      go_region_held3 (fun w' => w'.cell? ⟨b, o, none⟩ = some (.int .u8 k)) (first | go_keep | exact hE1.cell hc)
        (first | (go_at_call 37; refine (ref_Seal k _ 123 (c - 1) (bodyOf xs) _ ?_ hbb (by omega) hk (by omega)).mono ?_; (exact hcut.ext (Ext.drew (Ext.refl w))); rintro e w1 ⟨g, c1, rfl, hO1, hE1⟩))
      have hE : Ext w w1 := (Ext.drew (Ext.refl w)).trans hE1
      have hcv1 := str8 hO1.sl
      have hcv2 := str8 (h.ext hE)
      by_cases hs : sealOf k (bodyOf xs) = xs
      · have e1 : ((strN (sealOf k (bodyOf xs))).toList == (strN xs).toList) = true := by rw [strN_eq (Bytes.sealOf hk hbb) hb]; simpa using hs
        have HK := hide (kind_yes hx.out HL.out (by omega) hs)
        clear hs
        have hcj := hE.cell hc
        go_wp2
        go_ret
        exact ⟨ret_int (by rw [HK.out]), hE⟩
      · have e1 : ((strN (sealOf k (bodyOf xs))).toList == (strN xs).toList) = false := by rw [strN_eq (Bytes.sealOf hk hbb) hb]; simpa using hs
        have HK := hide (kind_no hx.out hs)
        clear hs
        go_wp2
        go_ret
        exact ⟨ret_int (by rw [HK.out]; rfl), hE⟩
  · have h1 : ((n : Int) == 128) = false := by simp; omega
    have h2 : ((n : Int) != 128) = true := by simp; omega
    have e := kind_short (xs := xs) (by omega)
    have HK := hide e
    clear e hl
    go_enter Try.func50, Try.ntmps50
    go_wp2
    go_ret
    exact ⟨ret_int (by rw [HK.out]; rfl), Ext.refl _⟩
set_option maxHeartbeats 400000 in
theorem seal_Open_no (k : Nat) (A : Option Addr) (n c : Nat) (xs : List Nat) (w : World) (h : Sl w A n c (by8 xs)) (hb : Bytes xs) (hk : k = 0 ∨ kindOf xs ≠ k) :
    Calls Try.prog 39 #[.int .u8 k, .slice A n c] w fun e w' => e = .returned (.tuple #[.slice none 0 0, .int .i64 3]) ∧ Ext w w' := by
  by_cases h0 : k = 0
  · subst h0
    go_enter Try.func39, Try.ntmps39
    go_wp2
    go_ret2
    exact ⟨rfl, Ext.refl _⟩
  · have h1 : ((k : Int) == 0) = false := by simp; omega
    have h2 : ((kindOf xs : Int) != (k : Int)) = true := by simp; omega
    have h3 : ((kindOf xs : Int) == (k : Int)) = false := by simp; omega
    clear hk
    go_enter Try.func39, Try.ntmps39
    go_wp2_with (go_at_call 48; refine (seal_Kind _ _ _ _ _ h hb).mono ?_; rintro e w1 ⟨rfl, hE1⟩)
    go_ret2
    exact ⟨rfl, hE1⟩

set_option maxHeartbeats 400000 in
theorem seal_Open (k : Nat) (A : Option Addr) (n c : Nat) (xs : List Nat) (w : World) (h : Sl w A n c (by8 xs)) (hb : Bytes xs) (hk0 : 0 < k) (hk : kindOf xs = k) :
    Calls Try.prog 39 #[.int .u8 k, .slice A n c] w fun e w' => ∃ g c', e = .returned (.tuple #[.slice (some ⟨g, 0, none⟩) 123 c', .int .i64 0]) ∧
      Own w' w.heap.size 5 (some ⟨g, 0, none⟩) 123 c' (by8 (bodyOf xs)) ∧ Ext w w' := by
  have hl : xs.length = n := by have := h.len; rwa [by8_len] at this
  have hn : n = 128 := by
    have := hk
    unfold kindOf at this
    split at this
    · rename_i hh; omega
    · omega
  subst hn
  have hnc := h.nc
  have hcm := h.cm
  obtain ⟨b, o, x, rfl, hx, hc, hx2⟩ := h.at8 hb (k := 0) (by omega)
  have hcut : Sl w (some ⟨b, o + 1, none⟩) 123 (c - 1) (by8 (bodyOf xs)) := by
    have := (h.cut (l := 1) (by omega)).pre (m := 123) (by omega)
    rw [if_neg (by omega), by8_drop, by8_take] at this
    simpa [Addr.add_lit, bodyOf] using this
  have h1 : ((k : Int) == 0) = false := by simp; omega
  have hcI : (124 : Int) ≤ (c : Int) := by omega
  have hc1 : ¬ c = 1 := by omega
  have HK := hide hk
  clear hl hk hc
  go_enter Try.func39, Try.ntmps39
  go_wp2_with fail
  refine (seal_Kind _ _ _ _ _ h hb).mono ?_
  rintro e w1 ⟨rfl, hE1⟩
  rw [HK.out]
  go_wp2_with (go_at_call 49; refine (Clone8 _ _ _ _ _ (hcut.ext hE1) (by omega)).mono ?_; rintro e w2 ⟨A2, c2, rfl, hO2, hE2⟩)
  have hnc2 := hO2.sl.nc
  obtain ⟨g, rfl, hgB, hgl⟩ := hO2.head (by omega)
  go_ret2
  exact ⟨g, c2, by simp, hO2.low hE1.size, hE1.trans hE2⟩

set_option maxHeartbeats 400000 in
theorem ref_Open_no (k : Nat) (A : Option Addr) (n c : Nat) (xs : List Nat) (w : World) (h : Sl w A n c (by8 xs)) (hb : Bytes xs) (hk : k = 0 ∨ kindOf xs ≠ k) :
    Calls Try.prog 43 #[.int .u8 k, .slice A n c] w fun e w' => e = .returned (.tuple #[.slice none 0 0, .int .i64 3]) ∧ Ext w w' := by
  by_cases h0 : k = 0
  · subst h0
    go_enter Try.func43, Try.ntmps43
    go_wp2
    go_ret2
    exact ⟨rfl, Ext.refl _⟩
  · have h1 : ((k : Int) == 0) = false := by simp; omega
    have h2 : ((kindOf xs : Int) != (k : Int)) = true := by simp; omega
    have h3 : ((kindOf xs : Int) == (k : Int)) = false := by simp; omega
    clear hk
    go_enter Try.func43, Try.ntmps43
    go_wp2_with (go_at_call 50; refine (ref_Kind _ _ _ _ _ h hb).mono ?_; rintro e w1 ⟨rfl, hE1⟩)
    go_ret2
    exact ⟨rfl, hE1⟩

set_option maxHeartbeats 400000 in
theorem ref_Open (k : Nat) (A : Option Addr) (n c : Nat) (xs : List Nat) (w : World) (h : Sl w A n c (by8 xs)) (hb : Bytes xs) (hk0 : 0 < k) (hk : kindOf xs = k) :
    Calls Try.prog 43 #[.int .u8 k, .slice A n c] w fun e w' => ∃ g c', e = .returned (.tuple #[.slice (some ⟨g, 0, none⟩) 123 c', .int .i64 0]) ∧
      Own w' w.heap.size 5 (some ⟨g, 0, none⟩) 123 c' (by8 (bodyOf xs)) ∧ Ext w w' := by
  have hl : xs.length = n := by have := h.len; rwa [by8_len] at this
  have hn : n = 128 := by
    have := hk
    unfold kindOf at this
    split at this
    · rename_i hh; omega
    · omega
  subst hn
  have hnc := h.nc
  have hcm := h.cm
  obtain ⟨b, o, x, rfl, hx, hc, hx2⟩ := h.at8 hb (k := 0) (by omega)
  have hcut : Sl w (some ⟨b, o + 1, none⟩) 123 (c - 1) (by8 (bodyOf xs)) := by
    have := (h.cut (l := 1) (by omega)).pre (m := 123) (by omega)
    rw [if_neg (by omega), by8_drop, by8_take] at this
    simpa [Addr.add_lit, bodyOf] using this
  have h1 : ((k : Int) == 0) = false := by simp; omega
  have hcI : (124 : Int) ≤ (c : Int) := by omega
  have hc1 : ¬ c = 1 := by omega
  have HK := hide hk
  clear hl hk hc
  go_enter Try.func43, Try.ntmps43
  go_wp2_with fail
  refine (ref_Kind _ _ _ _ _ h hb).mono ?_
  rintro e w1 ⟨rfl, hE1⟩
  rw [HK.out]
  go_wp2_with (at_builtin; refine app8 rfl (.const (.slice none 0 0)) (.tmp 15) rfl w.heap.size none 0 0 [] rfl (Own.nilS _ _ _) _ 123 (c - 1) _ rfl (hcut.ext hE1) (by omega) hE1.size ?_; intro A2 c2 w2 hO2 hG2)
  have hO3 : Own w2 w.heap.size 5 A2 123 c2 (by8 (bodyOf xs)) := by simpa using hO2
  have hnc2 := hO3.sl.nc
  obtain ⟨g, rfl, hgB, hgl⟩ := hO3.head (by omega)
  go_ret2
  exact ⟨g, c2, by simp, hO3, hE1.grown hG2 (by simp [Value.ownBlock])⟩
/-- What is sealed, or nothing; the code beside it. -/
def sealL (k : Nat) (xs : List Nat) : List Nat := if k = 0 ∨ 123 < xs.length then [] else sealOf k xs
def sealE (k : Nat) (xs : List Nat) : Nat := if k = 0 ∨ 123 < xs.length then 2 else 0
def openL (k : Nat) (xs : List Nat) : List Nat := if k = 0 ∨ kindOf xs ≠ k then [] else bodyOf xs
def openE (k : Nat) (xs : List Nat) : Nat := if k = 0 ∨ kindOf xs ≠ k then 3 else 0
theorem Bytes.sealL {k : Nat} {xs : List Nat} (hk : k < 256) (h : Bytes xs) : Bytes (sealL k xs) := by
  unfold Go.Proofs.Ytngffmchjjpfbaa.sealL; split
  · exact Bytes.nil
  · exact Bytes.sealOf hk h
theorem Bytes.openL {k : Nat} {xs : List Nat} (h : Bytes xs) : Bytes (openL k xs) := by
  unfold Go.Proofs.Ytngffmchjjpfbaa.openL; split
  · exact Bytes.nil
  · exact (h.drop 1).take 123
theorem sealL_len (k : Nat) (xs : List Nat) : (sealL k xs).length ≤ 128 := by
  unfold sealL; split
  · simp
  · rw [sealOf_len (by omega)]; omega
theorem openL_len (k : Nat) (xs : List Nat) : (openL k xs).length ≤ 123 := by
  unfold openL; split
  · simp
  · simp [bodyOf]; omega

theorem seal_Seal_any (k : Nat) (A : Option Addr) (n c : Nat) (xs : List Nat) (w : World) (h : Sl w A n c (by8 xs)) (hb : Bytes xs) (hk : k < 256) :
    Calls Try.prog 35 #[.int .u8 k, .slice A n c] w fun e w' => ∃ A' n' c', e = .returned (.tuple #[.slice A' n' c', .int .i64 (sealE k xs : Nat)]) ∧ n' ≤ 128 ∧
      Own w' w.heap.size 5 A' n' c' (by8 (sealL k xs)) ∧ Ext w w' := by
  have hl : xs.length = n := by have := h.len; rwa [by8_len] at this
  by_cases hno : k = 0 ∨ 123 < xs.length
  · refine (seal_Seal_no k A n c w (by omega) (by have := h.nc; have := h.cm; omega)).mono ?_
    rintro e w' ⟨rfl, rfl⟩
    refine ⟨none, 0, 0, ?_, by omega, ?_, Ext.refl _⟩
    · unfold sealE; rw [if_pos hno]; rfl
    · unfold sealL; rw [if_pos hno]; exact Own.nilS _ _ _
  · refine (seal_Seal k A n c xs w h hb (by omega) hk (by omega)).mono ?_
    rintro e w' ⟨g, c', rfl, hO, hE⟩
    refine ⟨some ⟨g, 0, none⟩, 128, c', ?_, by omega, ?_, hE⟩
    · unfold sealE; rw [if_neg hno]; rfl
    · unfold sealL; rw [if_neg hno]; exact hO

theorem seal_Open_any (k : Nat) (A : Option Addr) (n c : Nat) (xs : List Nat) (w : World) (h : Sl w A n c (by8 xs)) (hb : Bytes xs) :
    Calls Try.prog 39 #[.int .u8 k, .slice A n c] w fun e w' => ∃ A' n' c', e = .returned (.tuple #[.slice A' n' c', .int .i64 (openE k xs : Nat)]) ∧ n' ≤ 123 ∧
      Own w' w.heap.size 5 A' n' c' (by8 (openL k xs)) ∧ Ext w w' := by
  by_cases hno : k = 0 ∨ kindOf xs ≠ k
  · refine (seal_Open_no k A n c xs w h hb hno).mono ?_
    rintro e w' ⟨rfl, hE⟩
    refine ⟨none, 0, 0, ?_, by omega, ?_, hE⟩
    · unfold openE; rw [if_pos hno]; rfl
    · unfold openL; rw [if_pos hno]; exact Own.nilS _ _ _
  · refine (seal_Open k A n c xs w h hb (by omega) (by omega)).mono ?_
    rintro e w' ⟨g, c', rfl, hO, hE⟩
    refine ⟨some ⟨g, 0, none⟩, 123, c', ?_, by omega, ?_, hE⟩
    · unfold openE; rw [if_neg hno]; rfl
    · unfold openL; rw [if_neg hno]; exact hO

theorem ref_Seal_any (k : Nat) (A : Option Addr) (n c : Nat) (xs : List Nat) (w : World) (h : Sl w A n c (by8 xs)) (hb : Bytes xs) (hk : k < 256) :
    Calls Try.prog 37 #[.int .u8 k, .slice A n c] w fun e w' => ∃ A' n' c', e = .returned (.tuple #[.slice A' n' c', .int .i64 (sealE k xs : Nat)]) ∧ n' ≤ 128 ∧
      Own w' w.heap.size 5 A' n' c' (by8 (sealL k xs)) ∧ Ext w w' := by
  have hl : xs.length = n := by have := h.len; rwa [by8_len] at this
  by_cases hno : k = 0 ∨ 123 < xs.length
  · refine (ref_Seal_no k A n c w (by omega) (by have := h.nc; have := h.cm; omega)).mono ?_
    rintro e w' ⟨rfl, rfl⟩
    refine ⟨none, 0, 0, ?_, by omega, ?_, Ext.refl _⟩
    · unfold sealE; rw [if_pos hno]; rfl
    · unfold sealL; rw [if_pos hno]; exact Own.nilS _ _ _
  · refine (ref_Seal k A n c xs w h hb (by omega) hk (by omega)).mono ?_
    rintro e w' ⟨g, c', rfl, hO, hE⟩
    refine ⟨some ⟨g, 0, none⟩, 128, c', ?_, by omega, ?_, hE⟩
    · unfold sealE; rw [if_neg hno]; rfl
    · unfold sealL; rw [if_neg hno]; exact hO

theorem ref_Open_any (k : Nat) (A : Option Addr) (n c : Nat) (xs : List Nat) (w : World) (h : Sl w A n c (by8 xs)) (hb : Bytes xs) :
    Calls Try.prog 43 #[.int .u8 k, .slice A n c] w fun e w' => ∃ A' n' c', e = .returned (.tuple #[.slice A' n' c', .int .i64 (openE k xs : Nat)]) ∧ n' ≤ 123 ∧
      Own w' w.heap.size 5 A' n' c' (by8 (openL k xs)) ∧ Ext w w' := by
  by_cases hno : k = 0 ∨ kindOf xs ≠ k
  · refine (ref_Open_no k A n c xs w h hb hno).mono ?_
    rintro e w' ⟨rfl, hE⟩
    refine ⟨none, 0, 0, ?_, by omega, ?_, hE⟩
    · unfold openE; rw [if_pos hno]; rfl
    · unfold openL; rw [if_pos hno]; exact Own.nilS _ _ _
  · refine (ref_Open k A n c xs w h hb (by omega) (by omega)).mono ?_
    rintro e w' ⟨g, c', rfl, hO, hE⟩
    refine ⟨some ⟨g, 0, none⟩, 123, c', ?_, by omega, ?_, hE⟩
    · unfold openE; rw [if_neg hno]; rfl
    · unfold openL; rw [if_neg hno]; exact hO
end Go.Proofs.Ytngffmchjjpfbaa
