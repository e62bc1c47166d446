/- Contracts of sets of small numbers, and of their reference. -/
import Derived.Test.YtillhbbeghbfeaaInts
import Derived.Test.YtillhbbeghbfeaaBits
namespace Go.Proofs.Ytillhbbeghbfeaa
set_option linter.unusedVariables false
open Go.RowKit

def hasI (xs : List Nat) (i : Int) : Bool := decide (0 ≤ i) && hasB xs i.toNat

set_option maxHeartbeats 400000 in
theorem bits_Has (A : Option Addr) (n c : Nat) (xs : List Nat) (i : Int) (w : World) (h : Sl w A n c (by8 xs)) (hb : Bytes xs) (hi2 : i ≤ 9223372036854775807) :
    Calls Try.prog 33 #[.slice A n c, .int .i64 i] w fun e w' => e = .returned (.bool (hasI xs i)) ∧ w = w' := by
  have hl : xs.length = n := by have := h.len; rwa [by8_len] at this
  have hm : n ≤ 9223372036854775807 := Nat.le_trans h.nc h.cm
  by_cases hi : i < 0
  · have e : hasI xs i = false := by unfold hasI; rw [decide_eq_false (by omega)]; rfl
    have HE := hide e
    clear e hl
    go_enter Try.func33, Try.ntmps33
    go_wp2
    go_ret
    exact ⟨ret_bool HE.out.symm, rfl⟩
  obtain ⟨k, rfl⟩ := Int.eq_ofNat_of_zero_le (show 0 ≤ i by omega)
  have e : hasI xs (k : Int) = hasB xs k := by unfold hasI; rw [decide_eq_true (by omega)]; rfl
  have HE := hide e
  clear e hi
  by_cases hk : k / 8 < n
  · obtain ⟨b, o, x, rfl, hx, hc, hx2⟩ := h.at8 hb hk
    have HL := hide hl
    clear hl
    go_enter Try.func33, Try.ntmps33
    go_wp2
    rw [and_bit hx2]
    go_ret
    exact ⟨ret_bool (by rw [HE.out]; unfold hasB; rw [List.getD_eq_getElem?_getD, hx.out]; rfl), rfl⟩
  · have e : hasB xs k = false := hasB_far (by omega)
    have HF := hide e
    clear e hl
    go_enter Try.func33, Try.ntmps33
    go_wp2
    go_ret
    exact ⟨ret_bool (by rw [HE.out, HF.out]), rfl⟩

theorem info_size8 : (Try.prog.info? 5).map (·.size) = some 1 := by kernel_rfl

set_option maxHeartbeats 400000 in
theorem bits_With (A : Option Addr) (n c : Nat) (xs : List Nat) (i : Int) (on : Bool) (w : World) (h : Sl w A n c (by8 xs)) (hb : Bytes xs) (hn : n ≤ 1000000) (hi2 : i ≤ 9223372036854775807) :
    Calls Try.prog 34 #[.slice A n c, .int .i64 i, .bool on] w fun e w' => ∃ A' c', e = .returned (.slice A' n c') ∧
      Own w' w.heap.size 5 A' n c' (by8 (if 0 ≤ i then withB xs i.toNat on else xs)) ∧ Ext w w' := by
  have hl : xs.length = n := by have := h.len; rwa [by8_len] at this
  have HL := hide hl
  clear hl
  by_cases hi : i < 0
  · rw [if_neg (by omega)]
    go_enter Try.func34, Try.ntmps34
    go_wp2_with (go_at_call 50; refine (Clone8 _ _ _ _ _ h hn).mono ?_; rintro e w1 ⟨A1, c1, rfl, hO1, hE1⟩)
    go_ret
    exact ⟨A1, c1, rfl, hO1, hE1⟩
  rw [if_pos (by omega)]
  obtain ⟨k, rfl⟩ := Int.eq_ofNat_of_zero_le (show 0 ≤ i by omega)
  rw [Int.toNat_natCast]
  clear hi
  by_cases hk : k / 8 < n
  · have hw : withB xs k on = xs.set (k / 8) (setN (xs.getD (k / 8) 0) (k % 8) on) := by unfold withB; rw [if_pos (by rw [HL.out]; exact hk)]
    have HW := hide hw
    clear hw
    go_enter Try.func34, Try.ntmps34
    go_wp2_with fail
    refine (Clone8 _ _ _ _ _ h hn).mono ?_
    rintro e w1 ⟨A1, c1, rfl, hO1, hE1⟩
    have hnc := hO1.sl.nc
    obtain ⟨g, rfl, hBg, hgl⟩ := hO1.head (by omega)
    obtain ⟨_, _, x, hA, hx, hc, hx2⟩ := hO1.sl.at8 hb hk
    simp at hA
    obtain ⟨rfl, rfl⟩ := hA
    simp only [Nat.zero_add] at hc
    have hf := hO1.frozenAt (k / 8)
    rw [show xs.getD (k / 8) 0 = x from by rw [List.getD_eq_getElem?_getD, hx.out]; rfl] at HW
    have hj : k % 8 < 8 := Nat.mod_lt _ (by omega)
    have hp : (2 : Int) ^ (k % 8) % 256 = 2 ^ (k % 8) := by
      have h2 : (2 : Nat) ^ (k % 8) < 2 ^ 8 := Nat.pow_lt_pow_right (by omega) hj
      have h3 : ((2 : Int) ^ (k % 8)) = ((2 ^ (k % 8) : Nat) : Int) := by simp
      rw [h3]
      generalize (2 : Nat) ^ (k % 8) = y at *
      omega
    have HP := hide hp
    clear hp
    have hst := fun u : Nat => (hO1.store (k / 8) (.int .u8 (u : Int)) rfl)
    cases on
    · go_wp2_with fail
      go_region
      rw [HP.out, bits_andnot8 hj]
      go_wp2
      go_ret
      exact ⟨some ⟨g, 0, none⟩, c1, rfl, by
        have := hst (setN x (k % 8) false)
        rw [by8_set, ← HW.out] at this
        exact this.ext (Ext.drew (Ext.refl _)), (hE1.setCell hBg _).drew⟩
    · go_wp2_with fail
      go_region
      rw [HP.out, bits_or8 hj]
      go_wp2
      go_ret
      exact ⟨some ⟨g, 0, none⟩, c1, rfl, by
        have := hst (setN x (k % 8) true)
        rw [by8_set, ← HW.out] at this
        exact this.ext (Ext.drew (Ext.refl _)), (hE1.setCell hBg _).drew⟩
  · have hw : withB xs k on = xs := by unfold withB; rw [if_neg (by rw [HL.out]; exact hk)]
    rw [hw]
    clear hw
    go_enter Try.func34, Try.ntmps34
    go_wp2_with (go_at_call 50; refine (Clone8 _ _ _ _ _ h hn).mono ?_; rintro e w1 ⟨A1, c1, rfl, hO1, hE1⟩)
    go_ret
    exact ⟨A1, c1, rfl, hO1, hE1⟩

def nI (xs : List Nat) : List Int := xs.map fun k : Nat => (k : Int)
theorem allB_zero (xs : List Nat) : allB xs 0 = [] := by simp [allB]
theorem allB_succ {xs : List Nat} {k : Nat} (h : k < 8 * xs.length) : allB xs (k + 1) = if hasB xs k = true then allB xs k ++ [k] else allB xs k := by
  unfold allB
  rw [show min (k + 1) (8 * xs.length) = k + 1 from by omega, show min k (8 * xs.length) = k from by omega, List.range_succ, List.filter_append]
  split
  · rename_i h; simp [h]
  · rename_i h; simp [h]
theorem nI_append (xs ys : List Nat) : nI (xs ++ ys) = nI xs ++ nI ys := by simp [nI]
theorem allB_len (xs : List Nat) (k : Nat) : (allB xs k).length ≤ k := by
  unfold allB
  have := List.length_filter_le (hasB xs) (List.range (min k (8 * xs.length)))
  rw [List.length_range] at this
  omega
theorem nI_len (xs : List Nat) : (nI xs).length = xs.length := by simp [nI]
theorem allB_min (xs : List Nat) (n : Nat) : allB xs (min n (8 * xs.length)) = allB xs n := by unfold allB; congr 2; omega

set_option maxHeartbeats 400000 in
theorem bits_All (A : Option Addr) (n c : Nat) (xs : List Nat) (N : Int) (w : World) (h : Sl w A n c (by8 xs)) (hb : Bytes xs) (hn : n ≤ 1000000) (hN : N ≤ 9223372036854775807) :
    Calls Try.prog 69 #[.slice A n c, .int .i64 N] w fun e w' => ∃ A' m' c', e = .returned (.slice A' m' c') ∧
      Own w' w.heap.size 3 A' m' c' (i64s (nI (allB xs N.toNat))) ∧ Ext w w' := by
  have hl : xs.length = n := by have := h.len; rwa [by8_len] at this
  have HL := hide hl
  have hM := allB_min xs N.toNat
  rw [hl] at hM
  have HM := hide hM
  clear hM hl
  go_enter Try.func69, Try.ntmps69
  go_wp2
  go_loopw [5, 6] (fun v i wr => ∃ (k m : Nat) (A1 : Option Addr) (c1 : Nat), k ≤ 8 * n ∧ (k : Int) ≤ max N 0 ∧ i = .int .i64 k ∧ v = .slice A1 m c1 ∧ m ≤ k ∧ Own wr w.heap.size 3 A1 m c1 (i64s (nI (allB xs k))) ∧ Ext w wr) (fun _ i _ => 8 * n - (intOf i).toNat)
  case atStart => exact ⟨0, 0, none, 0, by omega, by omega, rfl, rfl, by omega, by rw [allB_zero]; exact Own.nilS _ _ _, Ext.refl _⟩
  case round =>
    obtain ⟨k, m, A1, c1, hk, hkN, rfl, rfl, hmk, hO, hE⟩ := hrel
    have hsz := hE.size
    by_cases hlt : (k : Int) < N
    · by_cases hlt2 : k < 8 * n
      · have hs := allB_succ (xs := xs) (k := k) (by rw [HL.out]; exact hlt2)
        have HS := hide hs
        clear hs
        have hi0 : (k : Int) < 8 * (n : Int) := by omega
        go_wp2_with fail
        refine (bits_Has _ _ _ _ _ _ (h.ext hE) hb (by omega)).mono ?_
        rintro e w1 ⟨rfl, rfl⟩
        have e : hasI xs (k : Int) = hasB xs k := by unfold hasI; rw [decide_eq_true (by omega)]; rfl
        rw [e]
        clear e
        cases hh : hasB xs k
        · rw [hh] at HS
          clear hh
          go_wp2
          go_roundw
          case rel => exact ⟨k + 1, m, A1, c1, by omega, by omega, by go_num, rfl, by omega, by have := HS.out; simp at this; rw [this]; exact hO, hE⟩
          case measure => simp [intOf]; omega
        · rw [hh] at HS
          clear hh
          go_wp2_with (at_builtin; refine appI rfl (.tmp 22) (.tmp 24) rfl w.heap.size _ m c1 _ rfl (hO.ext ((Ext.refl wr).alloc _)) _ 1 1 _ rfl (Sl.lit wr _ 3 1 rfl (by omega) (by simp [Value.oneCell'])) (by omega) (by simp; omega) ?_; intro A2 c2 w2 hO2 hG2)
          go_roundw
          case rel => exact ⟨k + 1, m + 1, A2, c2, by omega, by omega, by go_num, rfl, by omega, by have := HS.out; simp at this; rw [this, nI_append, i64s_append]; exact hO2, (hE.alloc _).grown hG2 (fun q hq => (hO.block q hq).1)⟩
          case measure => simp [intOf]; omega
      · obtain rfl : k = 8 * n := by omega
        have hi0 : ¬ ((8 * n : Nat) : Int) < 8 * (n : Int) := by omega
        go_wp2
        go_ret
        exact ⟨A1, m, c1, rfl, by rw [← HM.out, show min N.toNat (8 * n) = 8 * n from by omega]; exact hO, hE⟩
    · go_wp2
      go_ret
      exact ⟨A1, m, c1, rfl, by rw [← HM.out, show min N.toNat (8 * n) = k from by omega]; exact hO, hE⟩

set_option maxHeartbeats 400000 in
theorem bits_Of (n : Nat) (N : Int) (hN : N = n) (A : Option Addr) (m c : Nat) (is : List Int) (w : World) (h : Sl w A m c (i64s is)) (hb : ∀ i ∈ is, i ≤ 9223372036854775807) (hn : n ≤ 1000) :
    Calls Try.prog 57 #[.int .i64 N, .slice A m c] w fun e w' => ∃ A' c', e = .returned (.slice A' ((n + 7) / 8) c') ∧
      Own w' w.heap.size 5 A' ((n + 7) / 8) c' (by8 (ofB n is)) ∧ Ext w w' := by
  subst hN
  have hl : is.length = m := by have := h.len; rwa [i64s_len] at this
  have hm : m ≤ 9223372036854775807 := Nat.le_trans h.nc h.cm
  have HL := hide hl
  have HB := hide hb
  clear hl hb
  have hmk := fun w1 => mk8 .i64 .i64 (((n : Int) + 7) / 8) (((n : Int) + 7) / 8) ((n + 7) / 8) ((n + 7) / 8) (by omega) (by omega) (by omega) (by omega) w1
  go_enter Try.func57, Try.ntmps57
  go_wp2
  have hO0 : Own (w.alloc (.cells (madeCells #[.int .u8 0] ((n + 7) / 8)) 5)) w.heap.size 5 (some ⟨w.heap.size, 0, none⟩) ((n + 7) / 8) ((n + 7) / 8) (by8 (List.replicate ((n + 7) / 8) 0)) := by
    rw [← by8_rep]
    exact Own.mk (Nat.le_refl _) _ _ (by omega) rfl
  have hE0 : Ext w (w.alloc (.cells (madeCells #[.int .u8 0] ((n + 7) / 8)) 5)) := (Ext.refl w).alloc _
  clear hmk
  generalize w.alloc (.cells (madeCells #[.int .u8 0] ((n + 7) / 8)) 5) = w0 at *
  go_loopw [5, 20] (fun v i wr => ∃ (k : Nat) (A1 : Option Addr) (c1 : Nat), k ≤ m ∧ i = .int .i64 k ∧ v = .slice A1 ((n + 7) / 8) c1 ∧ Own wr w.heap.size 5 A1 ((n + 7) / 8) c1 (by8 ((is.take k).foldl (putB n) (List.replicate ((n + 7) / 8) 0))) ∧ Ext w wr) (fun _ i _ => m - (intOf i).toNat)
  case atStart => exact ⟨0, _, _, by omega, rfl, rfl, hO0, hE0⟩
  case round =>
    obtain ⟨k, A1, c1, hk, rfl, rfl, hO, hE⟩ := hrel
    have hsz := hE.size
    have hbb := (foldl_putB n (is.take k) (List.replicate ((n + 7) / 8) 0) (Bytes.rep _) (by simp)).1
    by_cases hlt : k < m
    · obtain ⟨b, o, x, rfl, hx, hc0⟩ := h.atI hlt
      have hc := hE.cell hc0
      have hi0 : (k : Int) < (m : Int) := by omega
      have hst : (is.take (k + 1)).foldl (putB n) (List.replicate ((n + 7) / 8) 0) = putB n ((is.take k).foldl (putB n) (List.replicate ((n + 7) / 8) 0)) x := by
        rw [take_succ_of hx.out, List.foldl_append]; rfl
      have HS := hide hst
      have hxb := HB.out x (List.mem_of_getElem? hx.out)
      clear hst hc0
      generalize (is.take k).foldl (putB n) (List.replicate ((n + 7) / 8) 0) = cur at *
      by_cases hx0 : 0 ≤ x ∧ x < (n : Int)
      · obtain ⟨hx1, hx2⟩ := hx0
        have hp : putB n cur x = if 0 ≤ x then withB cur x.toNat true else cur := by unfold putB; rw [if_pos ⟨hx1, hx2⟩, if_pos hx1]
        rw [hp] at HS
        clear hp
        go_wp2_with fail
        refine (bits_With _ _ _ _ _ _ _ hO.sl hbb (by omega) (by omega)).mono ?_
        rintro e w2 ⟨A2, c2, rfl, hO2, hE2⟩
        go_wp2
        go_roundw
        case rel => exact ⟨k + 1, A2, c2, by omega, by go_num, rfl, by rw [HS.out]; exact hO2.low hsz, hE.trans hE2⟩
        case measure => simp [intOf]; omega
      · have hp : putB n cur x = cur := by unfold putB; rw [if_neg hx0]
        rw [hp] at HS
        clear hp
        by_cases hx1 : 0 ≤ x
        · have hx2 : ¬ x < (n : Int) := fun hh => hx0 ⟨hx1, hh⟩
          clear hx0
          go_wp2
          go_roundw
          case rel => exact ⟨k + 1, A1, c1, by omega, by go_num, rfl, by rw [HS.out]; exact hO, hE⟩
          case measure => simp [intOf]; omega
        · clear hx0
          go_wp2
          go_roundw
          case rel => exact ⟨k + 1, A1, c1, by omega, by go_num, rfl, by rw [HS.out]; exact hO, hE⟩
          case measure => simp [intOf]; omega
    · obtain rfl : k = m := by omega
      rw [List.take_of_length_le (by rw [HL.out]; omega)] at hO
      go_wp2
      go_ret
      exact ⟨A1, c1, rfl, hO, hE⟩
end Go.Proofs.Ytillhbbeghbfeaa
