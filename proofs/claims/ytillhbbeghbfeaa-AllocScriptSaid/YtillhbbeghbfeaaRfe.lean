/- The document's sets of numbers (With, Of), and its space's Left and Bits. -/
import Derived.Test.YtillhbbeghbfeaaRfd
import Derived.RegionTactic
import Derived.BigRegion
namespace Go.Proofs.Ytillhbbeghbfeaa
set_option linter.unusedVariables false
open Go.RowKit

theorem setN_twice {x j : Nat} (hx : x < 256) (hj : j < 8) : setN (setN x j false) j true = setN x j true := by
  apply Nat.eq_of_testBit_eq
  intro k
  rw [setN_test k true (setN_lt _ _ _) hj, setN_test k true hx hj, setN_test k false hx hj]
  split <;> rfl
set_option maxHeartbeats 2000000 in
theorem ref3_With (A : Option Addr) (n c : Nat) (xs : List Nat) (k : Nat) (w : World) (h : Sl w A n c (by8 xs)) (hb : Bytes xs) (hn : n ≤ 1000000) (hk : k / 8 < n) :
    Calls Try.prog 67 #[.slice A n c, .int .i64 (k : Int), .bool true] w fun e w' => ∃ A' c', e = .returned (.slice A' n c') ∧ Own w' w.heap.size 5 A' n c' (by8 (withB xs k true)) ∧ Ext w w' := by
  have hl : xs.length = n := by have := h.len; rwa [by8_len] at this
  have hw : withB xs k true = xs.set (k / 8) (setN (xs.getD (k / 8) 0) (k % 8) true) := by unfold withB; rw [if_pos (by omega)]
  have HW := hide hw
  have HL := hide hl
  have hj : k % 8 < 8 := Nat.mod_lt _ (by omega)
  have hp : (2 : Int) ^ (k % 8) % 256 = 2 ^ (k % 8) := by
    have h2 : (2 : Nat) ^ (k % 8) < 2 ^ 8 := Nat.pow_lt_pow_right (by omega) hj
    have h3 : ((2 : Int) ^ (k % 8)) = ((2 ^ (k % 8) : Nat) : Int) := by simp
    rw [h3]
    generalize (2 : Nat) ^ (k % 8) = y at *
    omega
  have HP := hide hp
  clear hw hp hl
  go_enter Try.func67, Try.ntmps67
  go_wp2_with (at_builtin; refine app8b rfl (.const (.slice none 0 0)) (.tmp 8) rfl w.heap.size none 0 0 [] rfl (Own.nilS _ _ _) A n c _ rfl h (by omega) (Nat.le_refl _) ?_; intro A1 c1 w1 hO1 hG1 hg1)
  rw [List.nil_append] at hO1
  have hE1 : Ext w w1 := (Ext.refl w).grown hG1 (by simp [Value.ownBlock])
  simp only [Nat.zero_add] at hO1
  have hnc := hO1.sl.nc
  obtain ⟨g, rfl, hBg, hgl⟩ := hO1.head (by omega)
  obtain ⟨_, _, x, hA, hx, hc, hx2⟩ := hO1.sl.at8 hb hk
  simp at hA
  obtain ⟨rfl, rfl⟩ := hA
  simp only [Nat.zero_add] at hc
  have hf := hO1.frozenAt (k / 8)
  rw [show xs.getD (k / 8) 0 = x from by rw [List.getD_eq_getElem?_getD, hx.out]; rfl] at HW
  go_region
  rw [HP.out, bits_andnot8 hj]
  have hO2 := hO1.store (k / 8) (.int .u8 ((setN x (k % 8) false : Nat) : Int)) rfl
  rw [by8_set] at hO2
  have hO3 := hO2.ext ((Ext.refl (w1.setCell ⟨g, k / 8, none⟩ (.int .u8 ((setN x (k % 8) false : Nat) : Int)))).drew)
  have hE2 := (hE1.setCell (p := ⟨g, k / 8, none⟩) hBg (.int .u8 ((setN x (k % 8) false : Nat) : Int))).drew
  have hX : (xs.set (k / 8) (setN x (k % 8) false)).set (k / 8) (setN (setN x (k % 8) false) (k % 8) true) = withB xs k true := by rw [setN_twice hx2 hj, List.set_set, HW.out]
  have hc2 : ((w1.setCell ⟨g, k / 8, none⟩ (.int .u8 ((setN x (k % 8) false : Nat) : Int))).drew).cell? ⟨g, k / 8, none⟩ = some (.int .u8 ((setN x (k % 8) false : Nat) : Int)) := by
    rw [hO3.cellAt _ hk]
    simp only [by8, List.getElem?_map]
    rw [List.getElem?_set_self (by rw [HL.out]; exact hk)]
    rfl
  have hf2 := hO3.frozenAt (k / 8)
  have hb2 := setN_lt x (k % 8) false
  have HX := hide hX
  clear hX hx hc hf hO1 hO2 hE1
  generalize setN x (k % 8) false = y at *
  generalize (w1.setCell ⟨g, k / 8, none⟩ (.int .u8 (y : Int))).drew = w2 at *
  go_wp2_with fail
  go_region
  rw [HP.out, bits_or8 hj]
  go_wp2
  go_ret
  have hO4 := hO3.store (k / 8) (.int .u8 ((setN y (k % 8) true : Nat) : Int)) rfl
  rw [by8_set, HX.out] at hO4
  exact ⟨some ⟨g, 0, none⟩, c1, rfl, hO4.ext (Ext.drew (Ext.refl _)), (hE2.setCell (p := ⟨g, k / 8, none⟩) hBg _).drew⟩
set_option maxHeartbeats 2000000 in
theorem ref3_Of (n : Nat) (N : Int) (hN : N = n) (A : Option Addr) (m c : Nat) (is : List Nat) (w : World) (h : Sl w A m c (i64s (nI is))) (hb : ∀ i ∈ is, i < n) (hn : n ≤ 1000) :
    Calls Try.prog 52 #[.int .i64 N, .slice A m c] w fun e w' => ∃ A' c', e = .returned (.slice A' ((n + 7) / 8) c') ∧
      Own w' w.heap.size 5 A' ((n + 7) / 8) c' (by8 (ofB n (nI is))) ∧ Ext w w' := by
  subst hN
  have hl : is.length = m := by have := h.len; rwa [i64s_len, nI_len] at this
  have hm : m ≤ 9223372036854775807 := Nat.le_trans h.nc h.cm
  have HL := hide hl
  have HB := hide hb
  clear hl hb
  have hmk := fun w1 => mk8 .i64 .i64 (((n : Int) + 7) / 8) (((n : Int) + 7) / 8) ((n + 7) / 8) ((n + 7) / 8) (by omega) (by omega) (by omega) (by omega) w1
  go_enter Try.func52, Try.ntmps52
  go_wp2
  have hO0 : Own (w.alloc (.cells (madeCells #[.int .u8 0] ((n + 7) / 8)) 5)) w.heap.size 5 (some ⟨w.heap.size, 0, none⟩) ((n + 7) / 8) ((n + 7) / 8) (by8 (List.replicate ((n + 7) / 8) 0)) := by
    rw [← by8_rep]
    exact Own.mk (Nat.le_refl _) _ _ (by omega) rfl
  have hE0 : Ext w (w.alloc (.cells (madeCells #[.int .u8 0] ((n + 7) / 8)) 5)) := (Ext.refl w).alloc _
  clear hmk
  generalize w.alloc (.cells (madeCells #[.int .u8 0] ((n + 7) / 8)) 5) = w0 at *
  go_loopw [5, 6] (fun v i wr => ∃ (k : Nat) (A1 : Option Addr) (c1 : Nat), k ≤ m ∧ i = .int .i64 k ∧ v = .slice A1 ((n + 7) / 8) c1 ∧ Own wr w.heap.size 5 A1 ((n + 7) / 8) c1 (by8 ((nI (is.take k)).foldl (putB n) (List.replicate ((n + 7) / 8) 0))) ∧ Ext w wr) (fun _ i _ => m - (intOf i).toNat)
  case atStart => exact ⟨0, _, _, by omega, rfl, rfl, hO0, hE0⟩
  case round =>
    obtain ⟨k, A1, c1, hk, rfl, rfl, hO, hE⟩ := hrel
    have hsz := hE.size
    have hbb := (foldl_putB n (nI (is.take k)) (List.replicate ((n + 7) / 8) 0) (Bytes.rep _) (by simp)).1
    by_cases hlt : k < m
    · obtain ⟨b, o, x, rfl, hx, hc0⟩ := h.atI hlt
      obtain ⟨v, hv⟩ : ∃ v, is[k]? = some v := ⟨_, List.getElem?_eq_getElem (by rw [HL.out]; exact hlt)⟩
      have hxv := hx.out
      rw [show (nI is)[k]? = some ((v : Nat) : Int) from by simp [nI, hv]] at hxv
      cases hxv
      have hc := hE.cell hc0
      have hi0 : (k : Int) < (m : Int) := by omega
      have hvn := HB.out v (List.mem_of_getElem? hv)
      have hst : (nI (is.take (k + 1))).foldl (putB n) (List.replicate ((n + 7) / 8) 0) = withB ((nI (is.take k)).foldl (putB n) (List.replicate ((n + 7) / 8) 0)) v true := by
        rw [List.take_add_one, hv, nI_append, List.foldl_append]
        show putB n _ (v : Int) = _
        unfold putB
        rw [if_pos ⟨by omega, by omega⟩, Int.toNat_natCast]
      have HS := hide hst
      clear hst hc0 hv
      generalize (nI (is.take k)).foldl (putB n) (List.replicate ((n + 7) / 8) 0) = cur at *
      go_wp2_with ((go_at_call 67; refine (ref3_With _ _ _ _ _ _ hO.sl hbb (by omega) (by omega)).mono ?_; rintro e w2 ⟨A2, c2, rfl, hO2, hE2⟩))
      go_roundw
      case rel => exact ⟨k + 1, A2, c2, by omega, by go_num, rfl, by rw [HS.out]; exact hO2.low hsz, hE.trans hE2⟩
      case measure => simp [intOf]; omega
    · obtain rfl : k = m := by omega
      rw [List.take_of_length_le (by rw [HL.out]; exact Nat.le_refl _)] at hO
      go_wp2_with fail
      go_ret
      exact ⟨A1, c1, rfl, hO, hE⟩
section
variable {w w' : World} {B g : Nat} {q : Ql} {G N M : Nat} {bi bb bx bz : List Bool}
set_option maxHeartbeats 1000000 in
theorem ref_Left (h : RefAt w B g q G N M bi bb bx bz) {tn tb : List (List Nat)} (h1 : IsI G N bi tn) (h2 : IsB G N M bb tb) (l1 : tn.length = G) (l2 : tb.length = G) :
    Calls Try.prog 16 #[.pointer (some ⟨g, 0, none⟩)] w fun e w' => e = .returned (.tuple #[.int .i64 (sumF N tn G : Nat), .int .i64 (sumF M tb G : Nat)]) ∧ Ext w w' := by
  have hm := mayG_nat h.may
  obtain ⟨c0, _, _, _, _, _, _⟩ := h.cells
  have H := hide h
  have H1 := hide h1
  have H2 := hide h2
  clear h h1 h2
  go_enter Try.func16, Try.ntmps16
  go_wp2_with fail
  go_loopw [4, 5, 6] (fun a b i wr => ∃ k : Nat, k ≤ G ∧ a = .int .i64 (sumF N tn k : Nat) ∧ b = .int .i64 (sumF M tb k : Nat) ∧ i = .int .i64 k ∧ Ext w wr) (fun _ _ i _ => G - (intOf i).toNat)
  case atStart => exact ⟨0, by omega, rfl, rfl, rfl, Ext.refl _⟩
  case round =>
    obtain ⟨k, hk, rfl, rfl, rfl, hE⟩ := hrel
    have d0 := hE.cell c0
    by_cases hlt : k < G
    · have hb1 := Nat.le_trans (sumF_le N tn k) (Nat.mul_le_mul (show k ≤ 8 by omega) (show N ≤ 32 by omega))
      have hb2 := Nat.le_trans (sumF_le M tb k) (Nat.mul_le_mul (show k ≤ 8 by omega) (show M ≤ 96 by omega))
      obtain ⟨xs, hxs⟩ : ∃ xs, tn[k]? = some xs := ⟨_, List.getElem?_eq_getElem (by omega)⟩
      obtain ⟨ys, hys⟩ : ∃ ys, tb[k]? = some ys := ⟨_, List.getElem?_eq_getElem (by omega)⟩
      have q1 := freeN_le N xs
      have q2 := freeN_le M ys
      have s1 := sumF_succ (each := N) hxs
      have s2 := sumF_succ (each := M) hys
      have S1 := hide s1
      have S2 := hide s2
      have W1 := wrapI ((sumF N tn k : Nat) + (freeN N xs : Nat) : Int) (by omega)
      have W2 := wrapI ((sumF M tb k : Nat) + (freeN M ys : Nat) : Int) (by omega)
      have HF1 := hide (fun w' (hE' : Ext w w') => (show Calls Try.prog 47 #[.pointer (some ⟨g, 0, none⟩), .int .i64 (k : Int), .bool true] w' fun e w'' => ∃ A c, e = .returned (.slice A (freeN N xs) c) ∧ Ext w' w'' from
        (ref_free_ino (H.out.ext hE') hlt (xs := xs) (fun i hi => by rw [H1.out k i hlt hi, getD_row hxs])).mono (by rintro e w' ⟨A, n, c, h1, h2, h3, h4⟩; subst h2; exact ⟨A, c, h1, h4⟩)))
      have HF2 := hide (fun w' (hE' : Ext w w') => (show Calls Try.prog 47 #[.pointer (some ⟨g, 0, none⟩), .int .i64 (k : Int), .bool false] w' fun e w'' => ∃ A c, e = .returned (.slice A (freeN M ys) c) ∧ Ext w' w'' from
        (ref_free_blk (H.out.ext hE') hlt (xs := ys) (fun i hi => by rw [H2.out k i hlt hi, getD_row hys])).mono (by rintro e w' ⟨A, n, c, h1, h2, h3, h4⟩; subst h2; exact ⟨A, c, h1, h4⟩)))
      clear hxs hys s1 s2
      go_wp2_with (first
        | (go_at_call 47; with_reducible refine (HF1.out _ hE).mono ?_; rintro e w2 ⟨A2, c2, rfl, hE2⟩)
        | (go_at_call 47; with_reducible refine (HF2.out _ (hE.trans hE2)).mono ?_; rintro e w3 ⟨A3, c3, rfl, hE3⟩))
      go_roundw
      case rel => exact ⟨k + 1, by omega, by rw [S1.out]; go_num, by rw [S2.out]; go_num, by go_num, (hE.trans hE2).trans hE3⟩
      case measure => simp [intOf]; omega
    · obtain rfl : k = G := by omega
      go_wp2_with fail
      go_ret2
      exact ⟨rfl, hE⟩
end
end Go.Proofs.Ytillhbbeghbfeaa
