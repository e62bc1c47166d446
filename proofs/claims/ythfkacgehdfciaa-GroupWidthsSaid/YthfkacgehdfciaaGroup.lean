/- Sectors of bits: plain mathematics. -/
import Derived.Test.YthfkacgehdfciaaBits
namespace Go.Proofs.Ythfkacgehdfciaa
set_option linter.unusedVariables false
open Go.RowKit

theorem take_eq_of_pre {α : Type} {as bs cs : List α} {n : Nat} (h : as = bs ++ cs) (hl : bs.length = n) : as.take n = bs := by
  subst h; rw [List.take_append_of_le_length (by omega), List.take_of_length_le (by omega)]
theorem hasB_pad (n : Nat) (xs : List Nat) (k : Nat) : hasB (padTo n xs) k = hasB xs k := by
  unfold hasB padTo
  rw [List.getD_eq_getElem?_getD, List.getD_eq_getElem?_getD, List.getElem?_append]
  split
  · rfl
  · rename_i h
    rw [List.getElem?_eq_none (l := xs) (by omega), List.getElem?_replicate]
    split <;> simp
theorem pad_app (n m : Nat) (xs ys : List Nat) (hx : xs.length = n) (h : n + ys.length ≤ m) : padTo m (xs ++ ys) = xs ++ padTo (m - n) ys := by
  unfold padTo
  rw [List.append_assoc, List.length_append, hx, show m - n - ys.length = m - (n + ys.length) from by omega]
theorem pad_pad {n m : Nat} {xs : List Nat} (h : xs.length ≤ n) (hm : n ≤ m) : padTo m (padTo n xs) = padTo m xs := by
  have hl := padTo_len h
  unfold padTo at *
  rw [hl, List.append_assoc, List.replicate_append_replicate, show n - xs.length + (m - n) = m - xs.length from by omega]

def gB (xs ys : List Nat) : List Nat := padTo 4 xs ++ ys
theorem gB_len {xs ys : List Nat} (h : xs.length ≤ 4) : (gB xs ys).length = 4 + ys.length := by unfold gB; rw [List.length_append, padTo_len h]
theorem Bytes.gB {xs ys : List Nat} (hx : Bytes xs) (hy : Bytes ys) : Bytes (gB xs ys) := hx.pad.append hy
def gMay (xs ys : List Nat) : Prop := (1 ≤ xs.length ∧ xs.length ≤ 4) ∧ (2 ≤ ys.length ∧ ys.length ≤ 12)
def gX (b : List Nat) : List Nat := (bodyOf b).take 4
def gY (b : List Nat) : List Nat := ((bodyOf b).drop 4).take 12
def gIn (n m : Int) : Prop := (4 ≤ n ∧ n ≤ 32) ∧ (16 ≤ m ∧ m ≤ 96)
/-- What a sector of bits is read as. -/
def gOk (b : List Nat) (n m : Nat) : Prop := kindOf b = 71 ∧ (∀ k, 16 ≤ k → (bodyOf b).getD k 0 = 0) ∧ (∀ k, n ≤ k → hasB (gX b) k = false) ∧ (∀ k, m ≤ k → hasB (gY b) k = false)
def gXr (b : List Nat) (n : Nat) : List Nat := (gX b).take ((n + 7) / 8)
def gYr (b : List Nat) (m : Nat) : List Nat := (gY b).take ((m + 7) / 8)
theorem Bytes.gX {b : List Nat} (h : Bytes b) : Bytes (gX b) := ((h.drop 1).take 123).take 4
theorem Bytes.gY {b : List Nat} (h : Bytes b) : Bytes (gY b) := (((h.drop 1).take 123).drop 4).take 12
theorem gX_len {b : List Nat} (h : kindOf b = 71) : (gX b).length = 4 := by
  have := bodyOf_len (kind_len (xs := b) (by omega))
  simp [gX, this]
theorem gY_len {b : List Nat} (h : kindOf b = 71) : (gY b).length = 12 := by
  have := bodyOf_len (kind_len (xs := b) (by omega))
  simp [gY, this]
/-- The body is its two parts, and what lies behind. -/
theorem g_body (b : List Nat) : bodyOf b = gX b ++ (gY b ++ (bodyOf b).drop 16) := by
  unfold gX gY
  rw [show (bodyOf b).drop 16 = ((bodyOf b).drop 4).drop 12 from by rw [List.drop_drop], List.take_append_drop, List.take_append_drop]
/-- What was laid over the parts' own numbers is the sector just if it may be read. -/
theorem g_again {b : List Nat} (hb : Bytes b) (hk : kindOf b = 71) {n m : Nat} (hn : 4 ≤ n) (hn2 : n ≤ 32) (hm : 16 ≤ m) (hm2 : m ≤ 96) :
    sealOf 71 (gB (ofB n ((allB (gX b) n).map fun k : Nat => (k : Int))) (ofB m ((allB (gY b) m).map fun k : Nat => (k : Int)))) = b ↔ gOk b n m := by
  have hlx := gX_len hk
  have hly := gY_len hk
  have hbl := bodyOf_len (kind_len (xs := b) (by omega))
  have tx : ∀ k, hasB (ofB n ((allB (gX b) n).map fun k : Nat => (k : Int))) k = (hasB (gX b) k && decide (k < n)) := by
    intro k
    rw [hasB_ofB, Bool.eq_iff_iff, Bool.and_eq_true, decide_eq_true_iff, decide_eq_true_iff]
    constructor
    · rintro ⟨h1, h2⟩
      obtain ⟨j, hj, he⟩ := List.mem_map.1 h1
      obtain rfl : j = k := by omega
      exact ⟨(mem_allB.1 hj).2, by omega⟩
    · rintro ⟨h1, h2⟩
      exact ⟨List.mem_map.2 ⟨k, mem_allB.2 ⟨h2, h1⟩, rfl⟩, by omega⟩
  have ty : ∀ k, hasB (ofB m ((allB (gY b) m).map fun k : Nat => (k : Int))) k = (hasB (gY b) k && decide (k < m)) := by
    intro k
    rw [hasB_ofB, Bool.eq_iff_iff, Bool.and_eq_true, decide_eq_true_iff, decide_eq_true_iff]
    constructor
    · rintro ⟨h1, h2⟩
      obtain ⟨j, hj, he⟩ := List.mem_map.1 h1
      obtain rfl : j = k := by omega
      exact ⟨(mem_allB.1 hj).2, by omega⟩
    · rintro ⟨h1, h2⟩
      exact ⟨List.mem_map.2 ⟨k, mem_allB.2 ⟨h2, h1⟩, rfl⟩, by omega⟩
  have lx := ofB_len n ((allB (gX b) n).map fun k : Nat => (k : Int))
  have ly := ofB_len m ((allB (gY b) m).map fun k : Nat => (k : Int))
  have bx := Bytes.ofB n ((allB (gX b) n).map fun k : Nat => (k : Int))
  have bY := Bytes.ofB m ((allB (gY b) m).map fun k : Nat => (k : Int))
  generalize ofB n ((allB (gX b) n).map fun k : Nat => (k : Int)) = x at *
  generalize ofB m ((allB (gY b) m).map fun k : Nat => (k : Int)) = y at *
  have hgl : (gB x y).length ≤ 16 := by rw [gB_len (by omega)]; omega
  have hparts : padTo 123 (gB x y) = padTo 4 x ++ (padTo 12 y ++ List.replicate 107 0) := by
    unfold gB
    rw [pad_app 4 123 _ _ (padTo_len (by omega)) (by omega)]
    congr 1
    unfold padTo
    rw [List.append_assoc, List.replicate_append_replicate]
    congr 2
    omega
  constructor
  · intro h
    have hbody : bodyOf b = padTo 4 x ++ (padTo 12 y ++ List.replicate 107 0) := by rw [← hparts, ← bodyOf_sealOf (k := 71) (by omega), h]
    have e1 : gX b = padTo 4 x := take_eq_of_pre hbody (padTo_len (by omega))
    have e2 : gY b = padTo 12 y := by
      unfold gY
      rw [hbody, List.drop_left' (padTo_len (by omega))]
      exact take_eq_of_pre rfl (padTo_len (by omega))
    refine ⟨hk, fun k hk' => ?_, fun k hk' => ?_, fun k hk' => ?_⟩
    · rw [hbody, ← List.append_assoc, List.getD_eq_getElem?_getD, List.getElem?_append_right (by rw [List.length_append, padTo_len (by omega), padTo_len (by omega)]; omega), List.getElem?_replicate]
      split <;> rfl
    · have := tx k
      rw [e1, hasB_pad] at this ⊢
      rw [decide_eq_false (by omega)] at this
      simpa using this
    · have := ty k
      rw [e2, hasB_pad] at this ⊢
      rw [decide_eq_false (by omega)] at this
      simpa using this
  · rintro ⟨_, h0, h1, h2⟩
    have e1 : padTo 4 x = gX b := by
      refine hasB_ext bx.pad hb.gX (by rw [padTo_len (by omega), hlx]) (fun k _ => ?_)
      rw [hasB_pad, tx]
      by_cases hk' : k < n
      · simp [hk']
      · rw [h1 k (by omega)]; simp
    have e2 : padTo 12 y = gY b := by
      refine hasB_ext bY.pad hb.gY (by rw [padTo_len (by omega), hly]) (fun k _ => ?_)
      rw [hasB_pad, ty]
      by_cases hk' : k < m
      · simp [hk']
      · rw [h2 k (by omega)]; simp
    have e3 : (bodyOf b).drop 16 = List.replicate 107 0 := by
      apply List.ext_getElem
      · simp [hbl]
      · intro i i1 i2
        have := h0 (16 + i) (by omega)
        rw [List.getD_eq_getElem?_getD, List.getElem?_eq_getElem (by simp at i1; omega)] at this
        rw [List.getElem_replicate]
        simpa using this
    have : padTo 123 (gB x y) = bodyOf b := by rw [hparts, g_body b, e1, e2, e3]
    rw [← sealOf_pad (by omega), this]
    exact kind_seal hk (by omega)
theorem g_own {b : List Nat} (hb : Bytes b) {n m : Nat} (hn2 : n ≤ 32) (hm2 : m ≤ 96) (h : gOk b n m) :
    ofB n ((allB (gX b) n).map fun k : Nat => (k : Int)) = gXr b n ∧ ofB m ((allB (gY b) m).map fun k : Nat => (k : Int)) = gYr b m :=
  ⟨ofB_allB hb.gX n (by rw [gX_len h.1]; omega) (fun k h1 _ => h.2.2.1 k h1), ofB_allB hb.gY m (by rw [gY_len h.1]; omega) (fun k h1 _ => h.2.2.2 k h1)⟩
theorem allB_split (xs : List Nat) {n N : Nat} (h : n ≤ N) : (allB xs N).length = (allB xs n).length ↔ ∀ k, n ≤ k → k < N → hasB xs k = false := by
  unfold allB
  obtain ⟨d, hd⟩ : ∃ d, min N (8 * xs.length) = min n (8 * xs.length) + d := ⟨min N (8 * xs.length) - min n (8 * xs.length), by omega⟩
  rw [hd, List.range_add, List.filter_append, List.length_append]
  constructor
  · intro h0 k h1 h2
    have hnil : List.filter (hasB xs) ((List.range d).map (min n (8 * xs.length) + ·)) = [] := List.eq_nil_of_length_eq_zero (by omega)
    rw [List.filter_eq_nil_iff] at hnil
    by_cases hL : xs.length ≤ k / 8
    · exact hasB_far hL
    · have := hnil k (List.mem_map.2 ⟨k - n, List.mem_range.2 (by omega), by omega⟩)
      simpa using this
  · intro h0
    have hnil : List.filter (hasB xs) ((List.range d).map (min n (8 * xs.length) + ·)) = [] := by
      rw [List.filter_eq_nil_iff]
      intro a ha
      obtain ⟨j, hj, rfl⟩ := List.mem_map.1 ha
      have hj' := List.mem_range.1 hj
      rw [h0 _ (by omega) (by omega)]; simp
    rw [hnil]; simp
theorem g_parts {x y : List Nat} (hx : x.length ≤ 4) (hy : y.length ≤ 12) : padTo 123 (gB x y) = padTo 4 x ++ (padTo 12 y ++ List.replicate 107 0) := by
  unfold gB
  rw [pad_app 4 123 _ _ (padTo_len (by omega)) (by omega)]
  congr 1
  unfold padTo
  rw [List.append_assoc, List.replicate_append_replicate]
  congr 2
  omega
/-- What is laid, part by part. -/
theorem g_lay {x y : List Nat} (hx : x.length ≤ 4) (hy : y.length ≤ 12) : kindOf (sealOf 71 (gB x y)) = 71 ∧ gX (sealOf 71 (gB x y)) = padTo 4 x ∧ gY (sealOf 71 (gB x y)) = padTo 12 y ∧
    ∀ k, 16 ≤ k → (bodyOf (sealOf 71 (gB x y))).getD k 0 = 0 := by
  have hgl : (gB x y).length ≤ 16 := by rw [gB_len (by omega)]; omega
  have hbody : bodyOf (sealOf 71 (gB x y)) = padTo 4 x ++ (padTo 12 y ++ List.replicate 107 0) := by rw [bodyOf_sealOf (by omega), g_parts hx hy]
  refine ⟨kindOf_sealOf (by omega) (by omega), take_eq_of_pre hbody (padTo_len (by omega)), ?_, fun k hk => ?_⟩
  · unfold gY
    rw [hbody, List.drop_left' (padTo_len (by omega))]
    exact take_eq_of_pre rfl (padTo_len (by omega))
  · rw [hbody, ← List.append_assoc, List.getD_eq_getElem?_getD, List.getElem?_append_right (by rw [List.length_append, padTo_len (by omega), padTo_len (by omega)]; omega), List.getElem?_replicate]
    split <;> rfl
theorem g_lay_ok {x y : List Nat} (hx : x.length ≤ 4) (hy : y.length ≤ 12) (n m : Nat) : gOk (sealOf 71 (gB x y)) n m ↔ (∀ k, n ≤ k → hasB x k = false) ∧ (∀ k, m ≤ k → hasB y k = false) := by
  obtain ⟨h1, h2, h3, h4⟩ := g_lay hx hy
  unfold gOk
  rw [h2, h3]
  simp only [hasB_pad]
  exact ⟨fun h => ⟨h.2.2.1, h.2.2.2⟩, fun h => ⟨h1, h4, h.1, h.2⟩⟩
theorem g_lay_read {x y : List Nat} {n m : Nat} (hx : x.length = (n + 7) / 8) (hy : y.length = (m + 7) / 8) (hn : n ≤ 32) (hm : m ≤ 96) : gXr (sealOf 71 (gB x y)) n = x ∧ gYr (sealOf 71 (gB x y)) m = y := by
  obtain ⟨h1, h2, h3, h4⟩ := g_lay (x := x) (y := y) (by omega) (by omega)
  unfold gXr gYr
  rw [h2, h3]
  exact ⟨take_eq_of_pre rfl hx, take_eq_of_pre rfl hy⟩
theorem hasB_ofB_far (n : Nat) (is : List Int) (k : Nat) (h : n ≤ k) : hasB (ofB n is) k = false := by
  rw [hasB_ofB, decide_eq_false_iff_not]; omega
end Go.Proofs.Ythfkacgehdfciaa
