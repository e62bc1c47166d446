/- Inodes: what is laid is read again, each at its own place. -/
import Derived.Test.YthbdnaogjmnagaaInoN
namespace Go.Proofs.Ythbdnaogjmnagaa
set_option linter.unusedVariables false
open Go.RowKit

theorem mayI.kind {i : List Int} (hl : i.length = 11) (h : mayI i) : 0 ≤ i.getD 0 0 ∧ i.getD 0 0 ≤ 3 := by
  rcases h with rfl | ⟨h1, _⟩
  · simp [zI]
  · omega
theorem pair_num (x : Int) (h0 : 0 ≤ x) (h1 : x ≤ 65535) : (((x.toNat / 256 % 256) * 256 + x.toNat % 256 : Nat) : Int) = x := by omega
theorem numB_1 (a : Nat) : numB [a] = a := by simp [numB]
theorem numB_2 (a b : Nat) : numB [a, b] = a * 256 + b := by simp [numB]
theorem numB_4 (a b c d : Nat) : numB [a, b, c, d] = ((a * 256 + b) * 256 + c) * 256 + d := by simp [numB]
/-- An inode's bytes are read as it was. -/
theorem rd_inB {i : List Int} (hl : i.length = 11) (h : mayI i) (rest : List Nat) : rdI (inB i ++ rest) 0 = i := by
  have hs := h.small hl
  have hk := h.kind hl
  obtain ⟨a, b, c, d, e, f, g, h', j, k, l, rfl⟩ := eleven hl
  have sm : ∀ x ∈ [a, b, c, d, e, f, g, h', j, k, l], 0 ≤ x ∧ x ≤ 65535 := hs
  simp only [List.mem_cons, List.not_mem_nil, or_false, forall_eq_or_imp, forall_eq] at sm
  obtain ⟨sa, sb, sc, sd, se, sf, sg, sh, sj, sk, sl⟩ := sm
  simp only [List.getD_cons_zero] at hk
  have e0 : inB [a, b, c, d, e, f, g, h', j, k, l] ++ rest =
      a.toNat % 256 :: b.toNat / 256 % 256 :: b.toNat % 256 :: c.toNat / 16777216 % 256 :: c.toNat / 65536 % 256 :: c.toNat / 256 % 256 :: c.toNat % 256 ::
      d.toNat / 256 % 256 :: d.toNat % 256 :: e.toNat / 256 % 256 :: e.toNat % 256 :: f.toNat / 256 % 256 :: f.toNat % 256 :: g.toNat / 256 % 256 :: g.toNat % 256 ::
      h'.toNat / 256 % 256 :: h'.toNat % 256 :: j.toNat / 256 % 256 :: j.toNat % 256 :: k.toNat / 256 % 256 :: k.toNat % 256 :: l.toNat / 256 % 256 :: l.toNat % 256 :: rest := by
    unfold inB ptrB wd2
    rw [fixB_one, fixB_two, fixB_four]
    simp [be4]
  rw [e0]
  unfold rdI gN
  simp only [show List.range 8 = [0, 1, 2, 3, 4, 5, 6, 7] from by decide, List.map_cons, List.map_nil, Nat.reduceAdd, Nat.reduceMul, List.drop_succ_cons, List.drop_zero, List.take_succ_cons, List.take_zero, numB_1, numB_2, numB_4, List.cons_append, List.nil_append]
  rw [pair_num b sb.1 sb.2, pair_num d sd.1 sd.2, pair_num e se.1 se.2, pair_num f sf.1 sf.2, pair_num g sg.1 sg.2, pair_num h' sh.1 sh.2, pair_num j sj.1 sj.2, pair_num k sk.1 sk.2, pair_num l sl.1 sl.2]
  congr 1
  · omega
  · congr 1
    congr 1
    omega
theorem nth_split {is : List Int} (h : is.length = 44) (k : Nat) (hk : k ≤ 4) : (List.range k).flatMap (fun j => nth is j) = is.take (11 * k) := by
  induction k with
  | zero => simp
  | succ k ih =>
    rw [List.range_succ, List.flatMap_append, ih (by omega), List.flatMap_singleton, Nat.mul_add, List.take_add, Nat.mul_comm 11 k]
    rfl
theorem layB_drop {is : List Int} (h : is.length = 44) {j : Nat} (hj : j < 4) : ∃ rest, (layB is 4).drop (j * 23) = inB (nth is j) ++ rest := by
  have hb : ∀ d, j + 1 + d ≤ 4 → ∃ rest, layB is (j + 1 + d) = layB is j ++ (inB (nth is j) ++ rest) := by
    intro d
    induction d with
    | zero => intro _; exact ⟨[], by rw [Nat.add_zero, layB_succ, List.append_nil]⟩
    | succ d ih =>
      intro hd
      obtain ⟨r, hr⟩ := ih (by omega)
      exact ⟨r ++ inB (nth is (j + 1 + d)), by rw [← Nat.add_assoc, layB_succ, hr]; simp only [List.append_assoc]⟩
  obtain ⟨r, hr⟩ := hb (3 - j) (by omega)
  rw [show j + 1 + (3 - j) = 4 from by omega] at hr
  refine ⟨r, ?_⟩
  have hl := layB_len h (k := j) (by omega)
  rw [hr, List.drop_append, List.drop_of_length_le (by omega), hl, Nat.mul_comm, Nat.sub_self, List.drop_zero, List.nil_append]
/-- What is laid is read again. -/
theorem rd_layB {is : List Int} (h : is.length = 44) (ha : allI is 4) (rest : List Nat) : rdA (layB is 4 ++ rest) 4 = is := by
  have e : ∀ j, j < 4 → rdI (layB is 4 ++ rest) (j * 23) = nth is j := by
    intro j hj
    obtain ⟨r, hr⟩ := layB_drop h hj
    have hl := layB_len h (k := 4) (by omega)
    have := rd_inB (nth_len h hj) (ha j hj) (r ++ rest)
    rw [← List.append_assoc, ← hr, ← List.drop_append_of_le_length (by omega)] at this
    rw [← this]
    unfold rdI
    simp only [gN_drop, Nat.zero_add, Nat.add_zero, Nat.add_assoc]
  have e4 := nth_split h 4 (by omega)
  rw [List.take_of_length_le (by omega)] at e4
  refine Eq.trans ?_ e4
  unfold rdA
  simp only [show List.range 4 = [0, 1, 2, 3] from by decide, List.flatMap_cons, List.flatMap_nil]
  rw [e 0 (by omega), e 1 (by omega), e 2 (by omega), e 3 (by omega)]
theorem layB_92 {is : List Int} (h : is.length = 44) : (layB is 4).length = 92 := layB_len h (by omega)
theorem rd_seal {is : List Int} (h : is.length = 44) (ha : allI is 4) : rdA (bodyOf (sealOf 73 (layB is 4))) 4 = is := by
  rw [bodyOf_sealOf (by rw [layB_92 h]; omega)]
  exact rd_layB h ha _
theorem rdOk_seal {is : List Int} (h : is.length = 44) (ha : allI is 4) : rdOk (sealOf 73 (layB is 4)) := by
  have e := rd_seal h ha
  refine ⟨kindOf_sealOf (by rw [layB_92 h]; omega) (by omega), ?_, ?_⟩
  · rw [e]; exact ha
  · rw [e]
theorem read_laid {is : List Int} (h : is.length = 44) (ha : allI is 4) : rdL (layIL is) = is ∧ rdE (layIL is) = 0 := by
  have e : layIL is = sealOf 73 (layB is 4) := if_pos ha
  rw [e]
  have ho := rdOk_seal h ha
  exact ⟨by rw [show rdL _ = rdA _ 4 from if_pos ho]; exact rd_seal h ha, if_pos ho⟩
theorem layIL_len {is : List Int} (h : is.length = 44) (ha : allI is 4) : (layIL is).length = 128 := by
  rw [show layIL is = sealOf 73 (layB is 4) from if_pos ha]
  exact sealOf_len (by rw [layB_92 h]; omega)
theorem layIL_inj {is js : List Int} (h : is.length = 44) (h2 : js.length = 44) (ha : allI is 4) (hb : allI js 4) : layIL is = layIL js ↔ is = js := by
  constructor
  · intro e
    have e1 := (read_laid h ha).1
    rw [e, (read_laid h2 hb).1] at e1
    exact e1.symm
  · rintro rfl; rfl
theorem layIE_zero {is : List Int} : layIE is = 0 ↔ allI is 4 := by
  unfold layIE
  split
  · simp [*]
  · simp [*]

/-- Places. -/
theorem plc_low (n : Nat) (h : n < 162) : (plc0 n = 0 ∧ plc1 n = n ∧ plc2 n = 0 ∧ n < 6) ∨ (plc0 n = 1 ∧ plc1 n = (n : Int) - 6 ∧ plc2 n = 0 ∧ 6 ≤ n ∧ n < 18) ∨ (plc0 n = 2 ∧ plc1 n = ((n : Int) - 18) / 12 ∧ plc2 n = ((n : Int) - 18) % 12 ∧ 18 ≤ n) := by
  unfold plc0 plc1 plc2
  (repeat' split) <;> omega
theorem plc_inj (a b : Nat) (ha : a < 162) (hb : b < 162) : (plc0 a = plc0 b ∧ plc1 a = plc1 b ∧ plc2 a = plc2 b) ↔ a = b := by
  constructor
  · rintro ⟨h0, h1, h2⟩
    rcases plc_low a ha with ⟨a0, a1, a2, a3⟩ | ⟨a0, a1, a2, a3⟩ | ⟨a0, a1, a2, a3⟩ <;> rcases plc_low b hb with ⟨b0, b1, b2, b3⟩ | ⟨b0, b1, b2, b3⟩ | ⟨b0, b1, b2, b3⟩ <;> omega
  · rintro rfl; exact ⟨rfl, rfl, rfl⟩
theorem plc_within (a : Nat) (ha : a < 162) : (0 ≤ plc1 a ∧ 0 ≤ plc2 a) ∧ ((plc0 a = 0 ∧ plc1 a < 6 ∧ plc2 a = 0) ∨ (plc0 a = 1 ∧ plc1 a < 12 ∧ plc2 a = 0) ∨ (plc0 a = 2 ∧ plc1 a < 12 ∧ plc2 a < 12)) := by
  rcases plc_low a ha with ⟨a0, a1, a2, a3⟩ | ⟨a0, a1, a2, a3⟩ | ⟨a0, a1, a2, a3⟩ <;> omega
theorem need_ok (n : Nat) (h : n < 20737) : (n : Int) ≤ needI n * 128 ∧ (needI n = 0 ∨ (needI n - 1) * 128 < n) ∧ 0 ≤ needI n ∧ needI n ≤ 162 := by
  unfold needI
  (repeat' split) <;> omega
theorem need_grow (n : Nat) (h : n < 20736) : needI n ≤ needI ((n : Int) + 1) ∧ needI (-(n : Int)) = 0 := by
  unfold needI
  (repeat' split) <;> omega

/-- One of four another one. -/
def putI (is i : List Int) (k : Nat) : List Int := is.take (k * 11) ++ i ++ is.drop (k * 11 + 11)
theorem putI_len {is i : List Int} (h : is.length = 44) (hi : i.length = 11) {k : Nat} (hk : k < 4) : (putI is i k).length = 44 := by simp [putI, h, hi]; omega
theorem nth_putI {is i : List Int} (h : is.length = 44) (hi : i.length = 11) {k j : Nat} (hk : k < 4) (hj : j < 4) : nth (putI is i k) j = if j = k then i else nth is j := by
  unfold nth putI
  split
  · rename_i e
    subst e
    rw [List.append_assoc, List.drop_append, List.drop_of_length_le (by rw [List.length_take]; omega), List.length_take, show min (j * 11) is.length = j * 11 from by omega, Nat.sub_self, List.drop_zero, List.nil_append, List.take_append_of_le_length (by omega), List.take_of_length_le (by omega)]
  · rename_i hne
    by_cases hlt : j < k
    · rw [List.append_assoc, List.drop_append_of_le_length (by rw [List.length_take]; omega), List.take_append_of_le_length (by rw [List.length_drop, List.length_take]; omega), List.drop_take, List.take_take]
      congr 1; omega
    · rw [List.drop_append, List.drop_of_length_le (by rw [List.length_append, List.length_take]; omega), List.nil_append, List.length_append, List.length_take, List.drop_drop]
      congr 2; omega
theorem layB_get {is : List Int} (h : is.length = 44) {j q : Nat} (hj : j < 4) (hq : q < 23) : (layB is 4)[j * 23 + q]? = (inB (nth is j))[q]? := by
  obtain ⟨r, hr⟩ := layB_drop h hj
  have hl := inB_len (nth_len h hj)
  rw [← List.getElem?_drop, hr, List.getElem?_append_left (by omega)]
theorem seal_get (xs : List Nat) (h : xs.length = 92) (q : Nat) (hq : q < 124) : (sealOf 73 xs)[q]? = some (if q = 0 then 73 else (xs[q - 1]?).getD 0) := by
  have hp := padTo_len (n := 123) (xs := xs) (by omega)
  unfold sealOf
  rw [List.getElem?_append_left (by simp [hp]; omega)]
  rcases q with _ | q
  · simp
  · rw [List.getElem?_cons_succ, if_neg (by omega), Nat.add_sub_cancel]
    by_cases hlt : q < 92
    · unfold padTo
      rw [List.getElem?_append_left (by omega), List.getElem?_eq_getElem (by omega)]
      rfl
    · rw [pad_zero (by omega) (by omega), List.getElem?_eq_none (by omega)]
      rfl
theorem slot_other {is i : List Int} (h : is.length = 44) (hi : i.length = 11) (ha : allI is 4) {k : Nat} (hk : k < 4) (hb : allI (putI is i k) 4) {q : Nat} (hq : q < 124) (ho : ¬ (1 + 23 * k ≤ q ∧ q < 1 + 23 * (k + 1))) :
    (layIL (putI is i k))[q]? = (layIL is)[q]? := by
  rw [show layIL is = sealOf 73 (layB is 4) from if_pos ha, show layIL (putI is i k) = sealOf 73 (layB (putI is i k) 4) from if_pos hb]
  rw [seal_get _ (layB_92 h) q hq, seal_get _ (layB_92 (putI_len h hi hk)) q hq]
  split
  · rfl
  · rename_i h0
    by_cases hlt : q - 1 < 92
    · have e : q - 1 = ((q - 1) / 23) * 23 + (q - 1) % 23 := by omega
      rw [e, layB_get h (by omega) (by omega), layB_get (putI_len h hi hk) (by omega) (by omega), nth_putI h hi hk (by omega), if_neg (by omega)]
    · rw [List.getElem?_eq_none (by rw [layB_92 (putI_len h hi hk)]; omega), List.getElem?_eq_none (by rw [layB_92 h]; omega)]
theorem putI_same {is i : List Int} (h : is.length = 44) (hi : i.length = 11) {k : Nat} (hk : k < 4) : is = putI is i k ↔ nth is k = i := by
  constructor
  · intro e
    have := nth_putI h hi hk hk
    rw [if_pos rfl, ← e] at this
    exact this
  · intro e
    unfold putI
    rw [← e]
    unfold nth
    rw [List.append_assoc, ← List.drop_drop, List.take_append_drop, List.take_append_drop]
end Go.Proofs.Ythbdnaogjmnagaa
