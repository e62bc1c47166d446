/- The statements on directories: a slot that is freed: plain facts. -/
import Derived.Test.YtngffmchjjpfbaaLaw9d
namespace Go.Proofs.Ytngffmchjjpfbaa
set_option linter.unusedVariables false
open Go.RowKit

/-- The slot of a number, at a place. -/
def mkS (z : Int) (j : Nat) : Slot := (1 + ((low z 60000 : Nat) : Int), 1 + ((low z 3 : Nat) : Int), strN [97 + j, 97 + low z 26])
/-- The slots of the first m numbers. -/
def tL (zs : List Int) (m : Nat) : List Slot := (List.range m).map (fun j => mkS (zs.getD j 0) j) ++ List.replicate (4 - m) zS
theorem tL_len {zs : List Int} {m : Nat} (h : m ≤ 4) : (tL zs m).length = 4 := by simp [tL]; omega
theorem tL_zero (zs : List Int) : tL zs 0 = zL := rfl
theorem tL_set (zs : List Int) (k : Nat) (h : k < 4) : (tL zs k).set k (mkS (zs.getD k 0) k) = tL zs (k + 1) := by
  unfold tL
  rw [List.set_append_right _ _ (by simp), List.length_map, List.length_range, Nat.sub_self, show 4 - k = (4 - (k + 1)) + 1 from by omega, List.replicate_succ, List.set_cons_zero, List.range_succ, List.map_append]
  simp
theorem nS_tL (zs : List Int) {m i : Nat} (hm : m ≤ 4) (hi : i < 4) : nS (tL zs m) i = if i < m then mkS (zs.getD i 0) i else zS := by
  unfold nS tL
  split
  · rename_i h
    rw [List.getD_eq_getElem?_getD, List.getElem?_append_left (by simpa using h), List.getElem?_map, List.getElem?_range h]
    rfl
  · rename_i h
    rw [List.getD_eq_getElem?_getD, List.getElem?_append_right (by simp; omega), List.getElem?_replicate]
    split <;> rfl
def nw9 (zs : List Int) (m q : Nat) : List Slot := (tL zs m).set q zS
theorem nw9_len {zs : List Int} {m q : Nat} (h : m ≤ 4) : (nw9 zs m q).length = 4 := by simp [nw9, tL_len h]
theorem nS_nw9 (zs : List Int) {m q i : Nat} (hm : m ≤ 4) (hi : i < 4) : nS (nw9 zs m q) i = if i < m ∧ i ≠ q then mkS (zs.getD i 0) i else zS := by
  have h := nS_tL zs hm hi
  unfold nS nw9 at *
  rw [List.getD_eq_getElem?_getD, List.getElem?_set]
  rw [List.getD_eq_getElem?_getD] at h
  by_cases hq : q = i
  · subst hq
    rw [if_pos rfl, if_pos (by rw [tL_len hm]; exact hi), if_neg (by simp)]
    rfl
  · rw [if_neg hq, h]
    by_cases h2 : i < m
    · rw [if_pos h2, if_pos ⟨h2, fun e => hq e.symm⟩]
    · rw [if_neg h2, if_neg (fun e => h2 e.1)]
theorem bytes2 {a b : Nat} (ha : a < 256) (hb : b < 256) : Bytes [a, b] := Bytes.cons ha (Bytes.cons hb Bytes.nil)
theorem mkS_nm (z : Int) (j : Nat) : (mkS z j).2.2 = strN [97 + j, 97 + low z 26] := rfl
theorem nmB2 (z : Int) {j : Nat} (hj : j < 4) : Bytes [97 + j, 97 + low z 26] := bytes2 (by omega) (by have := low_lt z (n := 26) (by omega); omega)
theorem badB_let : ∀ n, n < 123 → 97 ≤ n → badB (UInt8.ofNat n) = false := by decide +kernel
theorem okN_mkS (z : Int) {j : Nat} (hj : j < 4) : okN (mkS z j).2.2 = true := by
  have hl := low_lt z (n := 26) (by omega)
  rw [mkS_nm]
  have e : (strN [97 + j, 97 + low z 26]).toList = [UInt8.ofNat (97 + j), UInt8.ofNat (97 + low z 26)] := by rw [ByteArray.toList_eq, strN_list]; rfl
  have b1 := badB_let (97 + j) (by omega) (by omega)
  have b2 := badB_let (97 + low z 26) (by omega) (by omega)
  have n1 : UInt8.ofNat (97 + j) ≠ 46 := by
    intro h
    have := congrArg UInt8.toNat h
    simp [UInt8.toNat_ofNat'] at this
    omega
  unfold okN okL
  rw [e]
  generalize UInt8.ofNat (97 + j) = u1 at *
  generalize UInt8.ofNat (97 + low z 26) = u2 at *
  simp [b1, b2, n1]
theorem mayS_mkS (z : Int) {j : Nat} (hj : j < 4) : mayS (mkS z j) = true := by
  have h1 := low_lt z (n := 60000) (by omega)
  have h2 := low_lt z (n := 3) (by omega)
  have a1 : inW (mkS z j).1 = true := by
    show (decide ((1 : Int) ≤ 1 + ((low z 60000 : Nat) : Int)) && decide (1 + ((low z 60000 : Nat) : Int) ≤ 65535)) = true
    rw [decide_eq_true (by omega), decide_eq_true (by omega)]; rfl
  have a2 : decide (1 ≤ (mkS z j).2.1) = true := decide_eq_true (by show (1 : Int) ≤ 1 + ((low z 3 : Nat) : Int); omega)
  have a3 : decide ((mkS z j).2.1 ≤ 3) = true := decide_eq_true (by show 1 + ((low z 3 : Nat) : Int) ≤ 3; omega)
  unfold mayS
  rw [okN_mkS z hj, a1, a2, a3]
  simp
theorem mkS_ino (z : Int) (j : Nat) : ((mkS z j).1 == 0) = false := by
  simp [mkS]
  omega
theorem isNm_mkS (z z' : Int) {i j : Nat} (hi : i < 4) (hj : j < 4) (hz : i = j → z = z') : isNm (mkS z' j).2.2 (mkS z i) = decide (i = j) := by
  unfold isNm
  rw [mkS_ino, mkS_nm, mkS_nm, strN_eq (nmB2 z hi) (nmB2 z' hj)]
  by_cases h : i = j
  · subst h
    rw [hz rfl]
    simp
  · rw [decide_eq_false h, decide_eq_false (fun e => h (by injection e; omega))]
    rfl
theorem isNm_zS (nm : ByteArray) : isNm nm zS = false := rfl
theorem findA_none (p : Slot → Bool) : ∀ (l : List Slot) (i : Int), (∀ k, k < l.length → p (nS l k) = false) → findA p l i = -1 := by
  intro l
  induction l with
  | nil => intro i _; rfl
  | cons s r ih =>
    intro i h
    have h0 := h 0 (by simp)
    rw [show nS (s :: r) 0 = s from rfl] at h0
    unfold findA
    rw [h0]
    refine ih (i + 1) (fun k hk => ?_)
    have := h (k + 1) (by simpa using hk)
    rwa [show nS (s :: r) (k + 1) = nS r k from by simp [nS]] at this
theorem find_nw9 (zs : List Int) {m q j : Nat} (hm : m ≤ 4) (hj : j < m) : findL (nw9 zs m q) (mkS (zs.getD j 0) j).2.2 = if j = q then -1 else (j : Int) := by
  have hlen := nw9_len (zs := zs) (q := q) hm
  have key : ∀ i, i < 4 → isNm (mkS (zs.getD j 0) j).2.2 (nS (nw9 zs m q) i) = decide (i = j ∧ j ≠ q) := by
    intro i hi
    rw [nS_nw9 zs hm hi]
    by_cases h : i < m ∧ i ≠ q
    · rw [if_pos h, isNm_mkS _ _ hi (by omega) (fun e => by rw [e])]
      by_cases e : i = j
      · subst e; simp [h.2]
      · rw [decide_eq_false e, decide_eq_false (fun x => e x.1)]
    · rw [if_neg h, isNm_zS]
      symm
      rw [decide_eq_false_iff_not]
      rintro ⟨rfl, h2⟩
      exact h ⟨hj, h2⟩
  unfold findL
  by_cases hq : j = q
  · rw [if_pos hq]
    refine findA_none _ _ _ (fun k hk => ?_)
    rw [hlen] at hk
    rw [key k hk, decide_eq_false]
    rintro ⟨_, h⟩; exact h hq
  · rw [if_neg hq]
    have := (findA_spec (isNm (mkS (zs.getD j 0) j).2.2) (nw9 zs m q) 0 j (by omega) (by omega)).2 ⟨by rw [key j (by omega)]; simp [hq], fun i hi => by rw [key i (by omega), decide_eq_false]; rintro ⟨h, _⟩; omega⟩
    omega
theorem find_zzz (zs : List Int) {m q : Nat} (hm : m ≤ 4) : findL (nw9 zs m q) ⟨#[122, 122, 122]⟩ = -1 := by
  refine findA_none _ _ _ (fun k hk => ?_)
  rw [nw9_len hm] at hk
  rw [nS_nw9 zs hm hk]
  split
  · unfold isNm
    rw [mkS_ino, mkS_nm]
    have : ((strN [97 + k, 97 + low (zs.getD k 0) 26]).toList == (⟨#[122, 122, 122]⟩ : ByteArray).toList) = false := by
      rw [ByteArray.toList_eq, ByteArray.toList_eq, strN_list]
      simp
    rw [this]; rfl
  · rfl
theorem free_nw9 (zs : List Int) {m q : Nat} (hm : m ≤ 4) (hq : q < 4) : 0 ≤ freeL (nw9 zs m q) ∧ freeL (nw9 zs m q) ≤ (q : Int) := by
  have hlen := nw9_len (zs := zs) (q := q) hm
  have hz : isFr (nS (nw9 zs m q) q) = true := by
    rw [nS_nw9 zs hm hq, if_neg (fun h => h.2 rfl)]; rfl
  have gen : ∀ (l : List Slot) (i : Int) (k : Nat), k < l.length → isFr (nS l k) = true → i ≤ findA isFr l i ∧ findA isFr l i ≤ i + k := by
    intro l
    induction l with
    | nil => intro i k h; simp at h
    | cons s r ih =>
      intro i k hk hp
      unfold findA
      split
      · omega
      · rename_i hs
        cases k with
        | zero => exact absurd hp hs
        | succ k =>
          rw [show nS (s :: r) (k + 1) = nS r k from by simp [nS]] at hp
          have := ih (i + 1) k (by simpa using hk) hp
          omega
  have := gen (nw9 zs m q) 0 q (by omega) hz
  unfold freeL
  omega
theorem all_nw9 (zs : List Int) {m q : Nat} (hm : m ≤ 4) : allS (nw9 zs m q) 4 := by
  intro j hj
  have h := nS_nw9 zs (q := q) hm hj
  unfold goodS
  rw [h]
  split
  · rename_i hc
    rw [mayS_mkS _ hj, find_nw9 zs hm hc.1, if_neg hc.2]
    simp
  · rfl
theorem LV_set3 {ss : List Slot} {k : Nat} (s : Slot) (h : k < ss.length) : (LV ss).take (k * 3) ++ sV s ++ (LV ss).drop (k * 3 + (sV s).length) = LV (ss.set k s) := LV_put s h
end Go.Proofs.Ytngffmchjjpfbaa
