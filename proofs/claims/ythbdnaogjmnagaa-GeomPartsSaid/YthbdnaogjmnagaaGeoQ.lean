/- Each sector of a disk is one thing alone: plain mathematics. -/
import Derived.Test.YthbdnaogjmnagaaGeoP
namespace Go.Proofs.Ythbdnaogjmnagaa
set_option linter.unusedVariables false
open Go.RowKit

def kS (L s : Int) : Int := (s - 2) / L
def rS (L s : Int) : Int := (s - 2) % L
theorem krS {L s : Int} (hL : 0 < L) (hs : 2 ≤ s) : s - 2 = kS L s * L + rS L s ∧ 0 ≤ rS L s ∧ rS L s < L ∧ 0 ≤ kS L s := by
  unfold kS rS
  refine ⟨?_, Int.emod_nonneg _ (by omega), Int.emod_lt_of_pos _ hL, Int.ediv_nonneg (by omega) (by omega)⟩
  have := Int.mul_ediv_add_emod (s - 2) L
  rw [Int.mul_comm] at this
  omega
theorem kr_of {L s k r : Int} (h : s - 2 = k * L + r) (h0 : 0 ≤ r) (h1 : r < L) : kS L s = k ∧ rS L s = r := by
  have e := quot_eq h h0 h1
  refine ⟨e, ?_⟩
  unfold rS
  rw [h, Int.add_comm, Int.add_mul_emod_self_right, Int.emod_eq_of_lt h0 h1]
theorem divmod_eq {x y b i j : Int} (h : x * b + i = y * b + j) (hi : 0 ≤ i ∧ i < b) (hj : 0 ≤ j ∧ j < b) : x = y ∧ i = j := by
  have e1 : (x * b + i) / b = x := by rw [Int.add_comm, Int.add_mul_ediv_right _ _ (by omega), Int.ediv_eq_zero_of_lt hi.1 hi.2]; omega
  have e2 : (y * b + j) / b = y := by rw [Int.add_comm, Int.add_mul_ediv_right _ _ (by omega), Int.ediv_eq_zero_of_lt hj.1 hj.2]; omega
  rw [h, e2] at e1
  subst e1
  exact ⟨rfl, by omega⟩
/-- What is counted so far in a sector: of the groups below K, of the inodes below I, of the sectors below S. -/
def cntG (b c K I S s : Int) : Int :=
  if s < 2 then 1 else if rS (lenG b c) s = 0 then (if kS (lenG b c) s < K then 1 else 0) else if rS (lenG b c) s ≤ b / 4 then (if kS (lenG b c) s * b + 4 * (rS (lenG b c) s - 1) + 1 < I then 1 else 0) else (if s < S then 1 else 0)
/-- How many blocks stand below a sector. -/
def manyG (b c s : Int) : Int := if s < 2 then 0 else kS (lenG b c) s * c + (if rS (lenG b c) s ≤ b / 4 then 0 else rS (lenG b c) s - 1 - b / 4)

section
variable {a b c : Int}
theorem lenG_eq : lenG b c = 1 + b / 4 + c := rfl
/-- A group. -/
theorem cnt_group (hm : mayG a b c) {k : Int} (k0 : 0 ≤ k) (k1 : k < a) (I S : Int) :
    (grpG a b c k = 2 + k * lenG b c ∧ 2 ≤ grpG a b c k ∧ grpG a b c k < secG a b c) ∧ cntG b c k I S (grpG a b c k) = 0 ∧ ∀ s, cntG b c (k + 1) I S s = if s = grpG a b c k then 1 else cntG b c k I S s := by
  have hL := lenG_bd hm
  have hg := grpG_yes hm k0 k1
  have hb := mul_bd8 (k := k) k0 (by unfold mayG at hm; omega) (by omega) hL.2
  have hk : (k + 1) * lenG b c ≤ a * lenG b c := Int.mul_le_mul_of_nonneg_right (by omega) (by omega)
  rw [Int.add_mul] at hk
  obtain ⟨e1, e2⟩ := kr_of (L := lenG b c) (s := grpG a b c k) (k := k) (r := 0) (by omega) (by omega) (by omega)
  refine ⟨⟨hg, by omega, by rw [secG_yes hm]; omega⟩, ?_, fun s => ?_⟩
  · unfold cntG
    rw [if_neg (by omega), if_pos e2, if_neg (by omega)]
  · by_cases hs : s = grpG a b c k
    · rw [if_pos hs, hs]
      unfold cntG
      rw [if_neg (by omega), if_pos e2, if_pos (by omega)]
    · rw [if_neg hs]
      unfold cntG
      by_cases h2 : s < 2
      · rw [if_pos h2, if_pos h2]
      · rw [if_neg h2, if_neg h2]
        by_cases hr : rS (lenG b c) s = 0
        · rw [if_pos hr, if_pos hr]
          obtain ⟨f1, _⟩ := krS (L := lenG b c) (s := s) (by omega) (by omega)
          have hne : kS (lenG b c) s ≠ k := fun h => hs (by rw [h, hr] at f1; omega)
          by_cases hlt : kS (lenG b c) s < k
          · rw [if_pos hlt, if_pos (by omega)]
          · rw [if_neg hlt, if_neg (by omega)]
        · rw [if_neg hr, if_neg hr]
/-- An inode. -/
theorem cnt_inode (hm : mayG a b c) {i : Int} (i0 : 1 ≤ i) (i1 : i ≤ inosG a b c) (K S : Int) :
    ((2 ≤ inoS a b c i ∧ inoS a b c i < secG a b c) ∧ (0 ≤ inoA a b c i ∧ inoA a b c i ≤ 3) ∧ (0 ≤ oinK a b c i ∧ oinK a b c i ≤ 8) ∧ (0 ≤ oinI a b c i ∧ oinI a b c i ≤ 32) ∧ oinK a b c i * b + oinI a b c i = i - 1) ∧
    (inoA a b c i = 0 → cntG b c K i S (inoS a b c i) = 0 ∧ ∀ s, cntG b c K (i + 1) S s = if s = inoS a b c i then 1 else cntG b c K i S s) ∧ (inoA a b c i ≠ 0 → ∀ s, cntG b c K (i + 1) S s = cntG b c K i S s) := by
  have hL := lenG_bd hm
  have hm' := hm
  unfold mayG at hm'
  obtain ⟨_, q0, q1, j0, j1⟩ := oin_lt ⟨i0, i1⟩
  have hk : oinK a b c i = (i - 1) / b := if_pos ⟨i0, i1⟩
  have hj : oinI a b c i = (i - 1) % b := if_pos ⟨i0, i1⟩
  have hS : inoS a b c i = grpG a b c ((i - 1) / b) + 1 + ((i - 1) % b) / 4 := if_pos ⟨i0, i1⟩
  have hA : inoA a b c i = ((i - 1) % b) % 4 := if_pos ⟨i0, i1⟩
  have hdm := Int.mul_ediv_add_emod (i - 1) b
  rw [Int.mul_comm] at hdm
  generalize (i - 1) / b = k at *
  generalize (i - 1) % b = j at *
  have hg := grpG_yes hm q0 q1
  have hb := mul_bd8 (k := k) q0 (by omega) (by omega) hL.2
  have hk' : (k + 1) * lenG b c ≤ a * lenG b c := Int.mul_le_mul_of_nonneg_right (by omega) (by omega)
  rw [Int.add_mul] at hk'
  have hjq : j / 4 < b / 4 := by omega
  have hLe := lenG_eq (b := b) (c := c)
  obtain ⟨e1, e2⟩ := kr_of (L := lenG b c) (s := inoS a b c i) (k := k) (r := 1 + j / 4) (by omega) (by omega) (by omega)
  have uniq : ∀ s, 2 ≤ s → rS (lenG b c) s ≠ 0 → rS (lenG b c) s ≤ b / 4 → kS (lenG b c) s * b + 4 * (rS (lenG b c) s - 1) + 1 = i → s = inoS a b c i ∧ inoA a b c i = 0 := by
    intro s h2 hr hr2 he
    obtain ⟨f1, f2, f3, f4⟩ := krS (L := lenG b c) (s := s) (by omega) h2
    obtain ⟨g1, g2⟩ := divmod_eq (b := b) (x := kS (lenG b c) s) (i := 4 * (rS (lenG b c) s - 1)) (y := k) (j := j) (by omega) (by omega) (by omega)
    rw [g1] at f1
    exact ⟨by omega, by omega⟩
  refine ⟨⟨⟨by omega, by rw [secG_yes hm]; omega⟩, by omega, by omega, by omega, by rw [hk, hj]; omega⟩, fun ha0 => ⟨?_, fun s => ?_⟩, fun ha0 s => ?_⟩
  · unfold cntG
    rw [if_neg (by omega), if_neg (by omega), if_pos (by omega), e1, e2, if_neg (by omega)]
  · by_cases hs : s = inoS a b c i
    · rw [if_pos hs, hs]
      unfold cntG
      rw [if_neg (by omega), if_neg (by omega), if_pos (by omega), e1, e2, if_pos (by omega)]
    · rw [if_neg hs]
      unfold cntG
      by_cases h2 : s < 2
      · rw [if_pos h2, if_pos h2]
      · rw [if_neg h2, if_neg h2]
        by_cases hr : rS (lenG b c) s = 0
        · rw [if_pos hr, if_pos hr]
        · rw [if_neg hr, if_neg hr]
          by_cases hr2 : rS (lenG b c) s ≤ b / 4
          · rw [if_pos hr2, if_pos hr2]
            have hne : kS (lenG b c) s * b + 4 * (rS (lenG b c) s - 1) + 1 ≠ i := fun h => hs (uniq s (by omega) hr hr2 h).1
            by_cases hlt : kS (lenG b c) s * b + 4 * (rS (lenG b c) s - 1) + 1 < i
            · rw [if_pos hlt, if_pos (by omega)]
            · rw [if_neg hlt, if_neg (by omega)]
          · rw [if_neg hr2, if_neg hr2]
  · unfold cntG
    by_cases h2 : s < 2
    · rw [if_pos h2, if_pos h2]
    · rw [if_neg h2, if_neg h2]
      by_cases hr : rS (lenG b c) s = 0
      · rw [if_pos hr, if_pos hr]
      · rw [if_neg hr, if_neg hr]
        by_cases hr2 : rS (lenG b c) s ≤ b / 4
        · rw [if_pos hr2, if_pos hr2]
          have hne : kS (lenG b c) s * b + 4 * (rS (lenG b c) s - 1) + 1 ≠ i := fun h => ha0 (uniq s (by omega) hr hr2 h).2
          by_cases hlt : kS (lenG b c) s * b + 4 * (rS (lenG b c) s - 1) + 1 < i
          · rw [if_pos hlt, if_pos (by omega)]
          · rw [if_neg hlt, if_neg (by omega)]
        · rw [if_neg hr2, if_neg hr2]
/-- A sector, as a block or none. -/
theorem cnt_block (hm : mayG a b c) {s : Int} (s0 : 0 ≤ s) (s1 : s < secG a b c) (K I : Int) :
    ((0 ≤ oblK a b c s ∧ oblK a b c s < a ∧ fstG a b c (oblK a b c s) + oblI a b c s = s ∧ (0 ≤ oblI a b c s ∧ oblI a b c s ≤ 96) ∧ cntG b c K I s s = 0 ∧ manyG b c (s + 1) = manyG b c s + 1 ∧ ∀ t, cntG b c K I (s + 1) t = if t = s then 1 else cntG b c K I s t)) ∨
    (oblK a b c s = -1 ∧ manyG b c (s + 1) = manyG b c s ∧ ∀ t, cntG b c K I (s + 1) t = cntG b c K I s t) := by
  have hL := lenG_bd hm
  have hm' := hm
  unfold mayG at hm'
  have hLe := lenG_eq (b := b) (c := c)
  by_cases h2 : s < 2
  · refine .inr ⟨(isB_not (fun h => by have := h.1; omega)).1, ?_, fun t => ?_⟩
    · unfold manyG
      rw [if_pos h2]
      by_cases h3 : s + 1 < 2
      · rw [if_pos h3]
      · rw [if_neg h3]
        obtain ⟨e1, e2⟩ := kr_of (L := lenG b c) (s := s + 1) (k := 0) (r := 0) (by omega) (by omega) (by omega)
        rw [e1, e2, if_pos (by omega)]; omega
    · unfold cntG
      by_cases h4 : t < 2
      · rw [if_pos h4, if_pos h4]
      · rw [if_neg h4, if_neg h4, if_neg (show ¬ t < s + 1 by omega), if_neg (show ¬ t < s by omega)]
  obtain ⟨f1, f2, f3, f4⟩ := krS (L := lenG b c) (s := s) (by omega) (by omega)
  have hka : kS (lenG b c) s < a := (quot_lt (by omega) (by omega) (by rw [secG_yes hm] at s1; exact s1)).2
  have hs1 : kS (lenG b c) (s + 1) * c + (if rS (lenG b c) (s + 1) ≤ b / 4 then 0 else rS (lenG b c) (s + 1) - 1 - b / 4) = kS (lenG b c) s * c + (if rS (lenG b c) s ≤ b / 4 then 0 else rS (lenG b c) s - 1 - b / 4) + (if rS (lenG b c) s ≤ b / 4 then 0 else 1) := by
    by_cases hr : rS (lenG b c) s + 1 < lenG b c
    · obtain ⟨e1, e2⟩ := kr_of (L := lenG b c) (s := s + 1) (k := kS (lenG b c) s) (r := rS (lenG b c) s + 1) (by omega) (by omega) hr
      rw [e1, e2]
      by_cases h5 : rS (lenG b c) s ≤ b / 4
      · rw [if_pos h5, if_pos h5]
        by_cases h6 : rS (lenG b c) s + 1 ≤ b / 4
        · rw [if_pos h6]; omega
        · rw [if_neg h6]; omega
      · rw [if_neg h5, if_neg h5, if_neg (by omega)]; omega
    · obtain ⟨e1, e2⟩ := kr_of (L := lenG b c) (s := s + 1) (k := kS (lenG b c) s + 1) (r := 0) (by rw [Int.add_mul]; omega) (by omega) (by omega)
      rw [e1, e2, if_pos (by omega), if_neg (by omega), if_neg (by omega), Int.add_mul]; omega
  have hmany : manyG b c (s + 1) = manyG b c s + (if rS (lenG b c) s ≤ b / 4 then 0 else 1) := by
    unfold manyG
    rw [if_neg h2, if_neg (by omega), hs1]
  have hf := fstG_yes hm f4 hka
  by_cases hr : rS (lenG b c) s ≤ b / 4
  · right
    rw [if_pos hr] at hmany
    have hno : ¬ isB a b c s := by
      rintro ⟨_, _, h3⟩
      change fstG a b c (kS (lenG b c) s) ≤ s at h3
      omega
    refine ⟨(isB_not hno).1, by omega, fun t => ?_⟩
    unfold cntG
    by_cases h4 : t < 2
    · rw [if_pos h4, if_pos h4]
    · rw [if_neg h4, if_neg h4]
      by_cases h5 : rS (lenG b c) t = 0
      · rw [if_pos h5, if_pos h5]
      · rw [if_neg h5, if_neg h5]
        by_cases h6 : rS (lenG b c) t ≤ b / 4
        · rw [if_pos h6, if_pos h6]
        · rw [if_neg h6, if_neg h6]
          have hne : t ≠ s := fun h => h6 (by rw [h]; exact hr)
          by_cases h7 : t < s
          · rw [if_pos h7, if_pos (by omega)]
          · rw [if_neg h7, if_neg (by omega)]
  · left
    rw [if_neg hr] at hmany
    obtain ⟨o1, o2⟩ := isB_of (a := a) (b := b) (c := c) (s := s) (k := kS (lenG b c) s) hm f4 hka (by omega) (by omega)
    rw [o1, o2]
    refine ⟨f4, hka, by omega, by omega, ?_, hmany, fun t => ?_⟩
    · unfold cntG
      rw [if_neg h2, if_neg (by omega), if_neg hr, if_neg (by omega)]
    · by_cases ht : t = s
      · rw [if_pos ht, ht]
        unfold cntG
        rw [if_neg h2, if_neg (by omega), if_neg hr, if_pos (by omega)]
      · rw [if_neg ht]
        unfold cntG
        by_cases h7 : t < s
        · rw [if_pos h7, if_pos (show t < s + 1 by omega)]
        · rw [if_neg h7, if_neg (show ¬ t < s + 1 by omega)]
theorem cnt_end (hm : mayG a b c) {s : Int} (s0 : 0 ≤ s) (s1 : s < secG a b c) : cntG b c a (inosG a b c + 1) (secG a b c) s = 1 := by
  have hL := lenG_bd hm
  have hm' := hm
  unfold mayG at hm'
  unfold cntG
  by_cases h2 : s < 2
  · rw [if_pos h2]
  rw [if_neg h2]
  obtain ⟨f1, f2, f3, f4⟩ := krS (L := lenG b c) (s := s) (by omega) (by omega)
  have hka : kS (lenG b c) s < a := (quot_lt (by omega) (by omega) (by rw [secG_yes hm] at s1; exact s1)).2
  by_cases hr : rS (lenG b c) s = 0
  · rw [if_pos hr, if_pos hka]
  rw [if_neg hr]
  by_cases hr2 : rS (lenG b c) s ≤ b / 4
  · rw [if_pos hr2, inosG_yes hm]
    have hk' : (kS (lenG b c) s + 1) * b ≤ a * b := Int.mul_le_mul_of_nonneg_right (by omega) (by omega)
    rw [Int.add_mul] at hk'
    rw [if_pos (by omega)]
  · rw [if_neg hr2, if_pos s1]
theorem cnt_start (hm : mayG a b c) (s : Int) (s0 : 0 ≤ s) : cntG b c 0 1 0 s = if s < 2 then 1 else 0 := by
  have hL := lenG_bd hm
  have hm' := hm
  unfold mayG at hm'
  unfold cntG
  by_cases h2 : s < 2
  · rw [if_pos h2, if_pos h2]
  rw [if_neg h2, if_neg h2]
  obtain ⟨f1, f2, f3, f4⟩ := krS (L := lenG b c) (s := s) (by omega) (by omega)
  by_cases hr : rS (lenG b c) s = 0
  · rw [if_pos hr, if_neg (by omega)]
  rw [if_neg hr]
  have hp : 0 ≤ kS (lenG b c) s * b := Int.mul_nonneg f4 (by omega)
  by_cases hr2 : rS (lenG b c) s ≤ b / 4
  · rw [if_pos hr2, if_neg (by omega)]
  · rw [if_neg hr2, if_neg (by omega)]
theorem many_start : manyG b c 0 = 0 := by unfold manyG; rw [if_pos (by omega)]
theorem many_end (hm : mayG a b c) : manyG b c (secG a b c) = blosG a b c := by
  have hL := lenG_bd hm
  have hm' := hm
  unfold mayG at hm'
  have hb := mul_bd8 (k := a) (by omega) (by omega) (show 0 ≤ lenG b c by omega) hL.2
  obtain ⟨e1, e2⟩ := kr_of (L := lenG b c) (s := secG a b c) (k := a) (r := 0) (by rw [secG_yes hm]; omega) (by omega) (by omega)
  unfold manyG
  rw [if_neg (by rw [secG_yes hm]; omega), e1, e2, if_pos (by omega), blosG_yes hm]
  omega
theorem secG_sz (hm : mayG a b c) : 20 ≤ secG a b c := by
  have hL := lenG_bd hm
  have hm' := hm
  unfold mayG at hm'
  have hk' : 1 * lenG b c ≤ a * lenG b c := Int.mul_le_mul_of_nonneg_right (by omega) (by omega)
  rw [secG_yes hm]
  omega
end

/-- The values of a function, one behind the other. -/
def mapR (f : Int → Int) (n : Nat) : List Int := (List.range n).map fun i : Nat => f (i : Int)
theorem mapR_len (f : Int → Int) (n : Nat) : (mapR f n).length = n := by simp [mapR]
theorem mapR_get {f : Int → Int} {n k : Nat} (h : k < n) : (mapR f n)[k]? = some (f (k : Int)) := by simp [mapR, h]
theorem mapR_set {f g : Int → Int} {n k : Nat} {v : Int} (h : ∀ i : Nat, i < n → g (i : Int) = if (i : Int) = (k : Int) then v else f (i : Int)) : (mapR f n).set k v = mapR g n := by
  apply List.ext_getElem?
  intro i
  rw [List.getElem?_set]
  by_cases hk : k = i
  · subst hk
    rw [if_pos rfl, mapR_len]
    by_cases hi : k < n
    · rw [if_pos hi, mapR_get hi, h k hi, if_pos rfl]
    · rw [if_neg hi, List.getElem?_eq_none (by rw [mapR_len]; omega)]
  · rw [if_neg hk]
    by_cases hi : i < n
    · rw [mapR_get hi, mapR_get hi, h i hi, if_neg (by omega)]
    · rw [List.getElem?_eq_none (by rw [mapR_len]; omega), List.getElem?_eq_none (by rw [mapR_len]; omega)]
theorem mapR_congr {f g : Int → Int} {n : Nat} (h : ∀ i : Nat, i < n → g (i : Int) = f (i : Int)) : mapR g n = mapR f n := by
  unfold mapR
  exact List.map_congr_left (fun i hi => h i (List.mem_range.1 hi))
end Go.Proofs.Ythbdnaogjmnagaa
