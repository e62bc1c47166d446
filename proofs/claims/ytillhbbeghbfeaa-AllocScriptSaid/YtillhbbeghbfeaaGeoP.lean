/- Where things stand on a disk: plain mathematics. -/
import Derived.Test.YtillhbbeghbfeaaGeom
namespace Go.Proofs.Ytillhbbeghbfeaa
set_option linter.unusedVariables false
open Go.RowKit

def lenG (b c : Int) : Int := 1 + b / 4 + c
def secG (a b c : Int) : Int := if mayG a b c then 2 + a * lenG b c else 0
def inosG (a b c : Int) : Int := if mayG a b c then a * b else 0
def blosG (a b c : Int) : Int := if mayG a b c then a * c else 0
def grpG (a b c k : Int) : Int := if mayG a b c ∧ 0 ≤ k ∧ k < a then 2 + k * lenG b c else -1
def fstG (a b c k : Int) : Int := if mayG a b c ∧ 0 ≤ k ∧ k < a then 2 + k * lenG b c + 1 + b / 4 else -1
def oinK (a b c n : Int) : Int := if 1 ≤ n ∧ n ≤ inosG a b c then (n - 1) / b else -1
def oinI (a b c n : Int) : Int := if 1 ≤ n ∧ n ≤ inosG a b c then (n - 1) % b else -1
def inoS (a b c n : Int) : Int := if 1 ≤ n ∧ n ≤ inosG a b c then grpG a b c ((n - 1) / b) + 1 + ((n - 1) % b) / 4 else -1
def inoA (a b c n : Int) : Int := if 1 ≤ n ∧ n ≤ inosG a b c then ((n - 1) % b) % 4 else -1
/-- Is a sector a block? -/
def isB (a b c s : Int) : Prop := 2 ≤ s ∧ s < secG a b c ∧ fstG a b c ((s - 2) / lenG b c) ≤ s
instance (a b c s : Int) : Decidable (isB a b c s) := by unfold isB; infer_instance
def oblK (a b c s : Int) : Int := if isB a b c s then (s - 2) / lenG b c else -1
def oblI (a b c s : Int) : Int := if isB a b c s then s - fstG a b c ((s - 2) / lenG b c) else -1

theorem lenG_bd {a b c : Int} (h : mayG a b c) : 18 ≤ lenG b c ∧ lenG b c ≤ 105 := by unfold mayG at h; unfold lenG; omega
theorem mul_bd {a k L : Int} (h0 : 0 ≤ k) (h1 : k ≤ a) (hL : 0 ≤ L) : 0 ≤ k * L ∧ k * L ≤ a * L := ⟨Int.mul_nonneg h0 hL, Int.mul_le_mul_of_nonneg_right h1 hL⟩
theorem mul_bd8 {k L : Int} (h0 : 0 ≤ k) (h1 : k ≤ 8) (hL : 0 ≤ L) (hL2 : L ≤ 105) : 0 ≤ k * L ∧ k * L ≤ 840 := by
  have h := mul_bd h0 h1 hL
  omega
theorem secG_no {a b c : Int} (h : ¬ mayG a b c) : secG a b c = 0 := if_neg h
theorem secG_yes {a b c : Int} (h : mayG a b c) : secG a b c = 2 + a * lenG b c := if_pos h
theorem secG_bd (a b c : Int) : 0 ≤ secG a b c ∧ secG a b c ≤ 842 := by
  by_cases h : mayG a b c
  · have h1 := lenG_bd h
    have h2 := mul_bd8 (k := a) (by unfold mayG at h; omega) (by unfold mayG at h; omega) (by omega) h1.2
    rw [secG_yes h]; omega
  · rw [secG_no h]; omega
theorem inosG_no {a b c : Int} (h : ¬ mayG a b c) : inosG a b c = 0 := if_neg h
theorem inosG_yes {a b c : Int} (h : mayG a b c) : inosG a b c = a * b := if_pos h
theorem inosG_bd (a b c : Int) : 0 ≤ inosG a b c ∧ inosG a b c ≤ 256 := by
  by_cases h : mayG a b c
  · have h' := h
    unfold mayG at h'
    have h2 := mul_bd (k := a) (a := 8) (L := b) (by omega) (by omega) (by omega)
    rw [inosG_yes h]; omega
  · rw [inosG_no h]; omega
theorem blosG_no {a b c : Int} (h : ¬ mayG a b c) : blosG a b c = 0 := if_neg h
theorem blosG_yes {a b c : Int} (h : mayG a b c) : blosG a b c = a * c := if_pos h
theorem blosG_bd (a b c : Int) : 0 ≤ blosG a b c ∧ blosG a b c ≤ 768 := by
  by_cases h : mayG a b c
  · have h' := h
    unfold mayG at h'
    have h2 := mul_bd (k := a) (a := 8) (L := c) (by omega) (by omega) (by omega)
    rw [blosG_yes h]; omega
  · rw [blosG_no h]; omega
theorem grpG_bd (a b c k : Int) : -1 ≤ grpG a b c k ∧ grpG a b c k ≤ 842 := by
  unfold grpG
  split
  · rename_i h
    have h1 := lenG_bd h.1
    have h2 := mul_bd8 (k := k) h.2.1 (by have := h.1; unfold mayG at this; omega) (by omega) h1.2
    omega
  · omega
theorem fstG_bd (a b c k : Int) : -1 ≤ fstG a b c k ∧ fstG a b c k ≤ 851 := by
  unfold fstG
  split
  · rename_i h
    have h1 := lenG_bd h.1
    have h2 := mul_bd8 (k := k) h.2.1 (by have := h.1; unfold mayG at this; omega) (by omega) h1.2
    have := h.1
    unfold mayG at this
    omega
  · omega
theorem grpG_neg {a b c k : Int} : grpG a b c k < 0 ↔ ¬ (mayG a b c ∧ 0 ≤ k ∧ k < a) := by
  unfold grpG
  split
  · rename_i h
    have h1 := lenG_bd h.1
    have h2 := mul_bd8 (k := k) h.2.1 (by have := h.1; unfold mayG at this; omega) (by omega) h1.2
    exact ⟨fun h' => by omega, fun h' => absurd h h'⟩
  · rename_i h
    exact ⟨fun _ => h, fun _ => by omega⟩
/-- The group of a sector behind the first two. -/
theorem quot_lt {s a L : Int} (hL : 0 < L) (h0 : 2 ≤ s) (h1 : s < 2 + a * L) : 0 ≤ (s - 2) / L ∧ (s - 2) / L < a := by
  refine ⟨Int.ediv_nonneg (by omega) (by omega), ?_⟩
  exact Int.ediv_lt_of_lt_mul hL (by omega)
theorem quot_eq {s k L r : Int} (h : s - 2 = k * L + r) (h0 : 0 ≤ r) (h1 : r < L) : (s - 2) / L = k := by
  rw [h, Int.add_comm, Int.add_mul_ediv_right _ _ (by omega), Int.ediv_eq_zero_of_lt h0 h1]
  omega
theorem fstG_yes {a b c k : Int} (h : mayG a b c) (h0 : 0 ≤ k) (h1 : k < a) : fstG a b c k = 2 + k * lenG b c + 1 + b / 4 := if_pos ⟨h, h0, h1⟩
theorem fstG_no {a b c k : Int} (h : ¬ (mayG a b c ∧ 0 ≤ k ∧ k < a)) : fstG a b c k = -1 := if_neg h
theorem grpG_yes {a b c k : Int} (h : mayG a b c) (h0 : 0 ≤ k) (h1 : k < a) : grpG a b c k = 2 + k * lenG b c := if_pos ⟨h, h0, h1⟩
theorem oin_lt {a b c n : Int} (h : 1 ≤ n ∧ n ≤ inosG a b c) : mayG a b c ∧ 0 ≤ (n - 1) / b ∧ (n - 1) / b < a ∧ 0 ≤ (n - 1) % b ∧ (n - 1) % b < b := by
  by_cases hm : mayG a b c
  · rw [inosG_yes hm] at h
    have h' := hm
    unfold mayG at h'
    exact ⟨hm, Int.ediv_nonneg (by omega) (by omega), Int.ediv_lt_of_lt_mul (by omega) (by omega), Int.emod_nonneg _ (by omega), Int.emod_lt_of_pos _ (by omega)⟩
  · rw [inosG_no hm] at h; omega
/-- A sector is a block of group k just if it lies within it. -/
theorem isB_iff {a b c s : Int} : isB a b c s ↔ ∃ k, mayG a b c ∧ 0 ≤ k ∧ k < a ∧ fstG a b c k ≤ s ∧ s < fstG a b c k + c := by
  constructor
  · rintro ⟨h0, h1, h2⟩
    by_cases hm : mayG a b c
    · rw [secG_yes hm] at h1
      have hL := lenG_bd hm
      obtain ⟨k0, k1⟩ := quot_lt (a := a) (by omega) h0 h1
      refine ⟨_, hm, k0, k1, h2, ?_⟩
      rw [fstG_yes hm k0 k1]
      have := Int.lt_ediv_add_one_mul_self (s - 2) (show 0 < lenG b c by omega)
      rw [Int.add_mul] at this
      unfold lenG at *
      omega
    · rw [secG_no hm] at h1; omega
  · rintro ⟨k, hm, k0, k1, h1, h2⟩
    have hL := lenG_bd hm
    have hf := fstG_yes hm k0 k1
    have hb := mul_bd8 (k := k) k0 (by unfold mayG at hm; omega) (by omega) hL.2
    have hq : (s - 2) / lenG b c = k := quot_eq (r := s - 2 - k * lenG b c) (by omega) (by unfold mayG at hm; omega) (by unfold lenG at *; omega)
    have hk : (k + 1) * lenG b c ≤ a * lenG b c := Int.mul_le_mul_of_nonneg_right (by omega) (by omega)
    rw [Int.add_mul] at hk
    refine ⟨by unfold mayG at hm; omega, ?_, by rw [hq]; omega⟩
    rw [secG_yes hm]
    unfold lenG at *
    omega
theorem isB_of {a b c s k : Int} (hm : mayG a b c) (k0 : 0 ≤ k) (k1 : k < a) (h1 : fstG a b c k ≤ s) (h2 : s < fstG a b c k + c) : oblK a b c s = k ∧ oblI a b c s = s - fstG a b c k := by
  have hL := lenG_bd hm
  have hf := fstG_yes hm k0 k1
  have hq : (s - 2) / lenG b c = k := quot_eq (r := s - 2 - k * lenG b c) (by omega) (by unfold mayG at hm; omega) (by unfold lenG at *; omega)
  have hB : isB a b c s := isB_iff.2 ⟨k, hm, k0, k1, h1, h2⟩
  unfold oblK oblI
  rw [if_pos hB, if_pos hB, hq]
  exact ⟨rfl, rfl⟩
theorem isB_not {a b c s : Int} (h : ¬ isB a b c s) : oblK a b c s = -1 ∧ oblI a b c s = -1 := by
  unfold oblK oblI
  rw [if_neg h, if_neg h]
  exact ⟨rfl, rfl⟩
end Go.Proofs.Ytillhbbeghbfeaa
