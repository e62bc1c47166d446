/- Inodes: plain mathematics. -/
import Derived.Test.YthbdnaogjmnagaaSeal
import Derived.Test.YthbdnaogjmnagaaPtr
namespace Go.Proofs.Ythbdnaogjmnagaa
set_option linter.unusedVariables false
open Go.RowKit

def zI : List Int := List.replicate 11 0
/-- May an inode be? -/
def mayI (i : List Int) : Prop := i = zI ∨ ((1 ≤ i.getD 0 0 ∧ i.getD 0 0 ≤ 3) ∧ (0 ≤ i.getD 1 0 ∧ i.getD 1 0 ≤ 65535) ∧ (0 ≤ i.getD 2 0 ∧ i.getD 2 0 ≤ 20736) ∧ (i.drop 3).all word = true)
instance (i : List Int) : Decidable (mayI i) := by unfold mayI; infer_instance
/-- A number's bytes, the highest first. -/
def fixB (n m : Nat) : List Nat := (List.range m).map fun j => n / 2 ^ (8 * (m - 1 - j)) % 256
theorem fixB_len (n m : Nat) : (fixB n m).length = m := by simp [fixB]
theorem Bytes.fixB (n m : Nat) : Bytes (fixB n m) := by
  intro x hx
  obtain ⟨j, _, rfl⟩ := List.mem_map.1 hx
  exact Nat.mod_lt _ (by omega)
theorem fixB_one (n : Nat) : fixB n 1 = [n % 256] := by simp [fixB, List.range_succ]
theorem fixB_two (n : Nat) : fixB n 2 = [n / 256 % 256, n % 256] := by simp [fixB, List.range_succ]
theorem fixB_four (n : Nat) : fixB n 4 = be4 n := by simp [fixB, List.range_succ, be4]
/-- An inode's bytes. -/
def inB (i : List Int) : List Nat := fixB (i.getD 0 0).toNat 1 ++ fixB (i.getD 1 0).toNat 2 ++ fixB (i.getD 2 0).toNat 4 ++ ptrB (i.drop 3)
theorem inB_len {i : List Int} (h : i.length = 11) : (inB i).length = 23 := by
  unfold inB
  simp only [List.length_append, fixB_len, ptrB_len, List.length_drop, h]
theorem Bytes.inB (i : List Int) : Bytes (inB i) := (((Bytes.fixB _ _).append (Bytes.fixB _ _)).append (Bytes.fixB _ _)).append (Bytes.ptrB _)
/-- One of four. -/
def nth (is : List Int) (k : Nat) : List Int := (is.drop (k * 11)).take 11
theorem nth_len {is : List Int} {k : Nat} (h : is.length = 44) (hk : k < 4) : (nth is k).length = 11 := by simp [nth, h]; omega
def layB (is : List Int) (k : Nat) : List Nat := (List.range k).flatMap fun j => inB (nth is j)
theorem layB_succ (is : List Int) (k : Nat) : layB is (k + 1) = layB is k ++ inB (nth is k) := by simp [layB, List.range_succ]
theorem layB_len {is : List Int} (h : is.length = 44) : ∀ {k : Nat}, k ≤ 4 → (layB is k).length = 23 * k := by
  intro k
  induction k with
  | zero => intro _; rfl
  | succ k ih => intro hk; rw [layB_succ, List.length_append, ih (by omega), inB_len (nth_len h (by omega))]; omega
theorem Bytes.layB (is : List Int) (k : Nat) : Bytes (layB is k) := by
  intro x hx
  obtain ⟨j, _, hj⟩ := List.mem_flatMap.1 hx
  exact Bytes.inB _ x hj
def allI (is : List Int) (k : Nat) : Prop := ∀ j, j < k → mayI (nth is j)
instance (is : List Int) (k : Nat) : Decidable (allI is k) := by unfold allI; infer_instance
def layIL (is : List Int) : List Nat := if allI is 4 then sealOf 73 (layB is 4) else []
def layIE (is : List Int) : Nat := if allI is 4 then 0 else 2
/-- The number of some bytes. -/
def numB (xs : List Nat) : Nat := xs.foldl (fun n x => n * 256 + x) 0
def gN (xs : List Nat) (j m : Nat) : Nat := numB ((xs.drop j).take m)
theorem numB_snoc (xs : List Nat) (x : Nat) : numB (xs ++ [x]) = numB xs * 256 + x := by simp [numB]
theorem numB_aux : ∀ (xs : List Nat) (a : Nat), Bytes xs → xs.foldl (fun n x => n * 256 + x) a < (a + 1) * 256 ^ xs.length := by
  intro xs
  induction xs with
  | nil => intro a _; simp
  | cons x xs ih =>
    intro a h
    have hx := h x (by simp)
    have h1 := ih (a * 256 + x) (fun y hy => h y (by simp [hy]))
    rw [List.foldl_cons, List.length_cons, Nat.pow_succ]
    have h2 : (a * 256 + x + 1) * 256 ^ xs.length ≤ ((a + 1) * 256) * 256 ^ xs.length := Nat.mul_le_mul_right _ (by omega)
    have h3 : (a + 1) * (256 ^ xs.length * 256) = (a + 1) * 256 * 256 ^ xs.length := by rw [Nat.mul_comm (256 ^ xs.length), Nat.mul_assoc]
    omega
theorem numB_lt {xs : List Nat} (h : Bytes xs) : numB xs < 256 ^ xs.length := by
  have := numB_aux xs 0 h
  simpa [numB] using this
theorem gN_lt {xs : List Nat} (h : Bytes xs) (j m : Nat) : gN xs j m < 256 ^ m := by
  have h1 := numB_lt ((h.drop j).take m)
  have h2 : ((xs.drop j).take m).length ≤ m := List.length_take_le _ _
  exact Nat.lt_of_lt_of_le h1 (Nat.pow_le_pow_right (by omega) h2)
theorem gN_drop (xs : List Nat) (a j m : Nat) : gN (xs.drop a) j m = gN xs (a + j) m := by unfold gN; rw [List.drop_drop]
theorem gN_add {xs : List Nat} {j m n : Nat} (h : j + m + n ≤ xs.length) : gN xs j (m + n) = gN xs j m * 256 ^ n + gN xs (j + m) n := by
  induction n with
  | zero => simp [gN, numB]
  | succ n ih =>
    have e : ∀ {q t : Nat}, q + t + 1 ≤ xs.length → (xs.drop q).take (t + 1) = (xs.drop q).take t ++ [xs.getD (q + t) 0] := by
      intro q t hq
      rw [List.take_add_one, List.getElem?_drop, List.getElem?_eq_getElem (by omega)]
      simp [show q + t < xs.length from by omega]
    have h1 : gN xs j (m + n + 1) = gN xs j (m + n) * 256 + xs.getD (j + (m + n)) 0 := by unfold gN; rw [e (by omega), numB_snoc]
    have h2 : gN xs (j + m) (n + 1) = gN xs (j + m) n * 256 + xs.getD (j + m + n) 0 := by unfold gN; rw [e (by omega), numB_snoc]
    rw [← Nat.add_assoc, h1, h2, ih (by omega), Nat.pow_succ, Nat.add_mul, Nat.mul_assoc, ← Nat.add_assoc, Nat.add_assoc]

/-- What an inode's bytes are read as. -/
def rdI (b : List Nat) (q : Nat) : List Int := [((gN b q 1 : Nat) : Int), ((gN b (q + 1) 2 : Nat) : Int), ((gN b (q + 3) 4 : Nat) : Int)] ++ (List.range 8).map fun k => ((gN b (q + 7 + 2 * k) 2 : Nat) : Int)
theorem rdI_len (b : List Nat) (q : Nat) : (rdI b q).length = 11 := by simp [rdI]
def rdA (b : List Nat) (k : Nat) : List Int := (List.range k).flatMap fun j => rdI b (j * 23)
theorem rdA_succ (b : List Nat) (k : Nat) : rdA b (k + 1) = rdA b k ++ rdI b (k * 23) := by simp [rdA, List.range_succ]
theorem rdA_len (b : List Nat) (k : Nat) : (rdA b k).length = 11 * k := by
  induction k with
  | zero => rfl
  | succ k ih => rw [rdA_succ, List.length_append, ih, rdI_len]; omega
def z44 : List Int := List.replicate 44 0
theorem z44_len : z44.length = 44 := by simp [z44]
/-- Are bytes a sector of inodes? -/
def rdOk (b : List Nat) : Prop := kindOf b = 73 ∧ allI (rdA (bodyOf b) 4) 4 ∧ sealOf 73 (layB (rdA (bodyOf b) 4) 4) = b
instance (b : List Nat) : Decidable (rdOk b) := by unfold rdOk; infer_instance
def rdL (b : List Nat) : List Int := if rdOk b then rdA (bodyOf b) 4 else z44
def rdE (b : List Nat) : Nat := if rdOk b then 0 else 3
theorem rdL_len (b : List Nat) : (rdL b).length = 44 := by unfold rdL; split; exact rdA_len _ _; exact z44_len
theorem rdOk_lay {b : List Nat} (h : kindOf b = 73) : rdOk b ↔ layIE (rdA (bodyOf b) 4) = 0 ∧ layIL (rdA (bodyOf b) 4) = b := by
  unfold rdOk layIE layIL
  constructor
  · rintro ⟨_, h1, h2⟩; rw [if_pos h1, if_pos h1]; exact ⟨rfl, h2⟩
  · rintro ⟨h1, h2⟩
    split at h1
    · rename_i ha
      rw [if_pos ha] at h2
      exact ⟨h, ha, h2⟩
    · cases h1
end Go.Proofs.Ythbdnaogjmnagaa
