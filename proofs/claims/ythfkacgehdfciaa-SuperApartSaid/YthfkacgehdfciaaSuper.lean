/- Superblocks: plain mathematics. -/
import Derived.Test.YthfkacgehdfciaaSeal
import Derived.Test.YthfkacgehdfciaaGeom
namespace Go.Proofs.Ythfkacgehdfciaa
open Go.RowKit

def b01 (o : Bool) : Nat := if o then 1 else 0
def supB (a b c : Int) (o : Bool) : List Nat := [80, 82, 76, 1, a.toNat % 256, b.toNat % 256, c.toNat % 256, b01 o]
def supL (a b c : Int) (o : Bool) : List Nat := if mayG a b c then sealOf 83 (supB a b c o) else []
def supE (a b c : Int) : Nat := if mayG a b c then 0 else 2
/-- Byte number k of a body. -/
def bd (xs : List Nat) (k : Nat) : Nat := (bodyOf xs).getD k 0
def supOk (xs : List Nat) : Prop := kindOf xs = 83 ∧ mayG (bd xs 4) (bd xs 5) (bd xs 6) ∧ sealOf 83 (supB (bd xs 4) (bd xs 5) (bd xs 6) (bd xs 7 == 1)) = xs
instance (xs : List Nat) : Decidable (supOk xs) := by unfold supOk; infer_instance
def supG (xs : List Nat) : List Int := if supOk xs then geo (bd xs 4) (bd xs 5) (bd xs 6) else geo 0 0 0
def supO (xs : List Nat) : Bool := if supOk xs then bd xs 7 == 1 else false
def supF (xs : List Nat) : Nat := if supOk xs then 0 else 3
theorem supB_len (a b c : Int) (o : Bool) : (supB a b c o).length = 8 := rfl
theorem Bytes.supB (a b c : Int) (o : Bool) : Bytes (supB a b c o) := by
  intro x hx
  have h : b01 o < 256 := by cases o <;> decide
  simp [Go.Proofs.Ythfkacgehdfciaa.supB] at hx
  omega
theorem supG_len (xs : List Nat) : (supG xs).length = 3 := by unfold supG; split <;> rfl
theorem sup_no {xs : List Nat} (h : ¬ supOk xs) : supG xs = geo 0 0 0 ∧ supO xs = false ∧ supF xs = 3 := by
  unfold supG supO supF
  rw [if_neg h, if_neg h, if_neg h]
  exact ⟨rfl, rfl, rfl⟩
theorem sup_yes {xs : List Nat} (h : supOk xs) : supG xs = geo (bd xs 4) (bd xs 5) (bd xs 6) ∧ supO xs = (bd xs 7 == 1) ∧ supF xs = 0 := by
  unfold supG supO supF
  rw [if_pos h, if_pos h, if_pos h]
  exact ⟨rfl, rfl, rfl⟩
theorem sup_body {a b c : Int} (h : mayG a b c) (o : Bool) : (bd (sealOf 83 (supB a b c o)) 4 : Int) = a ∧ (bd (sealOf 83 (supB a b c o)) 5 : Int) = b ∧ (bd (sealOf 83 (supB a b c o)) 6 : Int) = c ∧ (bd (sealOf 83 (supB a b c o)) 7 == 1) = o := by
  unfold mayG at h
  unfold bd
  rw [bodyOf_sealOf (by rw [supB_len]; omega)]
  simp [padTo, supB]
  refine ⟨by omega, by omega, by omega, ?_⟩
  cases o <;> rfl
/-- What was laid is read again. -/
theorem sup_back {a b c : Int} (h : mayG a b c) (o : Bool) : supOk (sealOf 83 (supB a b c o)) ∧ supG (sealOf 83 (supB a b c o)) = geo a b c ∧ supO (sealOf 83 (supB a b c o)) = o ∧ supF (sealOf 83 (supB a b c o)) = 0 := by
  obtain ⟨h1, h2, h3, h4⟩ := sup_body h o
  have hok : supOk (sealOf 83 (supB a b c o)) := by
    refine ⟨kindOf_sealOf (by rw [supB_len]; omega) (by omega), by rw [h1, h2, h3]; exact h, by rw [h1, h2, h3, h4]⟩
  obtain ⟨e1, e2, e3⟩ := sup_yes hok
  exact ⟨hok, by rw [e1, h1, h2, h3], by rw [e2, h4], e3⟩
theorem sup_alike {a b c a' b' c' : Int} {o o' : Bool} (h : mayG a b c) (h' : mayG a' b' c') : sealOf 83 (supB a b c o) = sealOf 83 (supB a' b' c' o') ↔ geo a b c = geo a' b' c' ∧ o = o' := by
  constructor
  · intro he
    obtain ⟨_, h1, h2, _⟩ := sup_back h o
    obtain ⟨_, h3, h4, _⟩ := sup_back h' o'
    exact ⟨by rw [← h1, ← h3, he], by rw [← h2, ← h4, he]⟩
  · rintro ⟨h1, rfl⟩
    rw [geo_inj] at h1
    obtain ⟨rfl, rfl, rfl⟩ := h1
    rfl
theorem sup_lay {a b c : Int} (h : mayG a b c) (o : Bool) : supL a b c o = sealOf 83 (supB a b c o) ∧ supE a b c = 0 := by
  unfold supL supE
  rw [if_pos h, if_pos h]
  exact ⟨rfl, rfl⟩
theorem sup_bad {a b c : Int} (h : ¬ mayG a b c) (o : Bool) : supL a b c o = [] ∧ supE a b c = 2 := by
  unfold supL supE
  rw [if_neg h, if_neg h]
  exact ⟨rfl, rfl⟩
theorem Bytes.supL (a b c : Int) (o : Bool) : Bytes (supL a b c o) := by
  unfold Go.Proofs.Ythfkacgehdfciaa.supL
  split
  · exact Bytes.sealOf (by omega) (Bytes.supB a b c o)
  · exact Bytes.nil
end Go.Proofs.Ythfkacgehdfciaa
