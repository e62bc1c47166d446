/- What the statements' arguments are, as my own words tell them. -/
import Derived.Test.YthfkacgehdfciaaMem
import GoSem.ClaimData
namespace Go.Proofs.Ythfkacgehdfciaa
open Go.RowKit

/-- A slice of integers that came in, as the shell of the kit tells it. -/
def IsRow (k : IntKind) (w : World) (a : Option Addr) (len cap : Nat) (zs : List Int) : Prop :=
  (a = none ∧ len = 0 ∧ cap = 0 ∧ zs = []) ∨
  ∃ x, a = some x ∧ len ≤ cap ∧ cap ≤ maxLen ∧ zs.length = cap ∧ (∀ i, i < zs.length → w.cell? (x.add i) = some (.int k (zs.getD i 0))) ∧ ∀ n ∈ zs, (Lit.int k n).wf = true
theorem u8_wf {n : Int} (h : (Lit.int .u8 n).wf = true) : 0 ≤ n ∧ n < 256 := by
  simp [Lit.wf, IntKind.min, IntKind.max, IntKind.bits, IntKind.signed] at h
  omega
theorem i64_wf {n : Int} (h : (Lit.int .i64 n).wf = true) : -9223372036854775808 ≤ n ∧ n ≤ 9223372036854775807 := by
  simp [Lit.wf, IntKind.min, IntKind.max, IntKind.bits, IntKind.signed] at h
  omega
theorem u64_wf {n : Int} (h : (Lit.int .u64 n).wf = true) : 0 ≤ n ∧ n ≤ 18446744073709551615 := by
  simp [Lit.wf, IntKind.min, IntKind.max, IntKind.bits, IntKind.signed] at h
  omega
theorem IsRow.sl {k : IntKind} {w : World} {A : Option Addr} {n c : Nat} {zs : List Int} (h : IsRow k w A n c zs) :
    Sl w A n c ((zs.take n).map (Value.int k)) ∧ ∀ x ∈ zs.take n, (Lit.int k x).wf = true := by
  rcases h with ⟨rfl, rfl, rfl, rfl⟩ | ⟨x, rfl, hl, hm, hz, hcell, hwz⟩
  · exact ⟨by simpa using Sl.nilS w, by simp⟩
  · refine ⟨⟨by simp; omega, hl, by simp only [maxLen] at hm; omega, (fun h => by cases h), ?_, ?_⟩, fun y hy => hwz y (List.mem_of_mem_take hy)⟩
    · intro j u hj
      simp only [List.getElem?_map, Option.map_eq_some_iff] at hj
      obtain ⟨y, hy, rfl⟩ := hj
      rw [List.getElem?_take] at hy
      split at hy
      · rename_i hjn
        have hc0 := hcell 0 (by omega)
        obtain ⟨b, off, spot⟩ := x
        have hspot : spot = none := by simpa [Addr.add] using World.cell?_spot hc0
        subst hspot
        have hc := hcell j (by omega)
        rw [Addr.add_lit] at hc
        refine ⟨b, off, rfl, ?_⟩
        rw [hc]
        simp [List.getD, hy]
      · cases hy
    · intro u hu
      obtain ⟨_, _, rfl⟩ := List.mem_map.1 hu
      rfl
theorem IsRow.sl8 {w : World} {A : Option Addr} {n c : Nat} {zs : List Int} (h : IsRow .u8 w A n c zs) : ∃ xs, Sl w A n c (by8 xs) ∧ Bytes xs := by
  obtain ⟨h1, h2⟩ := h.sl
  refine ⟨(zs.take n).map Int.toNat, ?_, ?_⟩
  · have e : (zs.take n).map (Value.int .u8) = by8 ((zs.take n).map Int.toNat) := by
      unfold by8
      rw [List.map_map]
      apply List.map_congr_left
      intro a ha
      have := u8_wf (h2 a ha)
      simp only [Function.comp_apply]
      rw [show ((a.toNat : Nat) : Int) = a from by omega]
    rw [← e]; exact h1
  · intro x hx
    obtain ⟨a, ha, rfl⟩ := List.mem_map.1 hx
    have := u8_wf (h2 a ha)
    omega
end Go.Proofs.Ythfkacgehdfciaa
