/- The law of spaces: what every program answers that is one. -/
import Derived.Test.YtillhbbeghbfeaaAlcK
namespace Go.Proofs.Ytillhbbeghbfeaa
set_option linter.unusedVariables false
open Go.RowKit

section
variable {w : World} {B g : Nat} {p : Pl}
theorem aw1 (h : SpaceAt w B g p 1 4 16 [[0]] [[0]] [[0, 0]] [[0, 0]]) : Calls Try.prog 27 #[.pointer (some ⟨g, 0, none⟩), .int .i64 0] w fun e w' => e = .returned (.tuple #[.int .i64 1, .int .i64 0]) ∧ SpaceAt w' B g p 1 4 16 [[1]] [[0]] [[0, 0]] [[0, 0]] ∧ Turned [p.g1] w w' := by
  have hf := firN_is (xs := [0]) (n := 4) (by decide +kernel)
  rw [show firN 4 [0] = 0 from by decide +kernel] at hf
  have hI := space_Inode_ok h 0 (k := 0) (by omega) (by decide +kernel) (xs := [0]) rfl (r := 0) hf
  rw [show ([[0]] : List (List Nat)).set 0 (withB [0] 0 true) = [[1]] from by decide +kernel] at hI
  exact hI
theorem aw2 (h : SpaceAt w B g p 1 4 16 [[1]] [[0]] [[0, 0]] [[0, 0]]) : Calls Try.prog 27 #[.pointer (some ⟨g, 0, none⟩), .int .i64 0] w fun e w' => e = .returned (.tuple #[.int .i64 2, .int .i64 0]) ∧ SpaceAt w' B g p 1 4 16 [[3]] [[0]] [[0, 0]] [[0, 0]] ∧ Turned [p.g1] w w' := by
  have hf := firN_is (xs := [1]) (n := 4) (by decide +kernel)
  rw [show firN 4 [1] = 1 from by decide +kernel] at hf
  have hI := space_Inode_ok h 0 (k := 0) (by omega) (by decide +kernel) (xs := [1]) rfl (r := 1) hf
  rw [show ([[1]] : List (List Nat)).set 0 (withB [1] 1 true) = [[3]] from by decide +kernel] at hI
  exact hI
theorem aw3 (h : SpaceAt w B g p 1 4 16 [[3]] [[0]] [[0, 0]] [[0, 0]]) : Calls Try.prog 25 #[.pointer (some ⟨g, 0, none⟩), .int .i64 5] w fun e w' => e = .returned (.tuple #[.int .i64 4, .int .i64 0]) ∧ SpaceAt w' B g p 1 4 16 [[3]] [[0]] [[1, 0]] [[0, 0]] ∧ Turned [p.g3] w w' := by
  have hf := firN_is (xs := [0, 0]) (n := 16) (by decide +kernel)
  rw [show firN 16 [0, 0] = 0 from by decide +kernel] at hf
  have hI := space_Block_ok h 5 (k := 0) (by decide +kernel) (xs := [0, 0]) rfl (r := 0) hf
  rw [show ([[0, 0]] : List (List Nat)).set 0 (withB [0, 0] 0 true) = [[1, 0]] from by decide +kernel, show fstG ((1 : Nat) : Int) ((4 : Nat) : Int) ((16 : Nat) : Int) ((0 : Nat) : Int) + ((0 : Nat) : Int) = 4 from by decide +kernel] at hI
  exact hI
theorem aw4 (h : SpaceAt w B g p 1 4 16 [[3]] [[0]] [[1, 0]] [[0, 0]]) : Calls Try.prog 15 #[.pointer (some ⟨g, 0, none⟩)] w fun e w' => e = .returned (.tuple #[.int .i64 2, .int .i64 15]) ∧ Ext w w' := by
  have hI := space_Left h
  rw [show sumF 4 [[3]] 1 = 2 from by decide +kernel, show sumF 16 [[1, 0]] 1 = 15 from by decide +kernel] at hI
  exact hI
theorem aw_spot : spot 1 4 16 1 0 = some (true, 0, 0) := by decide +kernel
theorem aw5 (h : SpaceAt w B g p 1 4 16 [[3]] [[0]] [[1, 0]] [[0, 0]]) : Calls Try.prog 28 #[.pointer (some ⟨g, 0, none⟩), .int .i64 1, .int .i64 0] w fun e w' => e = .returned (.int .i64 0) ∧ SpaceAt w' B g p 1 4 16 [[3]] [[1]] [[1, 0]] [[0, 0]] ∧ Turned [p.g2] w w' := by
  have hI := space_Defer1_ok h (by omega) aw_spot (xs := [3]) (ys := [0]) rfl rfl (by decide +kernel) (by decide +kernel)
  rw [show ([[0]] : List (List Nat)).set 0 (withB [0] 0 true) = [[1]] from by decide +kernel] at hI
  exact hI
theorem aw6 (h : SpaceAt w B g p 1 4 16 [[3]] [[1]] [[1, 0]] [[0, 0]]) : Calls Try.prog 28 #[.pointer (some ⟨g, 0, none⟩), .int .i64 1, .int .i64 0] w fun e w' => e = .returned (.int .i64 5) ∧ Ext w w' :=
  space_Defer1_no h (by omega) aw_spot (xs := [3]) (ys := [1]) rfl rfl (.inr (by decide +kernel))
theorem aw7 (h : SpaceAt w B g p 1 4 16 [[3]] [[1]] [[1, 0]] [[0, 0]]) : Calls Try.prog 29 #[.pointer (some ⟨g, 0, none⟩)] w fun e w' => e = .returned (.int .i64 1) ∧ Turned [p.g1, p.g2, p.g3, p.g4] w w' := by
  have hI := space_Firm h
  rw [show firmN 4 [[1]] + firmN 16 [[0, 0]] = 1 from by decide +kernel] at hI
  exact hI.mono fun e w' ⟨a, b, c⟩ => ⟨a, c⟩
theorem aw0 (w : World) : Calls Try.prog 8 #[.agg #[.int .i64 1, .int .i64 4, .int .i64 16]] w fun e w' => ∃ g p, e = .returned (.pointer (some ⟨g, 0, none⟩)) ∧ SpaceAt w' w.heap.size g p 1 4 16 [[0]] [[0]] [[0, 0]] [[0, 0]] ∧ Ext w w' :=
  alloc_New 1 4 16 (by unfold mayG; omega) w
theorem aw8 (w : World) : Calls Try.prog 8 #[.agg #[.int .i64 0, .int .i64 0, .int .i64 0]] w fun e w' => e = .returned (.pointer none) ∧ Ext w w' :=
  alloc_New_no 0 0 0 (by unfold mayG; omega) w
theorem SpaceAt.all4 {G N M : Nat} {tn dn tb db : List (List Nat)} (h : SpaceAt w B g p G N M tn dn tb db) : ∀ x ∈ [p.g1, p.g2, p.g3, p.g4], B ≤ x := by
  intro x hx
  simp at hx
  rcases hx with rfl | rfl | rfl | rfl
  · exact h.r1.base
  · exact h.r2.base
  · exact h.r3.base
  · exact h.r4.base
/-- What a call turned of a space of the call's own. -/
theorem SpaceAt.exts {w0 w' : World} {G N M : Nat} {tn dn tb db : List (List Nat)} (h : SpaceAt w w0.heap.size g p G N M tn dn tb db) (hE : Ext w0 w) {gs : List Nat} (hT : Turned gs w w') (hg : ∀ x ∈ gs, x ∈ [p.g1, p.g2, p.g3, p.g4]) : Ext w0 w' :=
  Turned.ext hE hT (fun x hx => h.all4 x (hg x hx))
end
theorem bld_g14 (a b c : Int) (w : World) : (Instr.build 24 #[(0, .int .i64 a), (1, .int .i64 b), (2, .int .i64 c)]).run Try.prog w = .ok (.agg (i64s (geo a b c)).toArray) w := by kernel_rfl
set_option maxHeartbeats 4000000 in
theorem law16_awake (w : World) : Calls Try.prog 12 #[] w fun e w' => e = .returned (.bool true) ∧ Ext w w' := by
  go_enter Try.func12, Try.ntmps12
  go_wp2_with (first
    | (go_at_call 8; with_reducible refine (aw0 _).mono ?_; rintro e w1 ⟨g, p, rfl, h1, hE1⟩)
    | (go_at_call 8; with_reducible refine (aw8 _).mono ?_; rintro e w9 ⟨rfl, hE9⟩)
    | (go_at_call 27; with_reducible refine (aw1 h1).mono ?_; rintro e w2 ⟨rfl, h2, hT2⟩; have hE2 := h1.exts hE1 hT2 (by simp))
    | (go_at_call 27; with_reducible refine (aw2 h2).mono ?_; rintro e w3 ⟨rfl, h3, hT3⟩; have hE3 := h2.exts hE2 hT3 (by simp))
    | (go_at_call 25; with_reducible refine (aw3 h3).mono ?_; rintro e w4 ⟨rfl, h4, hT4⟩; have hE4 := h3.exts hE3 hT4 (by simp))
    | (go_at_call 15; with_reducible refine (aw4 h4).mono ?_; rintro e w5 ⟨rfl, hE5⟩; have h5 := h4.ext hE5)
    | (go_at_call 28; with_reducible refine (aw5 h5).mono ?_; rintro e w6 ⟨rfl, h6, hT6⟩; have hE6 := h5.exts (hE4.trans hE5) hT6 (by simp))
    | (go_at_call 28; with_reducible refine (aw6 h6).mono ?_; rintro e w7 ⟨rfl, hE7⟩; have h7 := h6.ext hE7)
    | (go_at_call 29; with_reducible refine (aw7 h7).mono ?_; rintro e w8 ⟨rfl, hT8⟩; have hE8 := h7.exts (hE6.trans hE7) hT8 (by simp)))
  go_ret
  exact ⟨rfl, hE8.trans hE9⟩
end Go.Proofs.Ytillhbbeghbfeaa
