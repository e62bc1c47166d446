/- The document's space: Mark, Defer. -/
import Derived.Test.YtillhbbeghbfeaaRfb
namespace Go.Proofs.Ytillhbbeghbfeaa
set_option linter.unusedVariables false
open Go.RowKit

theorem spot_ino_eq {G N M : Nat} {n m : Int} {k i : Nat} (hm : mayG (G : Int) N M) (h : spot G N M n m = some (true, k, i)) : m = 0 ∧ n = ((posI N k i : Nat) : Int) ∧ k < G ∧ i < N := by
  obtain ⟨h1, h2, h3, h4, h5, h6⟩ := spot_ino hm h
  refine ⟨h1, ?_, h5, h6⟩
  have hin : 1 ≤ n ∧ n ≤ inosG (G : Int) N M := by
    by_cases hc : 1 ≤ n ∧ n ≤ inosG (G : Int) N M
    · exact hc
    · unfold oinK at h3; rw [if_neg hc] at h3; omega
  unfold oinK at h3
  unfold oinI at h4
  rw [if_pos hin] at h3 h4
  have := Int.mul_ediv_add_emod (n - 1) (N : Int)
  rw [h3, h4, Int.mul_comm] at this
  unfold posI
  have hc : ((k * N : Nat) : Int) = (k : Int) * (N : Int) := by rw [Int.natCast_mul]
  omega
theorem spot_blk_eq {G N M : Nat} {n m : Int} {k i : Nat} (hm : mayG (G : Int) N M) (h : spot G N M n m = some (false, k, i)) : n = 0 ∧ m = ((posB N M k i : Nat) : Int) ∧ k < G ∧ i < M := by
  obtain ⟨h1, h2, h3, h4, h5, h6⟩ := spot_blk hm h
  refine ⟨h1, ?_, h5, h6⟩
  have hb : isB (G : Int) N M m := by
    by_cases hc : isB (G : Int) N M m
    · exact hc
    · rw [(isB_not hc).1] at h3; omega
  have hp := fst_posB (i := i) hm h5
  unfold oblK at h3
  unfold oblI at h4
  rw [if_pos hb] at h3 h4
  rw [h3] at h4
  omega
section
variable {w w' : World} {B g : Nat} {q : Ql} {G N M : Nat} {bi bb bx bz : List Bool}
theorem ref_Mark_none (h : RefAt w B g q G N M bi bb bx bz) (n m : Int) (hn0 : -9223372036854775808 ≤ n) (hs : spot G N M n m = none) :
    Calls Try.prog 44 #[.pointer (some ⟨g, 0, none⟩), .int .i64 n, .int .i64 m] w fun e w' => e = .returned (.int .i64 2) ∧ Ext w w' := by
  have hO := ref_one h n m hn0
  rw [hs] at hO
  have HO := hide hO
  clear hO hs h hn0
  go_enter Try.func44, Try.ntmps44
  go_wp2_with (go_at_call 64; refine HO.out.mono ?_; rintro e w2 ⟨rfl, hE2⟩)
  go_ret
  exact ⟨rfl, hE2⟩
theorem ref_Defer_none (h : RefAt w B g q G N M bi bb bx bz) (n m : Int) (hn0 : -9223372036854775808 ≤ n) (hs : spot G N M n m = none) :
    Calls Try.prog 45 #[.pointer (some ⟨g, 0, none⟩), .int .i64 n, .int .i64 m] w fun e w' => e = .returned (.int .i64 2) ∧ Ext w w' := by
  have hO := ref_one h n m hn0
  rw [hs] at hO
  have HO := hide hO
  clear hO hs h hn0
  go_enter Try.func45, Try.ntmps45
  go_wp2_with (go_at_call 64; refine HO.out.mono ?_; rintro e w2 ⟨rfl, hE2⟩)
  go_ret
  exact ⟨rfl, hE2⟩
set_option maxHeartbeats 1000000 in
theorem ref_Mark1 (h : RefAt w B g q G N M bi bb bx bz) {n m : Int} (hn0 : -9223372036854775808 ≤ n) {k i : Nat} (hs : spot G N M n m = some (true, k, i)) {b : Bool} (hb : bi[posI N k i]? = some b) :
    Calls Try.prog 44 #[.pointer (some ⟨g, 0, none⟩), .int .i64 n, .int .i64 m] w fun e w' => if b = true then e = .returned (.int .i64 6) ∧ Ext w w' else
      e = .returned (.int .i64 0) ∧ RefAt w' B g q G N M (bi.set (posI N k i) true) bb bx bz ∧ Turned [q.g1] w w' := by
  have hO := ref_one h n m hn0
  rw [hs] at hO
  obtain ⟨rfl, rfl, hk, hi⟩ := spot_ino_eq h.may hs
  have HO := hide hO
  have HC := hide (fun w' (hE : Ext w w') => own_cell (h.ext hE).r1 hb)
  have HR := hide (fun w' (hE : Ext w w') => (h.ext hE).put1 (posI N k i) true)
  obtain ⟨c0, c1, c2, c3, c4, c5, c6⟩ := h.cells
  have hp : 1 ≤ posI N k i := by unfold posI; omega
  generalize posI N k i = P at *
  clear hO hs h hn0 hb
  cases b
  · show Calls _ _ _ _ fun e w' => e = .returned (.int .i64 0) ∧ RefAt w' B g q G N M (bi.set P true) bb bx bz ∧ Turned [q.g1] w w'
    go_enter Try.func44, Try.ntmps44
    go_wp2_with (go_at_call 64; refine HO.out.mono ?_; rintro e w2 ⟨rfl, hE2⟩; have e3 := hE2.cell c3; obtain ⟨k1, k2, k3⟩ := HC.out _ hE2)
    go_ret
    exact ⟨rfl, HR.out _ hE2, (hE2.turned _).trans (Turned.setCell _ _ _ _)⟩
  · show Calls _ _ _ _ fun e w' => e = .returned (.int .i64 6) ∧ Ext w w'
    go_enter Try.func44, Try.ntmps44
    go_wp2_with (go_at_call 64; refine HO.out.mono ?_; rintro e w2 ⟨rfl, hE2⟩; have e3 := hE2.cell c3; obtain ⟨k1, k2, k3⟩ := HC.out _ hE2)
    go_ret
    exact ⟨rfl, hE2⟩
set_option maxHeartbeats 1000000 in
theorem ref_Mark2 (h : RefAt w B g q G N M bi bb bx bz) {n m : Int} {k i : Nat} (hs : spot G N M n m = some (false, k, i)) {b : Bool} (hb : bb[posB N M k i]? = some b) :
    Calls Try.prog 44 #[.pointer (some ⟨g, 0, none⟩), .int .i64 n, .int .i64 m] w fun e w' => if b = true then e = .returned (.int .i64 6) ∧ Ext w w' else
      e = .returned (.int .i64 0) ∧ RefAt w' B g q G N M bi (bb.set (posB N M k i) true) bx bz ∧ Turned [q.g2] w w' := by
  obtain ⟨rfl, rfl, hk, hi⟩ := spot_blk_eq h.may hs
  have hO := ref_one h 0 ((posB N M k i : Nat) : Int) (by omega)
  rw [hs] at hO
  have HO := hide hO
  have HC := hide (fun w' (hE : Ext w w') => own_cell (h.ext hE).r2 hb)
  have HR := hide (fun w' (hE : Ext w w') => (h.ext hE).put2 (posB N M k i) true)
  obtain ⟨c0, c1, c2, c3, c4, c5, c6⟩ := h.cells
  have hp : 1 ≤ posB N M k i := by unfold posB; omega
  generalize posB N M k i = P at *
  generalize 2 + G * (1 + N / 4 + M) = GN at *
  clear hO hs h hb
  cases b
  · show Calls _ _ _ _ fun e w' => e = .returned (.int .i64 0) ∧ RefAt w' B g q G N M bi (bb.set P true) bx bz ∧ Turned [q.g2] w w'
    go_enter Try.func44, Try.ntmps44
    go_wp2_with (go_at_call 64; refine HO.out.mono ?_; rintro e w2 ⟨rfl, hE2⟩; have e4 := hE2.cell c4; obtain ⟨k1, k2, k3⟩ := HC.out _ hE2)
    go_ret
    exact ⟨rfl, HR.out _ hE2, (hE2.turned _).trans (Turned.setCell _ _ _ _)⟩
  · show Calls _ _ _ _ fun e w' => e = .returned (.int .i64 6) ∧ Ext w w'
    go_enter Try.func44, Try.ntmps44
    go_wp2_with (go_at_call 64; refine HO.out.mono ?_; rintro e w2 ⟨rfl, hE2⟩; have e4 := hE2.cell c4; obtain ⟨k1, k2, k3⟩ := HC.out _ hE2)
    go_ret
    exact ⟨rfl, hE2⟩
set_option maxHeartbeats 1000000 in
theorem ref_Defer1 (h : RefAt w B g q G N M bi bb bx bz) {n m : Int} (hn0 : -9223372036854775808 ≤ n) {k i : Nat} (hs : spot G N M n m = some (true, k, i)) {b d : Bool} (hb : bi[posI N k i]? = some b) (hd : bx[posI N k i]? = some d) :
    Calls Try.prog 45 #[.pointer (some ⟨g, 0, none⟩), .int .i64 n, .int .i64 m] w fun e w' => if (b && !d) = true then e = .returned (.int .i64 0) ∧ RefAt w' B g q G N M bi bb (bx.set (posI N k i) true) bz ∧ Turned [q.g3] w w' else
      e = .returned (.int .i64 5) ∧ Ext w w' := by
  have hO := ref_one h n m hn0
  rw [hs] at hO
  obtain ⟨rfl, rfl, hk, hi⟩ := spot_ino_eq h.may hs
  clear hn0
  have HO := hide hO
  have HC := hide (fun w' (hE : Ext w w') => own_cell (h.ext hE).r1 hb)
  have HD := hide (fun w' (hE : Ext w w') => own_cell (h.ext hE).r3 hd)
  have HR := hide (fun w' (hE : Ext w w') => (h.ext hE).put3 (posI N k i) true)
  obtain ⟨c0, c1, c2, c3, c4, c5, c6⟩ := h.cells
  have hp : 1 ≤ posI N k i := by unfold posI; omega
  generalize posI N k i = P at *
  clear hO hs h hb hd
  cases b <;> cases d
  case true.false =>
    show Calls _ _ _ _ fun e w' => e = .returned (.int .i64 0) ∧ RefAt w' B g q G N M bi bb (bx.set P true) bz ∧ Turned [q.g3] w w'
    go_enter Try.func45, Try.ntmps45
    go_wp2_with (go_at_call 64; refine HO.out.mono ?_; rintro e w2 ⟨rfl, hE2⟩; have e3 := hE2.cell c3; have e5 := hE2.cell c5; obtain ⟨k1, k2, k3⟩ := HC.out _ hE2; obtain ⟨j1, j2, j3⟩ := HD.out _ hE2)
    go_ret
    exact ⟨rfl, HR.out _ hE2, (hE2.turned _).trans (Turned.setCell _ _ _ _)⟩
  all_goals
    show Calls _ _ _ _ fun e w' => e = .returned (.int .i64 5) ∧ Ext w w'
    go_enter Try.func45, Try.ntmps45
    go_wp2_with (go_at_call 64; refine HO.out.mono ?_; rintro e w2 ⟨rfl, hE2⟩; have e3 := hE2.cell c3; have e5 := hE2.cell c5; obtain ⟨k1, k2, k3⟩ := HC.out _ hE2; obtain ⟨j1, j2, j3⟩ := HD.out _ hE2)
    go_ret
    exact ⟨rfl, hE2⟩
set_option maxHeartbeats 1000000 in
theorem ref_Defer2 (h : RefAt w B g q G N M bi bb bx bz) {n m : Int} {k i : Nat} (hs : spot G N M n m = some (false, k, i)) {b d : Bool} (hb : bb[posB N M k i]? = some b) (hd : bz[posB N M k i]? = some d) :
    Calls Try.prog 45 #[.pointer (some ⟨g, 0, none⟩), .int .i64 n, .int .i64 m] w fun e w' => if (b && !d) = true then e = .returned (.int .i64 0) ∧ RefAt w' B g q G N M bi bb bx (bz.set (posB N M k i) true) ∧ Turned [q.g4] w w' else
      e = .returned (.int .i64 5) ∧ Ext w w' := by
  obtain ⟨rfl, rfl, hk, hi⟩ := spot_blk_eq h.may hs
  have hO := ref_one h 0 ((posB N M k i : Nat) : Int) (by omega)
  rw [hs] at hO
  have HO := hide hO
  have HC := hide (fun w' (hE : Ext w w') => own_cell (h.ext hE).r2 hb)
  have HD := hide (fun w' (hE : Ext w w') => own_cell (h.ext hE).r4 hd)
  have HR := hide (fun w' (hE : Ext w w') => (h.ext hE).put4 (posB N M k i) true)
  obtain ⟨c0, c1, c2, c3, c4, c5, c6⟩ := h.cells
  have hp : 1 ≤ posB N M k i := by unfold posB; omega
  generalize posB N M k i = P at *
  generalize 2 + G * (1 + N / 4 + M) = GN at *
  clear hO hs h hb hd
  cases b <;> cases d
  case true.false =>
    show Calls _ _ _ _ fun e w' => e = .returned (.int .i64 0) ∧ RefAt w' B g q G N M bi bb bx (bz.set P true) ∧ Turned [q.g4] w w'
    go_enter Try.func45, Try.ntmps45
    go_wp2_with (go_at_call 64; refine HO.out.mono ?_; rintro e w2 ⟨rfl, hE2⟩; have e3 := hE2.cell c4; have e5 := hE2.cell c6; obtain ⟨k1, k2, k3⟩ := HC.out _ hE2; obtain ⟨j1, j2, j3⟩ := HD.out _ hE2)
    go_ret
    exact ⟨rfl, HR.out _ hE2, (hE2.turned _).trans (Turned.setCell _ _ _ _)⟩
  all_goals
    show Calls _ _ _ _ fun e w' => e = .returned (.int .i64 5) ∧ Ext w w'
    go_enter Try.func45, Try.ntmps45
    go_wp2_with (go_at_call 64; refine HO.out.mono ?_; rintro e w2 ⟨rfl, hE2⟩; have e3 := hE2.cell c4; have e5 := hE2.cell c6; obtain ⟨k1, k2, k3⟩ := HC.out _ hE2; obtain ⟨j1, j2, j3⟩ := HD.out _ hE2)
    go_ret
    exact ⟨rfl, hE2⟩
end
end Go.Proofs.Ytillhbbeghbfeaa
