/- Floats: what every program answers; what is clamped. -/
import Derived.Test.YtillhbbeghbfeaaDoorFlo2
namespace Go.Proofs.YtillhbbeghbfeaaDoor
set_option linter.unusedVariables false
open Go.RowKit
theorem lit_cell (w : World) (cs : Array Value) (e : TypeId) (k : Nat) (u : Value) (h : cs.toList[k]? = some u) : (w.alloc (.cells cs e)).cell? ⟨w.heap.size, k, none⟩ = some u := by
  rw [cell_of_row (w.alloc (.cells cs e)) w.heap.size k cs e (0, 0) (heap_alloc_new w _)]
  simpa using h
set_option maxHeartbeats 1000000 in
theorem law1_awake (w : World) : Calls Tryd.prog 17 #[] w fun e w' => e = .returned (.bool true) ∧ Ext w w' := by
  have n1 : nanF 9221120237041090561 = true := by decide
  have a1 : lessF 9221120237041090561 9221120237041090561 = false := by decide +kernel
  have a2 : lessF 0 9223372036854775808 = false := by decide +kernel
  have a3 : lessF 9223372036854775808 0 = true := by decide +kernel
  have a4 : lessF 4607182418800017408 4611686018427387904 = true := by decide +kernel
  go_enter Tryd.func17, Tryd.ntmps17
  go_wp2_with (first
    | (go_at_call 21; refine (f_NaN _).mono ?_; rintro e w' ⟨rfl, rfl⟩)
    | (go_at_call 43; refine (f_Inf _).mono ?_; rintro e w' ⟨rfl, rfl⟩))
  refine (f_Best4 _ _ (lit_cell w _ _ 0 _ rfl) (lit_cell w _ _ 1 _ rfl) (lit_cell w _ _ 2 _ rfl) (lit_cell w _ _ 3 _ rfl)).mono ?_
  rintro e w' ⟨rfl, rfl⟩
  go_wp2_with fail
  refine (f_Share _).mono ?_
  rintro e w' ⟨q, rfl, hq, hq2, rfl⟩
  go_wp2_with (first
    | (go_at_call 21; refine (f_NaN _).mono ?_; rintro e w' ⟨rfl, rfl⟩)
    | (go_at_call 15; refine (f_IsNaN _ _).mono ?_; rintro e w' ⟨rfl, rfl⟩)
    | (go_at_call 16; refine (f_Text _).mono ?_; rintro e w' ⟨rfl, rfl⟩)
    | (go_at_call 24; refine (f_Alike _ _ _ (by decide) (by decide)).mono ?_; rintro e w' ⟨rfl, rfl⟩)
    | (go_at_call 12; refine (f_Less _ _ _ (by decide) (by decide)).mono ?_; rintro e w' ⟨rfl, rfl⟩)
    | (go_at_call 19; refine (f_Copysign _).mono ?_; rintro e w' ⟨rfl, rfl⟩))
  go_ret
  exact ⟨rfl, ((Ext.refl _).alloc _).drew⟩
set_option maxHeartbeats 2000000 in
theorem law_ScoreClamps (w : World) (a : Int) (ha1 : 0 ≤ a) (ha2 : a ≤ 18446744073709551615) (b : Int) (hb1 : 0 ≤ b) (hb2 : b ≤ 18446744073709551615) (c : Int) (hc1 : 0 ≤ c) (hc2 : c ≤ 18446744073709551615) :
    Calls Tryd.prog 6 #[.int .u64 a, .int .u64 b, .int .u64 c] w fun e w' => e = .returned (.bool true) ∧ Ext w w' := by
  have ra := run_from a
  have rb := run_from b
  have rc := run_from c
  have hx : a.toNat < 18446744073709551616 := by omega
  have hl : b.toNat < 18446744073709551616 := by omega
  have hh : c.toNat < 18446744073709551616 := by omega
  generalize a.toNat = x at *
  generalize b.toNat = lo at *
  generalize c.toNat = hi at *
  have hy : clampF qN x lo hi < 18446744073709551616 := by unfold clampF; split; decide; split; assumption; split <;> assumption
  have hlaw := clampF_law (q := qN) (x := x) (lo := lo) (hi := hi) (by decide)
  have C1 := fun w => f_Clamp x lo hi w hx hl hh
  have C2 := fun w => f_Clamp (clampF qN x lo hi) lo hi w hy hl hh
  have hself : ∀ z, lessF z z = false := fun z => by rw [lessF_KF]; simp
  generalize hyy : clampF qN x lo hi = y at *
  by_cases h : (nanF x || nanF lo || nanF hi || lessF hi lo) = true
  · rw [if_pos h] at hlaw
    clear C2 hyy ha1 ha2 hb1 hb2 hc1 hc2
    cases n1 : nanF x <;> cases n2 : nanF lo <;> cases n3 : nanF hi <;> cases n4 : lessF hi lo
    case false.false.false.false => rw [n1, n2, n3, n4] at h; cases h
    all_goals
      clear h
      go_enter Tryd.func6, Tryd.ntmps6
      go_wp2_with (first
        | (go_at_call 23; refine (C1 _).mono ?_; rintro e w' ⟨rfl, rfl⟩)
        | (go_at_call 15; refine (f_IsNaN _ _).mono ?_; rintro e w' ⟨rfl, rfl⟩)
        | (go_at_call 12; refine (f_Less _ _ _ (by assumption) (by assumption)).mono ?_; rintro e w' ⟨rfl, rfl⟩)
        | (go_at_call 17; refine (law1_awake _).mono ?_; rintro e w9 ⟨rfl, hE9⟩))
      go_ret
      exact ⟨rfl, hE9⟩
  · rw [if_neg h] at hlaw
    obtain ⟨g1, g2, g3, g4⟩ := hlaw
    rw [g4] at C2
    have hb : (nanF x || nanF lo || nanF hi || lessF hi lo) = false := by simpa using h
    simp only [Bool.or_eq_false_iff] at hb
    obtain ⟨⟨⟨n1, n2⟩, n3⟩, n4⟩ := hb
    have s1 := hself y
    have s2 := hself x
    clear h hyy g4 hself ha1 ha2 hb1 hb2 hc1 hc2
    cases m1 : lessF x lo <;> cases m2 : lessF hi x
    case false.false =>
      obtain rfl := g3 ⟨m1, m2⟩
      clear g3 s2
      go_enter Tryd.func6, Tryd.ntmps6
      go_wp2_with (first
        | (go_at_call 23; refine (C1 _).mono ?_; rintro e w' ⟨rfl, rfl⟩)
        | (go_at_call 15; refine (f_IsNaN _ _).mono ?_; rintro e w' ⟨rfl, rfl⟩)
        | (go_at_call 12; refine (f_Less _ _ _ (by assumption) (by assumption)).mono ?_; rintro e w' ⟨rfl, rfl⟩)
        | (go_at_call 24; refine (f_Alike _ _ _ (by assumption) (by assumption)).mono ?_; rintro e w' ⟨rfl, rfl⟩)
        | (go_at_call 17; refine (law1_awake _).mono ?_; rintro e w9 ⟨rfl, hE9⟩))
      go_ret
      exact ⟨rfl, hE9⟩
    all_goals
      clear g3
      go_enter Tryd.func6, Tryd.ntmps6
      go_wp2_with (first
        | (go_at_call 23; (first | with_reducible refine (C1 _).mono ?_ | with_reducible refine (C2 _).mono ?_); rintro e w' ⟨rfl, rfl⟩)
        | (go_at_call 15; refine (f_IsNaN _ _).mono ?_; rintro e w' ⟨rfl, rfl⟩)
        | (go_at_call 12; refine (f_Less _ _ _ (by assumption) (by assumption)).mono ?_; rintro e w' ⟨rfl, rfl⟩)
        | (go_at_call 24; refine (f_Alike _ _ _ (by assumption) (by assumption)).mono ?_; rintro e w' ⟨rfl, rfl⟩)
        | (go_at_call 17; refine (law1_awake _).mono ?_; rintro e w9 ⟨rfl, hE9⟩))
      go_ret
      exact ⟨rfl, hE9⟩
end Go.Proofs.YtillhbbeghbfeaaDoor
