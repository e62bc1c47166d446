/- The statement InodeSlots: for every input the law returns true, and each argument reads behind the call as it read before. The walk is law_InodeSlots; this text is the frame of the row round it. -/
import Derived.Test.YthbdnaogjmnagaaRows
import Derived.Test.YthbdnaogjmnagaaLaw7f
import Derived.Test.YthbdnaogjmnagaaArg
import Derived.Test.YthbdnaogjmnagaaArg2
import Derived.WalkKit
import Derived.ProofKit
import Derived.OpenShut
import Derived.ShutString
import Derived.ChangeOld
import Derived.Below
namespace Go.Proofs.Ythbdnaogjmnagaa.inodeSlots
open Go.ChangeShapes Go.WideShapes Go.ChangeAt Go.RowKit
open Go.ChangeMaps (open_string shut_string)
set_option linter.unusedVariables false

theorem own : ownKnob Try.prog.godebug = none := by kernel_rfl
theorem laidOut : laidOutB Try.prog = true := by kernel_rfl

theorem opens46 : OpensI Try.prog .i64 46 6 := opens_arr Try.underlying46 (opens_int Try.underlying3) (by kernel_rfl) (by kernel_rfl) (by decide) (by decide)
theorem opens48 : OpensI Try.prog .i64 48 11 := by
  refine opens_str (n := 11) Try.underlying48 (by kernel_rfl) ?_
  intro i hi
  rcases (show (0 ≤ i ∧ i < 0 + 1) ∨ (1 ≤ i ∧ i < 1 + 1) ∨ (2 ≤ i ∧ i < 2 + 1) ∨ (3 ≤ i ∧ i < 3 + 6) ∨ (9 ≤ i ∧ i < 9 + 1) ∨ (10 ≤ i ∧ i < 10 + 1) by omega) with ⟨ha, hb⟩ | ⟨ha, hb⟩ | ⟨ha, hb⟩ | ⟨ha, hb⟩ | ⟨ha, hb⟩ | ⟨ha, hb⟩
  · exact ⟨0, 1, _, rfl, ha, hb, by kernel_rfl, (opens_int Try.underlying3)⟩
  · exact ⟨1, 1, _, rfl, ha, hb, by kernel_rfl, (opens_int Try.underlying3)⟩
  · exact ⟨2, 1, _, rfl, ha, hb, by kernel_rfl, (opens_int Try.underlying3)⟩
  · exact ⟨3, 6, _, rfl, ha, hb, by kernel_rfl, opens46⟩
  · exact ⟨4, 1, _, rfl, ha, hb, by kernel_rfl, (opens_int Try.underlying3)⟩
  · exact ⟨5, 1, _, rfl, ha, hb, by kernel_rfl, (opens_int Try.underlying3)⟩
theorem opens49 : OpensI Try.prog .i64 49 44 := opens_arr Try.underlying49 opens48 (by kernel_rfl) (by kernel_rfl) (by decide) (by decide)
set_option maxRecDepth 100000 in
theorem lifted (os : Os) (started : os.Started) (H : Type) (enc : TypeId × Value → H) :
    ReturnsInHanded {} Try.checked os 13 .any (Rows.inodeSlotsSpec.pre6 enc Try.prog Try.f13 Rows.inodeSlotsRow.domain false) (Rows.inodeSlotsSpec.post enc Try.prog Try.f13 false true false false) := by
  refine returnsInHanded_of_change (C := Try.checked) own started (by kernel_rfl) Try.func13
    (ChangeSpec.witness6 (enc := enc) (C := Try.checked) false ⟨#[], #[.agg #[.int .i64 0, .int .i64 0, .int .i64 0, .int .i64 0, .int .i64 0, .int .i64 0, .int .i64 0, .int .i64 0, .int .i64 0, .int .i64 0, .int .i64 0, .int .i64 0, .int .i64 0, .int .i64 0, .int .i64 0, .int .i64 0, .int .i64 0, .int .i64 0, .int .i64 0, .int .i64 0, .int .i64 0, .int .i64 0, .int .i64 0, .int .i64 0, .int .i64 0, .int .i64 0, .int .i64 0, .int .i64 0, .int .i64 0, .int .i64 0, .int .i64 0, .int .i64 0, .int .i64 0, .int .i64 0, .int .i64 0, .int .i64 0, .int .i64 0, .int .i64 0, .int .i64 0, .int .i64 0, .int .i64 0, .int .i64 0, .int .i64 0, .int .i64 0], .agg #[.int .i64 0, .int .i64 0, .int .i64 0, .int .i64 0, .int .i64 0, .int .i64 0, .int .i64 0, .int .i64 0, .int .i64 0, .int .i64 0, .int .i64 0], .int .i64 0], []⟩ 8 (by kernel_rfl) (by kernel_rfl) (by kernel_rfl) (by kernel_rfl)) ?_
  intro W base args ds gs before hval0 hW hcnd _
  have hval : ∀ (j : Nat) t v, Try.f13.params[j]? = some t → args[j]? = some v → Value.okWide Try.prog W .any base t v := hval0
  have hW' := hW
  obtain ⟨p, q, hA0, hV, rfl, hfz, hnd⟩ := hW
  have hA : DataW.TrodAll enc Try.prog W 0 (fun _ => true) true Try.f13.params.toList args.toList ds p := hA0
  rw [Try.params13] at hA hval
  obtain ⟨v0, vs0, d0, ds0, p0, q0, hargs, rfl, rfl, h0, r0⟩ := trodAll_cons hA
  obtain ⟨v1, vs1, d1, ds1, p1, q1, rfl, rfl, rfl, h1, r1⟩ := trodAll_cons r0
  obtain ⟨v2, vs2, d2, ds2, p2, q2, rfl, rfl, rfl, h2, r2⟩ := trodAll_cons r1
  obtain ⟨rfl, rfl, rfl⟩ := trodAll_nil r2
  obtain rfl : args = #[v0, v1, v2] := by cases args; simp_all
  obtain ⟨rfl, rfl⟩ := trodVars_none hV
  obtain ⟨c0, rfl, s0⟩ := okWide_array Try.underlying49 (hval 0 49 v0 rfl rfl)
  have k0 := h0
  have lt0 : ∀ x ∈ p0, x.block < W.heap.size := by obtain ⟨m, hm⟩ := k0; exact DataW.trod_lt m _ _ _ hm
  obtain ⟨a0, rfl, l0, w0⟩ := flat_open opens49 h0
  obtain ⟨c1, rfl, s1⟩ := okWide_struct Try.underlying48 (hval 1 48 v1 rfl rfl)
  have k1 := h1
  have lt1 : ∀ x ∈ p1, x.block < W.heap.size := by obtain ⟨m, hm⟩ := k1; exact DataW.trod_lt m _ _ _ hm
  obtain ⟨a1, rfl, l1, w1⟩ := flat_open opens48 h1
  obtain ⟨a2, rfl, rfl, rfl, w2⟩ := open_int Try.underlying3 (hval 2 3 v2 rfl rfl) h2
  clear hA0 hval0
  have hb2 := i64_wf w2
  refine (law_InodeSlots (w := W) a0 l0 (fun p hp => i64_wf (w0 p hp)) a1 l1 (fun p hp => i64_wf (w1 p hp)) a2 hb2.1 hb2.2).mono fun e W' ⟨he, bel⟩ => ?_
  subst he
  exact ⟨_, rfl, _, _, _, [], _, [], hW', trodAll_mk1 (shut_bool Try.underlying4 _), (trodAll_cons_mk (Below.trod laidOut (by kernel_rfl) (of_decide_eq_true (by kernel_rfl)) k0 bel lt0) (trodAll_cons_mk (Below.trod laidOut (by kernel_rfl) (of_decide_eq_true (by kernel_rfl)) k1 bel lt1) (trodAll_cons_mk (shut_int Try.underlying3 w2) trodAll_mk0))), rfl, Below.frame bel _, fun h => by cases h⟩

theorem over : Rows.inodeSlotsRow.holds Try.pinned (OpenSpec.ofChange Rows.inodeSlotsSpec) :=
  OpenClaim.holds_of_wide 13 Try.f13 rfl rfl rfl rfl rfl rfl rfl ⟨rfl, rfl, rfl, rfl, rfl⟩ rfl rfl rfl rfl rfl (by kernel_rfl) Try.func13 (by kernel_rfl)
    (of_decide_eq_true (by kernel_rfl)) (by unfold Func.isWrapper; first | (rw [if_pos (by decide +kernel)]; kernel_rfl) | (rw [if_neg (by decide +kernel)]; exact ⟨rfl, rfl⟩))
    (fun os started H enc _ => lifted os started H enc)

/-- The statement. -/
theorem proved : Rows.InodeSlotsSaid := over
#print axioms proved
end Go.Proofs.Ythbdnaogjmnagaa.inodeSlots
