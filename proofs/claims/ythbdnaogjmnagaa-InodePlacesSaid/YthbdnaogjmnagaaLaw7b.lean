/- The statements on inodes: places, and what is read again. -/
import Derived.Test.YthbdnaogjmnagaaLaw7
namespace Go.Proofs.Ythbdnaogjmnagaa
set_option linter.unusedVariables false
open Go.RowKit

set_option maxRecDepth 100000 in
set_option maxHeartbeats 2000000 in
theorem law_InodePlaces (w : World) (z1 : Int) (_z1 : -9223372036854775808 ≤ z1) (_z1' : z1 ≤ 9223372036854775807) (z2 : Int) (_z2 : -9223372036854775808 ≤ z2) (_z2' : z2 ≤ 9223372036854775807) (z3 : Int) (_z3 : -9223372036854775808 ≤ z3) (_z3' : z3 ≤ 9223372036854775807) :
    Calls Try.prog 11 #[.int .i64 z1, .int .i64 z2, .int .i64 z3] w fun e w' => e = .returned (.bool true) ∧ Ext w w' := by
  clear _z1 _z1' _z2 _z2' _z3 _z3'
  go_enter Try.func11, Try.ntmps11
  go_wp2_with fail
  refine (Low z1 _ 162 _ rfl (by omega) (by omega)).mono ?_
  rintro e w' ⟨rfl, rfl⟩
  go_wp2_with fail
  refine (Low z2 _ 162 _ rfl (by omega) (by omega)).mono ?_
  rintro e w' ⟨rfl, rfl⟩
  go_wp2_with fail
  refine (Low z3 _ 20737 _ rfl (by omega) (by omega)).mono ?_
  rintro e w' ⟨rfl, rfl⟩
  have ha := low_lt z1 (n := 162) (by omega)
  have hb := low_lt z2 (n := 162) (by omega)
  have hn := low_lt z3 (n := 20737) (by omega)
  generalize low z1 162 = a at *
  generalize low z2 162 = b at *
  generalize low z3 20737 = n at *
  have x1 := fun w => inode_Place a w
  have x2 := fun w => inode_Place b w
  have x3 := fun w => inode_Need n (by omega) w
  have x4 := fun w => inode_Place 162 w
  have v0 : plc0 162 = -1 := by decide
  rw [v0] at x4
  have hinj := plc_inj a b ha hb
  have hwi := plc_within a ha
  have hne := need_ok n hn
  have X2 := hide x2
  have X1 := hide x1
  clear x1 x2 v0
  generalize plc0 a = p0 at *
  generalize plc1 a = p1 at *
  generalize plc2 a = p2 at *
  generalize plc0 b = q0 at *
  generalize plc1 b = q1 at *
  generalize plc2 b = q2 at *
  generalize needI n = m at *
  generalize plc1 162 = r1 at *
  generalize plc2 162 = r2 at *
  go_wp2_with fail
  refine (X1.out _).mono ?_
  rintro e w' ⟨rfl, rfl⟩
  go_wp2_with fail
  refine (X2.out _).mono ?_
  rintro e w' ⟨rfl, rfl⟩
  clear X1 X2
  have e1 := IntWalk.i64_in (m * 128) (by omega)
  have e2 := IntWalk.i64_in (m - 1) (by omega)
  have e3 := IntWalk.i64_in ((m - 1) * 128) (by omega)
  obtain ⟨⟨g1, g2⟩, hw3⟩ := hwi
  have hm : m = 0 ∨ (¬ m = 0 ∧ (m - 1) * 128 < (n : Int)) := by omega
  have hmn := hne.1
  have hcase : (p0 = q0 ∧ p1 = q1 ∧ p2 = q2 ∧ a = b) ∨ (¬ p0 = q0 ∧ ¬ (a : Int) = b) ∨ (p0 = q0 ∧ ¬ p1 = q1 ∧ ¬ (a : Int) = b) ∨ (p0 = q0 ∧ p1 = q1 ∧ ¬ p2 = q2 ∧ ¬ (a : Int) = b) := by
    by_cases k0 : p0 = q0
    · by_cases k1 : p1 = q1
      · by_cases k2 : p2 = q2
        · exact .inl ⟨k0, k1, k2, hinj.1 ⟨k0, k1, k2⟩⟩
        · exact .inr (.inr (.inr ⟨k0, k1, k2, fun h => k2 (hinj.2 (by omega)).2.2⟩))
      · exact .inr (.inr (.inl ⟨k0, k1, fun h => k1 (hinj.2 (by omega)).2.1⟩))
    · exact .inr (.inl ⟨k0, fun h => k0 (hinj.2 (by omega)).1⟩)
  have hab : a = b ∨ ((a : Int) == b) = false := by
    by_cases h : a = b
    · exact .inl h
    · exact .inr (by simp; omega)
  have hcase : (p0 = q0 ∧ p1 = q1 ∧ p2 = q2 ∧ a = b) ∨ (¬ p0 = q0 ∧ ((a : Int) == b) = false) ∨ (p0 = q0 ∧ ¬ p1 = q1 ∧ ((a : Int) == b) = false) ∨ (p0 = q0 ∧ p1 = q1 ∧ (¬ p2 = q2 ∧ (p2 == q2) = false) ∧ ((a : Int) == b) = false) := by
    rcases hab with hab | hab
    · exact .inl ⟨(hinj.2 hab).1, (hinj.2 hab).2.1, (hinj.2 hab).2.2, hab⟩
    · rcases hcase with ⟨_, _, _, h⟩ | ⟨h1, _⟩ | ⟨h0, h1, _⟩ | ⟨h0, h1, h2, _⟩
      · subst h; simp at hab
      · exact .inr (.inl ⟨h1, hab⟩)
      · exact .inr (.inr (.inl ⟨h0, h1, hab⟩))
      · exact .inr (.inr (.inr ⟨h0, h1, ⟨h2, by simpa using h2⟩, hab⟩))
  clear hinj hne ha hb hn hab
  go_upto_region 6 with (first
    | (go_at_call 51; refine (x3 _).mono ?_; rintro e w' ⟨rfl, rfl⟩)
    | (go_at_call 49; refine (x4 _).mono ?_; rintro e w' ⟨rfl, rfl⟩))
  clear x3 x4
  rcases hcase with ⟨rfl, rfl, rfl, rfl⟩ | ⟨c1, c2⟩ | ⟨rfl, c1, c2⟩ | ⟨rfl, rfl, ⟨c1, c3⟩, c2⟩ <;> rcases hw3 with ⟨rfl, h1, rfl⟩ | ⟨rfl, h1, rfl⟩ | ⟨rfl, h1, h2⟩ <;> rcases hm with rfl | ⟨hm, hm2⟩ <;>
    (go_wp2_with (go_at_call 43; refine (law7_awake _).mono ?_; rintro e w2 ⟨rfl, hE2⟩)
     go_ret
     exact ⟨rfl, hE2⟩)
end Go.Proofs.Ythbdnaogjmnagaa
