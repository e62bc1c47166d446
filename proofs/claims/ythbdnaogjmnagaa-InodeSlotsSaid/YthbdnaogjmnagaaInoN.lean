/- Contracts of inodes: places and needs. -/
import Derived.Test.YthbdnaogjmnagaaInoS
namespace Go.Proofs.Ythbdnaogjmnagaa
set_option linter.unusedVariables false
open Go.RowKit

/-- How many blocks a size needs. -/
def needI (n : Int) : Int := if n < 1 then 0 else if 20736 ≤ n then 162 else (n + 127) / 128
def plc0 (n : Int) : Int := if n < 0 ∨ 162 ≤ n then -1 else if n < 6 then 0 else if n < 18 then 1 else 2
def plc1 (n : Int) : Int := if n < 0 ∨ 162 ≤ n then -1 else if n < 6 then n else if n < 18 then n - 6 else (n - 18) / 12
def plc2 (n : Int) : Int := if n < 0 ∨ 162 ≤ n then -1 else if n < 18 then 0 else (n - 18) % 12
theorem inode_Need (n : Int) (h0 : -9223372036854775808 ≤ n) (w : World) : Calls Try.prog 51 #[.int .i64 n] w fun e w' => e = .returned (.int .i64 (needI n)) ∧ w = w' := by
  by_cases h1 : n < 1
  · have HK := hide (show needI n = 0 from if_pos h1)
    go_enter Try.func51, Try.ntmps51
    go_wp2
    go_ret
    rw [HK.out]
    exact ⟨rfl, rfl⟩
  by_cases h2 : 20736 ≤ n
  · have HK := hide (show needI n = 162 by unfold needI; rw [if_neg h1, if_pos h2])
    go_enter Try.func51, Try.ntmps51
    go_wp2
    go_ret
    rw [HK.out]
    exact ⟨rfl, rfl⟩
  have HK := hide (show needI n = (n + 127) / 128 by unfold needI; rw [if_neg h1, if_neg h2])
  have e1 := IntWalk.i64_in (n + 128) (by omega)
  have e2 := IntWalk.i64_in (n + 128 - 1) (by omega)
  have e3 : (n + 128 - 1).tdiv 128 = (n + 127) / 128 := by rw [Int.tdiv_eq_ediv_of_nonneg (by omega)]; congr 1; omega
  have e4 := IntWalk.i64_in ((n + 127) / 128) (by omega)
  go_enter Try.func51, Try.ntmps51
  go_wp2
  go_ret
  rw [HK.out]
  exact ⟨rfl, rfl⟩
theorem ref7_Need (n : Int) (h0 : -9223372036854775808 ≤ n) (w : World) : Calls Try.prog 52 #[.int .i64 n] w fun e w' => e = .returned (.int .i64 (needI n)) ∧ w = w' := by
  by_cases h1 : n < 1
  · have HK := hide (show needI n = 0 from if_pos h1)
    go_enter Try.func52, Try.ntmps52
    go_wp2
    go_ret
    rw [HK.out]
    exact ⟨rfl, rfl⟩
  by_cases h2 : 20736 ≤ n
  · have HK := hide (show needI n = 162 by unfold needI; rw [if_neg h1, if_pos h2])
    go_enter Try.func52, Try.ntmps52
    go_wp2
    go_ret
    rw [HK.out]
    exact ⟨rfl, rfl⟩
  have HK := hide (show needI n = (n + 127) / 128 by unfold needI; rw [if_neg h1, if_neg h2])
  have e1 := IntWalk.i64_in (n + 128) (by omega)
  have e2 := IntWalk.i64_in (n + 128 - 1) (by omega)
  have e3 : (n + 128 - 1).tdiv 128 = (n + 127) / 128 := by rw [Int.tdiv_eq_ediv_of_nonneg (by omega)]; congr 1; omega
  have e4 := IntWalk.i64_in ((n + 127) / 128) (by omega)
  go_enter Try.func52, Try.ntmps52
  go_wp2
  go_ret
  rw [HK.out]
  exact ⟨rfl, rfl⟩
theorem inode_Place (n : Int) (w : World) : Calls Try.prog 49 #[.int .i64 n] w fun e w' => e = .returned (.tuple #[.int .i64 (plc0 n), .int .i64 (plc1 n), .int .i64 (plc2 n)]) ∧ w = w' := by
  by_cases h1 : n < 0
  · have HK := hide (show plc0 n = -1 ∧ plc1 n = -1 ∧ plc2 n = -1 by unfold plc0 plc1 plc2; (repeat' (first | apply And.intro | split)) <;> omega)
    go_enter Try.func49, Try.ntmps49
    go_wp2
    go_ret3
    rw [HK.out.1, HK.out.2.1, HK.out.2.2]
    exact ⟨rfl, rfl⟩
  by_cases h2 : 162 ≤ n
  · have HK := hide (show plc0 n = -1 ∧ plc1 n = -1 ∧ plc2 n = -1 by unfold plc0 plc1 plc2; (repeat' (first | apply And.intro | split)) <;> omega)
    go_enter Try.func49, Try.ntmps49
    go_wp2
    go_ret3
    rw [HK.out.1, HK.out.2.1, HK.out.2.2]
    exact ⟨rfl, rfl⟩
  by_cases h3 : n < 6
  · have HK := hide (show plc0 n = 0 ∧ plc1 n = n ∧ plc2 n = 0 by unfold plc0 plc1 plc2; (repeat' (first | apply And.intro | split)) <;> omega)
    go_enter Try.func49, Try.ntmps49
    go_wp2
    go_ret3
    rw [HK.out.1, HK.out.2.1, HK.out.2.2]
    exact ⟨rfl, rfl⟩
  have e1 := IntWalk.i64_in (n - 6) (by omega)
  by_cases h4 : n < 18
  · have HK := hide (show plc0 n = 1 ∧ plc1 n = n - 6 ∧ plc2 n = 0 by unfold plc0 plc1 plc2; (repeat' (first | apply And.intro | split)) <;> omega)
    go_enter Try.func49, Try.ntmps49
    go_wp2
    go_ret3
    rw [HK.out.1, HK.out.2.1, HK.out.2.2]
    exact ⟨rfl, rfl⟩
  have e2 := IntWalk.i64_in (n - 18) (by omega)
  have e2' := IntWalk.i64_in (n - 6 - 12) (by omega)
  have e3 : (n - 18).tdiv 12 = (n - 18) / 12 := Int.tdiv_eq_ediv_of_nonneg (by omega)
  have e3' : (n - 6 - 12).tdiv 12 = (n - 18) / 12 := by rw [show n - 6 - 12 = n - 18 from by omega]; exact e3
  have e4 := IntWalk.i64_in ((n - 18) / 12) (by omega)
  have e5 : (n - 18).tmod 12 = (n - 18) % 12 := Int.tmod_eq_emod_of_nonneg (by omega)
  have e5' : (n - 6 - 12).tmod 12 = (n - 18) % 12 := by rw [show n - 6 - 12 = n - 18 from by omega]; exact e5
  have e6 := IntWalk.i64_in ((n - 18) % 12) (by omega)
  have HK := hide (show plc0 n = 2 ∧ plc1 n = (n - 18) / 12 ∧ plc2 n = (n - 18) % 12 by unfold plc0 plc1 plc2; (repeat' (first | apply And.intro | split)) <;> omega)
  go_enter Try.func49, Try.ntmps49
  go_wp2
  go_ret3
  rw [HK.out.1, HK.out.2.1, HK.out.2.2]
  exact ⟨rfl, rfl⟩
theorem ref7_Place (n : Int) (w : World) : Calls Try.prog 50 #[.int .i64 n] w fun e w' => e = .returned (.tuple #[.int .i64 (plc0 n), .int .i64 (plc1 n), .int .i64 (plc2 n)]) ∧ w = w' := by
  by_cases h1 : n < 0
  · have HK := hide (show plc0 n = -1 ∧ plc1 n = -1 ∧ plc2 n = -1 by unfold plc0 plc1 plc2; (repeat' (first | apply And.intro | split)) <;> omega)
    go_enter Try.func50, Try.ntmps50
    go_wp2
    go_ret3
    rw [HK.out.1, HK.out.2.1, HK.out.2.2]
    exact ⟨rfl, rfl⟩
  by_cases h2 : 162 ≤ n
  · have HK := hide (show plc0 n = -1 ∧ plc1 n = -1 ∧ plc2 n = -1 by unfold plc0 plc1 plc2; (repeat' (first | apply And.intro | split)) <;> omega)
    go_enter Try.func50, Try.ntmps50
    go_wp2
    go_ret3
    rw [HK.out.1, HK.out.2.1, HK.out.2.2]
    exact ⟨rfl, rfl⟩
  by_cases h3 : n < 6
  · have HK := hide (show plc0 n = 0 ∧ plc1 n = n ∧ plc2 n = 0 by unfold plc0 plc1 plc2; (repeat' (first | apply And.intro | split)) <;> omega)
    go_enter Try.func50, Try.ntmps50
    go_wp2
    go_ret3
    rw [HK.out.1, HK.out.2.1, HK.out.2.2]
    exact ⟨rfl, rfl⟩
  have e1 := IntWalk.i64_in (n - 6) (by omega)
  by_cases h4 : n < 18
  · have HK := hide (show plc0 n = 1 ∧ plc1 n = n - 6 ∧ plc2 n = 0 by unfold plc0 plc1 plc2; (repeat' (first | apply And.intro | split)) <;> omega)
    go_enter Try.func50, Try.ntmps50
    go_wp2
    go_ret3
    rw [HK.out.1, HK.out.2.1, HK.out.2.2]
    exact ⟨rfl, rfl⟩
  have e2 := IntWalk.i64_in (n - 18) (by omega)
  have e2' := IntWalk.i64_in (n - 6 - 12) (by omega)
  have e3 : (n - 18).tdiv 12 = (n - 18) / 12 := Int.tdiv_eq_ediv_of_nonneg (by omega)
  have e3' : (n - 6 - 12).tdiv 12 = (n - 18) / 12 := by rw [show n - 6 - 12 = n - 18 from by omega]; exact e3
  have e4 := IntWalk.i64_in ((n - 18) / 12) (by omega)
  have e5 : (n - 18).tmod 12 = (n - 18) % 12 := Int.tmod_eq_emod_of_nonneg (by omega)
  have e5' : (n - 6 - 12).tmod 12 = (n - 18) % 12 := by rw [show n - 6 - 12 = n - 18 from by omega]; exact e5
  have e6 := IntWalk.i64_in ((n - 18) % 12) (by omega)
  have HK := hide (show plc0 n = 2 ∧ plc1 n = (n - 18) / 12 ∧ plc2 n = (n - 18) % 12 by unfold plc0 plc1 plc2; (repeat' (first | apply And.intro | split)) <;> omega)
  go_enter Try.func50, Try.ntmps50
  go_wp2
  go_ret3
  rw [HK.out.1, HK.out.2.1, HK.out.2.2]
  exact ⟨rfl, rfl⟩
end Go.Proofs.Ythbdnaogjmnagaa
