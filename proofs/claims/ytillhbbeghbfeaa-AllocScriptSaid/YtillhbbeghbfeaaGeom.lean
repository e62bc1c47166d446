/- Geometries: what may be one, and the functions that tell it. -/
import Derived.Test.YtillhbbeghbfeaaBase
import Derived.Test.YtillhbbeghbfeaaAgg
import Derived.Test.YtillhbbeghbfeaaPtr
import Derived.Test.YtillhbbeghbfeaaFlat
namespace Go.Proofs.Ytillhbbeghbfeaa
open Go.RowKit

def geo (a b c : Int) : List Int := [a, b, c]
theorem geo_len (a b c : Int) : (geo a b c).length = 3 := rfl
theorem geo_of {ps : List Int} (h : ps.length = 3) : ∃ a b c, ps = geo a b c := by
  match ps, h with
  | [a, b, c], _ => exact ⟨a, b, c, rfl⟩
theorem geo_inj {a b c a' b' c' : Int} : geo a b c = geo a' b' c' ↔ a = a' ∧ b = b' ∧ c = c' := by simp [geo]
def mayG (a b c : Int) : Prop := (1 ≤ a ∧ a ≤ 8) ∧ (4 ≤ b ∧ b ≤ 32) ∧ b % 4 = 0 ∧ (16 ≤ c ∧ c ≤ 96)
instance (a b c : Int) : Decidable (mayG a b c) := by unfold mayG; infer_instance
theorem info_geo : (Try.prog.info? 24).map (·.size) = some 3 := by kernel_rfl
theorem agg_geo (w : World) : (isAgg 24).run Try.prog w = .ok true w := by kernel_rfl
theorem zero_geo : (Try.prog.info? 24).map (·.zero) = some (some (.agg (i64s (geo 0 0 0)).toArray)) := by kernel_rfl
theorem bld_geo0 (w : World) : (Instr.build 24 #[]).run Try.prog w = .ok (.agg (i64s (geo 0 0 0)).toArray) w := by kernel_rfl
theorem Own.geo {w : World} {B e g : Nat} {x y z : Int} (h : Own w B e (some ⟨g, 0, none⟩) 3 3 (i64s (Go.Proofs.Ytillhbbeghbfeaa.geo x y z))) :
    w.cell? ⟨g, 0, none⟩ = some (.int .i64 x) ∧ w.cell? ⟨g, 1, none⟩ = some (.int .i64 y) ∧ w.cell? ⟨g, 2, none⟩ = some (.int .i64 z) :=
  ⟨by rw [h.cellAt 0 (by omega)]; rfl, by rw [h.cellAt 1 (by omega)]; rfl, by rw [h.cellAt 2 (by omega)]; rfl⟩

theorem Between (n lo hi : Int) (w : World) : Calls Try.prog 55 #[.int .i64 n, .int .i64 lo, .int .i64 hi] w fun e w' => e = .returned (.bool (decide (lo ≤ n ∧ n ≤ hi))) ∧ w = w' := by
  by_cases h1 : lo ≤ n
  · by_cases h2 : n ≤ hi
    · go_enter Try.func55, Try.ntmps55
      go_wp2
      go_ret
      exact ⟨ret_bool (decide_eq_true ⟨h1, h2⟩).symm, rfl⟩
    · go_enter Try.func55, Try.ntmps55
      go_wp2
      go_ret
      exact ⟨ret_bool (by simp; omega), rfl⟩
  · go_enter Try.func55, Try.ntmps55
    go_wp2
    go_ret
    exact ⟨ret_bool (by simp; omega), rfl⟩

set_option maxHeartbeats 1000000 in
theorem May (a b c : Int) (w : World) : Calls Try.prog 30 #[.agg (i64s (geo a b c)).toArray] w fun e w' => e = .returned (.bool (decide (mayG a b c))) ∧ Ext w w' := by
  have hn := geo_len a b c
  go_enter Try.func30, Try.ntmps30
  go_wp2_with (first
    | (with_reducible refine ag_box (o := ⟨some 1, _, _, _, _, _⟩) rfl 24 _ rfl _ 3 rfl rfl (by omega) (i64s_one (geo a b c)) w.heap.size (Nat.le_refl _) ?_; intro w1 hB1 hE1 hz1
       obtain ⟨c0, c1, c2⟩ := Own.geo hB1))
  refine (Between _ _ _ _).mono ?_
  rintro e w2 ⟨rfl, rfl⟩
  by_cases h1 : 1 ≤ a ∧ a ≤ 8
  case neg =>
    rw [decide_eq_false h1]
    go_wp2
    go_ret
    exact ⟨ret_bool (decide_eq_false (fun h => h1 h.1)).symm, hE1⟩
  case pos =>
  rw [decide_eq_true h1]
  go_wp2_with fail
  refine (Between _ _ _ _).mono ?_
  rintro e w2 ⟨rfl, rfl⟩
  by_cases h2 : 4 ≤ b ∧ b ≤ 32
  case neg =>
    rw [decide_eq_false h2]
    go_wp2
    go_ret
    exact ⟨ret_bool (decide_eq_false (fun h => h2 h.2.1)).symm, hE1⟩
  case pos =>
  rw [decide_eq_true h2]
  obtain ⟨q, rfl⟩ := Int.eq_ofNat_of_zero_le (show 0 ≤ b by omega)
  by_cases h3 : (q : Int) % 4 = 0
  case neg =>
    have h3' : (((q % 4 : Nat) : Int) == 0) = false := by simp; omega
    go_wp2
    go_ret
    exact ⟨ret_bool (decide_eq_false (fun h => h3 h.2.2.1)).symm, hE1⟩
  case pos =>
  have h3' : q % 4 = 0 := by omega
  go_wp2_with fail
  refine (Between _ _ _ _).mono ?_
  rintro e w2 ⟨rfl, rfl⟩
  go_wp2
  go_ret
  exact ⟨ret_bool (by rw [← Bool.decide_and]; exact decide_eq_decide.2 ⟨fun h => ⟨h1, h2, h3, h⟩, fun h => h.2.2.2⟩), hE1⟩

set_option maxHeartbeats 1000000 in
theorem refMay (a b c : Int) (w : World) : Calls Try.prog 40 #[.agg (i64s (geo a b c)).toArray] w fun e w' => e = .returned (.bool (decide (mayG a b c))) ∧ Ext w w' := by
  have hn := geo_len a b c
  have go : ∀ w1, Own w1 w.heap.size 24 (some ⟨w.heap.size, 0, none⟩) 3 3 (i64s (geo a b c)) → (w1.cell? ⟨w.heap.size, 0, none⟩ = some (.int .i64 a) ∧ w1.cell? ⟨w.heap.size, 1, none⟩ = some (.int .i64 b) ∧ w1.cell? ⟨w.heap.size, 2, none⟩ = some (.int .i64 c)) := fun w1 h => Own.geo h
  by_cases h : mayG a b c
  · obtain ⟨h1, h2, h3, h4⟩ := h
    rw [show decide (mayG a b c) = true from decide_eq_true ⟨h1, h2, h3, h4⟩]
    obtain ⟨q, rfl⟩ := Int.eq_ofNat_of_zero_le (show 0 ≤ b by omega)
    have h3' : q % 4 = 0 := by omega
    go_enter Try.func40, Try.ntmps40
    go_wp2_with (first
      | (with_reducible refine ag_box (o := ⟨some 1, _, _, _, _, _⟩) rfl 24 _ rfl _ 3 rfl rfl (by omega) (i64s_one (geo a _ c)) w.heap.size (Nat.le_refl _) ?_; intro w1 hB1 hE1 hz1
         obtain ⟨c0, c1, c2⟩ := go w1 hB1))
    go_ret
    exact ⟨rfl, hE1⟩
  · rw [show decide (mayG a b c) = false from decide_eq_false h]
    unfold mayG at h
    by_cases h1 : 1 ≤ a
    case neg => 
      clear h
      go_enter Try.func40, Try.ntmps40
      go_wp2_with (first
        | (with_reducible refine ag_box (o := ⟨some 1, _, _, _, _, _⟩) rfl 24 _ rfl _ 3 rfl rfl (by omega) (i64s_one (geo a _ c)) w.heap.size (Nat.le_refl _) ?_; intro w1 hB1 hE1 hz1
           obtain ⟨c0, c1, c2⟩ := go w1 hB1))
      go_ret
      exact ⟨rfl, hE1⟩
    by_cases h2 : a ≤ 8
    case neg => 
      clear h
      go_enter Try.func40, Try.ntmps40
      go_wp2_with (first
        | (with_reducible refine ag_box (o := ⟨some 1, _, _, _, _, _⟩) rfl 24 _ rfl _ 3 rfl rfl (by omega) (i64s_one (geo a _ c)) w.heap.size (Nat.le_refl _) ?_; intro w1 hB1 hE1 hz1
           obtain ⟨c0, c1, c2⟩ := go w1 hB1))
      go_ret
      exact ⟨rfl, hE1⟩
    by_cases h3 : 4 ≤ b
    case neg => 
      clear h
      go_enter Try.func40, Try.ntmps40
      go_wp2_with (first
        | (with_reducible refine ag_box (o := ⟨some 1, _, _, _, _, _⟩) rfl 24 _ rfl _ 3 rfl rfl (by omega) (i64s_one (geo a _ c)) w.heap.size (Nat.le_refl _) ?_; intro w1 hB1 hE1 hz1
           obtain ⟨c0, c1, c2⟩ := go w1 hB1))
      go_ret
      exact ⟨rfl, hE1⟩
    by_cases h4 : b ≤ 32
    case neg => 
      clear h
      go_enter Try.func40, Try.ntmps40
      go_wp2_with (first
        | (with_reducible refine ag_box (o := ⟨some 1, _, _, _, _, _⟩) rfl 24 _ rfl _ 3 rfl rfl (by omega) (i64s_one (geo a _ c)) w.heap.size (Nat.le_refl _) ?_; intro w1 hB1 hE1 hz1
           obtain ⟨c0, c1, c2⟩ := go w1 hB1))
      go_ret
      exact ⟨rfl, hE1⟩
    obtain ⟨q, rfl⟩ := Int.eq_ofNat_of_zero_le (show 0 ≤ b by omega)
    by_cases h5 : (q : Int) % 4 = 0
    case neg =>
      have h5' : (((q % 4 : Nat) : Int) == 0) = false := by simp; omega
      
      clear h
      go_enter Try.func40, Try.ntmps40
      go_wp2_with (first
        | (with_reducible refine ag_box (o := ⟨some 1, _, _, _, _, _⟩) rfl 24 _ rfl _ 3 rfl rfl (by omega) (i64s_one (geo a _ c)) w.heap.size (Nat.le_refl _) ?_; intro w1 hB1 hE1 hz1
           obtain ⟨c0, c1, c2⟩ := go w1 hB1))
      go_ret
      exact ⟨rfl, hE1⟩
    have h5' : q % 4 = 0 := by omega
    by_cases h6 : 16 ≤ c
    case neg => 
      clear h
      go_enter Try.func40, Try.ntmps40
      go_wp2_with (first
        | (with_reducible refine ag_box (o := ⟨some 1, _, _, _, _, _⟩) rfl 24 _ rfl _ 3 rfl rfl (by omega) (i64s_one (geo a _ c)) w.heap.size (Nat.le_refl _) ?_; intro w1 hB1 hE1 hz1
           obtain ⟨c0, c1, c2⟩ := go w1 hB1))
      go_ret
      exact ⟨rfl, hE1⟩
    by_cases h7 : c ≤ 96
    case neg => 
      clear h
      go_enter Try.func40, Try.ntmps40
      go_wp2_with (first
        | (with_reducible refine ag_box (o := ⟨some 1, _, _, _, _, _⟩) rfl 24 _ rfl _ 3 rfl rfl (by omega) (i64s_one (geo a _ c)) w.heap.size (Nat.le_refl _) ?_; intro w1 hB1 hE1 hz1
           obtain ⟨c0, c1, c2⟩ := go w1 hB1))
      go_ret
      exact ⟨rfl, hE1⟩
    exact absurd ⟨⟨h1, h2⟩, ⟨h3, h4⟩, h5, h6, h7⟩ h
end Go.Proofs.Ytillhbbeghbfeaa
