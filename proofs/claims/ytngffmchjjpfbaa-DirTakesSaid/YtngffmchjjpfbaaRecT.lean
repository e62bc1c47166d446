/- Records: what the reference reads. -/
import Derived.Test.YtngffmchjjpfbaaRecR
import Derived.Deep.DeepCutAuto
namespace Go.Proofs.Ytngffmchjjpfbaa
set_option linter.unusedVariables false
open Go.RowKit
/-- Are bytes a record's sector? -/
def rdOkR (b : List Nat) : Prop := kindOf b = 82 ∧ mayR (rdR (bodyOf b)) = true ∧ sealOf 82 (recB (rdR (bodyOf b))) = b
instance (b : List Nat) : Decidable (rdOkR b) := by unfold rdOkR; infer_instance
def readRL (b : List Nat) : Rec := if rdOkR b then rdR (bodyOf b) else zR
def readRE (b : List Nat) : Nat := if rdOkR b then 0 else 3
theorem rdOkR_lay {b : List Nat} (h : kindOf b = 82) : rdOkR b ↔ layRE (rdR (bodyOf b)) = 0 ∧ layRL (rdR (bodyOf b)) = b := by
  unfold rdOkR layRE layRL
  constructor
  · rintro ⟨_, h1, h2⟩; rw [if_pos h1, if_pos h1]; exact ⟨rfl, h2⟩
  · rintro ⟨h1, h2⟩
    split at h1
    · rename_i ha
      rw [if_pos ha] at h2
      exact ⟨h, ha, h2⟩
    · cases h1
theorem layRE_or (r : Rec) : layRE r = 0 ∨ layRE r = 2 := by unfold layRE; split <;> simp
theorem Bytes.layRL (r : Rec) : Bytes (layRL r) := by
  unfold Go.Proofs.Ytngffmchjjpfbaa.layRL
  split
  · rename_i h
    exact Bytes.sealOf (by omega) (Bytes.recB h)
  · exact Bytes.nil
theorem Sl.mid {w : World} {g n c : Nat} {xs : List Nat} (h : Sl w (some ⟨g, 0, none⟩) n c (by8 xs)) (l k : Nat) (hl : l + k ≤ n) (hc : l < c) : Sl w (some ⟨g, l, none⟩) k (c - l) (by8 ((xs.drop l).take k)) := by
  have hcut := (h.cut (l := l) (by omega)).pre (m := k) (by omega)
  rw [if_neg (by omega), by8_drop, by8_take] at hcut
  have e : (some (⟨g, 0, none⟩ : Addr)).map (·.add l) = some ⟨g, l, none⟩ := by simp [Addr.add_lit]
  rw [e] at hcut
  exact hcut
set_option maxRecDepth 100000 in
set_option maxHeartbeats 4000000 in
theorem ref10_Read (A : Option Addr) (n c : Nat) (xs : List Nat) (w : World) (h : Sl w A n c (by8 xs)) (hb : Bytes xs) :
    Calls Try.prog 14 #[.slice A n c] w fun e w' => e = .returned (.tuple #[.agg (rV (readRL xs)).toArray, .int .i64 (readRE xs : Nat)]) ∧ Ext w w' := by
  by_cases hk : kindOf xs = 82
  case neg =>
    have hno : ¬ rdOkR xs := fun h => hk h.1
    have H12 := hide (And.intro (show readRL xs = zR from if_neg hno) (show readRE xs = 3 from if_neg hno))
    have hO := fun w1 (hE : Ext w w1) => ref_Open_no 82 A n c xs w1 (h.ext hE) hb (.inr hk)
    clear hno hk
    go_enter Try.func14, Try.ntmps14
    go_wp2_with (with_reducible refine ag_alloc (o := ⟨some 2, _, _, _, _, _⟩) rfl 23 rfl _ 7 zero_rec rfl (by omega) (rV_one zR) w.heap.size (Nat.le_refl _) ?_; intro w1 hR1 hE1 hz1)
    refine (hO _ hE1).mono ?_
    rintro e w3 ⟨rfl, hE3⟩
    have hR3 := hR1.ext hE3
    go_wp2_with (first
      | (with_reducible refine ag_zero rfl 23 rfl _ (bld_rec _) ?_)
      | (with_reducible refine ag_store (o := ⟨none, _, _, _, _, _⟩) rfl 23 (.tmp 2) (.tmp 15) rfl w.heap.size 7 w.heap.size 23 _ (rV zR) rfl rfl hR3 rfl (rV_one _) info_rec ?_; intro w4 hR4 hG4))
    have hF4 := (hE1.trans hE3).grown hG4 (by simp)
    rw [H12.out.1, H12.out.2]
    exact bodyPost_ret (results_agg rfl _ rfl rfl hR4 agg_rec info_rec) rfl ⟨rfl, hF4⟩
  have hl := kind_len (xs := xs) (by omega)
  have hbl : (bodyOf xs).length = 123 := bodyOf_len hl
  have hbb : Bytes (bodyOf xs) := (hb.drop 1).take 123
  have HK := hide hk
  have HBL := hide hbl
  have hRD := rdOkR_lay hk
  have HRD := hide hRD
  clear hk hl hbl hRD
  have r1 : rdOkR xs → readRL xs = rdR (bodyOf xs) ∧ readRE xs = 0 := fun h => ⟨if_pos h, if_pos h⟩
  have r2 : ¬ rdOkR xs → readRL xs = zR ∧ readRE xs = 3 := fun h => ⟨if_neg h, if_neg h⟩
  have HR := hide (And.intro r1 r2)
  clear r1 r2
  go_enter Try.func14, Try.ntmps14
  go_wp2_with (with_reducible refine ag_alloc (o := ⟨some 2, _, _, _, _, _⟩) rfl 23 rfl _ 7 zero_rec rfl (by omega) (rV_one zR) w.heap.size (Nat.le_refl _) ?_; intro w1 hR1 hE1 hz1)
  refine (ref_Open 82 _ _ _ xs _ (h.ext hE1) hb (by omega) HK.out).mono ?_
  rintro e w3 ⟨gb, cb, rfl, hO3, hE3⟩
  have hcb := hO3.sl.nc
  go_wp2_with fail
  generalize bodyOf xs = bs at *
  obtain ⟨_, _, x0, hA, hx0, hc0, hl0⟩ := hO3.sl.at8 hbb (k := 0) (by omega)
  simp at hA
  obtain ⟨rfl, rfl⟩ := hA
  simp only [Nat.zero_add] at hc0
  obtain ⟨_, _, x1, hA, hx1, hc1, hl1⟩ := hO3.sl.at8 hbb (k := 1) (by omega)
  simp at hA
  obtain ⟨rfl, rfl⟩ := hA
  simp only [Nat.zero_add] at hc1
  obtain ⟨_, _, x2, hA, hx2, hc2, hl2⟩ := hO3.sl.at8 hbb (k := 2) (by omega)
  simp at hA
  obtain ⟨rfl, rfl⟩ := hA
  simp only [Nat.zero_add] at hc2
  obtain ⟨_, _, x3, hA, hx3, hc3, hl3⟩ := hO3.sl.at8 hbb (k := 3) (by omega)
  simp at hA
  obtain ⟨rfl, rfl⟩ := hA
  simp only [Nat.zero_add] at hc3
  obtain ⟨_, _, x4, hA, hx4, hc4, hl4⟩ := hO3.sl.at8 hbb (k := 4) (by omega)
  simp at hA
  obtain ⟨rfl, rfl⟩ := hA
  simp only [Nat.zero_add] at hc4
  obtain ⟨_, _, x5, hA, hx5, hc5, hl5⟩ := hO3.sl.at8 hbb (k := 5) (by omega)
  simp at hA
  obtain ⟨rfl, rfl⟩ := hA
  simp only [Nat.zero_add] at hc5
  obtain ⟨_, _, x6, hA, hx6, hc6, hl6⟩ := hO3.sl.at8 hbb (k := 6) (by omega)
  simp at hA
  obtain ⟨rfl, rfl⟩ := hA
  simp only [Nat.zero_add] at hc6
  obtain ⟨_, _, x7, hA, hx7, hc7, hl7⟩ := hO3.sl.at8 hbb (k := 7) (by omega)
  simp at hA
  obtain ⟨rfl, rfl⟩ := hA
  simp only [Nat.zero_add] at hc7
  obtain ⟨_, _, x8, hA, hx8, hc8, hl8⟩ := hO3.sl.at8 hbb (k := 8) (by omega)
  simp at hA
  obtain ⟨rfl, rfl⟩ := hA
  simp only [Nat.zero_add] at hc8
  have or1 := or_bytes hl1 hl2
  have sh1 : IntKind.i64.wrap ((x1 : Int) * 256) = (x1 : Int) * 256 := IntWalk.i64_in _ (by omega)
  have or3 := or_bytes hl3 hl4
  have sh3 : IntKind.i64.wrap ((x3 : Int) * 256) = (x3 : Int) * 256 := IntWalk.i64_in _ (by omega)
  have or5 := or_bytes hl5 hl6
  have sh5 : IntKind.i64.wrap ((x5 : Int) * 256) = (x5 : Int) * 256 := IntWalk.i64_in _ (by omega)
  have or7 := or_bytes hl7 hl8
  have sh7 : IntKind.i64.wrap ((x7 : Int) * 256) = (x7 : Int) * 256 := IntWalk.i64_in _ (by omega)
  have wb0 : IntKind.i64.wrap (x0 : Int) = (x0 : Int) := IntWalk.i64_in _ (by omega)
  have wb1 : IntKind.i64.wrap (x1 : Int) = (x1 : Int) := IntWalk.i64_in _ (by omega)
  have wb2 : IntKind.i64.wrap (x2 : Int) = (x2 : Int) := IntWalk.i64_in _ (by omega)
  have wb3 : IntKind.i64.wrap (x3 : Int) = (x3 : Int) := IntWalk.i64_in _ (by omega)
  have wb4 : IntKind.i64.wrap (x4 : Int) = (x4 : Int) := IntWalk.i64_in _ (by omega)
  have wb5 : IntKind.i64.wrap (x5 : Int) = (x5 : Int) := IntWalk.i64_in _ (by omega)
  have wb6 : IntKind.i64.wrap (x6 : Int) = (x6 : Int) := IntWalk.i64_in _ (by omega)
  have wb7 : IntKind.i64.wrap (x7 : Int) = (x7 : Int) := IntWalk.i64_in _ (by omega)
  have wb8 : IntKind.i64.wrap (x8 : Int) = (x8 : Int) := IntWalk.i64_in _ (by omega)
  have hX := Ext.drew (Ext.refl w3)
  refine wp_region_held_drew (S := fun w' => w'.cell? ⟨gb, 0, none⟩ = some (.int .u8 (x0 : Nat)) ∧ w'.cell? ⟨gb, 1, none⟩ = some (.int .u8 (x1 : Nat)) ∧ w'.cell? ⟨gb, 2, none⟩ = some (.int .u8 (x2 : Nat)) ∧ w'.cell? ⟨gb, 3, none⟩ = some (.int .u8 (x3 : Nat)) ∧ w'.cell? ⟨gb, 4, none⟩ = some (.int .u8 (x4 : Nat)) ∧ w'.cell? ⟨gb, 5, none⟩ = some (.int .u8 (x5 : Nat)) ∧ w'.cell? ⟨gb, 6, none⟩ = some (.int .u8 (x6 : Nat)) ∧ w'.cell? ⟨gb, 7, none⟩ = some (.int .u8 (x7 : Nat)) ∧ w'.cell? ⟨gb, 8, none⟩ = some (.int .u8 (x8 : Nat))) (by kernel_rfl) ⟨hX.cell hc0, hX.cell hc1, hX.cell hc2, hX.cell hc3, hX.cell hc4, hX.cell hc5, hX.cell hc6, hX.cell hc7, hX.cell hc8⟩ (fun hHeld => ?_)
  refine held_take 0 rfl (by kernel_rfl) (by kernel_rfl) (by kernel_rfl) (fun _ _ _ _ h => h) (by rfl) ?_ ?_ (by assumption) ?_
  rotate_left
  · (intro wx hSx; (try dsimp only at hSx); go_simp)
    all_goals with_reducible rfl
  (try simp only [Act.put, List.setIfInBounds_toArray, List.set_cons_zero, List.set_cons_succ])
  refine held_take 1 rfl (by kernel_rfl) (by kernel_rfl) (by kernel_rfl) (fun _ _ _ _ h => h) (by rfl) ?_ ?_ (by assumption) ?_
  rotate_left
  · (intro wx hSx; (try dsimp only at hSx); go_simp)
    all_goals with_reducible rfl
  (try simp only [Act.put, List.setIfInBounds_toArray, List.set_cons_zero, List.set_cons_succ])
  refine held_take 2 rfl (by kernel_rfl) (by kernel_rfl) (by kernel_rfl) (fun _ _ _ _ h => h) (by rfl) ?_ ?_ (by assumption) ?_
  rotate_left
  · (intro wx hSx; (try dsimp only at hSx); go_simp)
    all_goals with_reducible rfl
  (try simp only [Act.put, List.setIfInBounds_toArray, List.set_cons_zero, List.set_cons_succ])
  refine held_take 3 rfl (by kernel_rfl) (by kernel_rfl) (by kernel_rfl) (fun _ _ _ _ h => h) (by rfl) ?_ ?_ (by assumption) ?_
  rotate_left
  · (intro wx hSx; (try dsimp only at hSx); go_simp)
    all_goals with_reducible rfl
  (try simp only [Act.put, List.setIfInBounds_toArray, List.set_cons_zero, List.set_cons_succ])
  refine held_take 4 rfl (by kernel_rfl) (by kernel_rfl) (by kernel_rfl) (fun _ _ _ _ h => h) (by rfl) ?_ ?_ (by assumption) ?_
  rotate_left
  · (intro wx hSx; (try dsimp only at hSx); go_simp)
    all_goals with_reducible rfl
  (try simp only [Act.put, List.setIfInBounds_toArray, List.set_cons_zero, List.set_cons_succ])
  refine held_take 5 rfl (by kernel_rfl) (by kernel_rfl) (by kernel_rfl) (fun _ _ _ _ h => h) (by rfl) ?_ ?_ (by assumption) ?_
  rotate_left
  · (intro wx hSx; (try dsimp only at hSx); go_simp)
    all_goals with_reducible rfl
  (try simp only [Act.put, List.setIfInBounds_toArray, List.set_cons_zero, List.set_cons_succ])
  refine held_take 6 rfl (by kernel_rfl) (by kernel_rfl) (by kernel_rfl) (fun _ _ _ _ h => h) (by rfl) ?_ ?_ (by assumption) ?_
  rotate_left
  · (intro wx hSx; (try dsimp only at hSx); go_simp)
    all_goals with_reducible rfl
  (try simp only [Act.put, List.setIfInBounds_toArray, List.set_cons_zero, List.set_cons_succ])
  refine held_take 7 rfl (by kernel_rfl) (by kernel_rfl) (by kernel_rfl) (fun _ _ _ _ h => h) (by rfl) ?_ ?_ (by assumption) ?_
  rotate_left
  · (intro wx hSx; (try dsimp only at hSx); go_simp)
    all_goals with_reducible rfl
  (try simp only [Act.put, List.setIfInBounds_toArray, List.set_cons_zero, List.set_cons_succ])
  refine held_take 8 rfl (by kernel_rfl) (by kernel_rfl) (by kernel_rfl) (fun _ _ _ _ h => h) (by rfl) ?_ ?_ (by assumption) ?_
  rotate_left
  · (intro wx hSx; (try dsimp only at hSx); go_simp)
    all_goals with_reducible rfl
  (try simp only [Act.put, List.setIfInBounds_toArray, List.set_cons_zero, List.set_cons_succ])
  refine held_take 9 rfl (by kernel_rfl) (by kernel_rfl) (by kernel_rfl) (fun _ _ _ _ h => h) (by rfl) ?_ ?_ (by assumption) ?_
  rotate_left
  · (intro wx hSx; (try dsimp only at hSx); go_simp)
    all_goals with_reducible rfl
  (try simp only [Act.put, List.setIfInBounds_toArray, List.set_cons_zero, List.set_cons_succ])
  refine held_take 10 rfl (by kernel_rfl) (by kernel_rfl) (by kernel_rfl) (fun _ _ _ _ h => h) (by rfl) ?_ ?_ (by assumption) ?_
  rotate_left
  · (intro wx hSx; (try dsimp only at hSx); go_simp)
    all_goals with_reducible rfl
  (try simp only [Act.put, List.setIfInBounds_toArray, List.set_cons_zero, List.set_cons_succ])
  refine held_take 11 rfl (by kernel_rfl) (by kernel_rfl) (by kernel_rfl) (fun _ _ _ _ h => h) (by rfl) ?_ ?_ (by assumption) ?_
  rotate_left
  · (intro wx hSx; (try dsimp only at hSx); go_simp)
    all_goals with_reducible rfl
  (try simp only [Act.put, List.setIfInBounds_toArray, List.set_cons_zero, List.set_cons_succ])
  refine held_take 12 rfl (by kernel_rfl) (by kernel_rfl) (by kernel_rfl) (fun _ _ _ _ h => h) (by rfl) ?_ ?_ (by assumption) ?_
  rotate_left
  · (intro wx hSx; (try dsimp only at hSx); go_simp)
    all_goals with_reducible rfl
  (try simp only [Act.put, List.setIfInBounds_toArray, List.set_cons_zero, List.set_cons_succ])
  refine held_take 13 rfl (by kernel_rfl) (by kernel_rfl) (by kernel_rfl) (fun _ _ _ _ h => h) (by rfl) ?_ ?_ (by assumption) ?_
  rotate_left
  · (intro wx hSx; (try dsimp only at hSx); go_simp)
    all_goals with_reducible rfl
  (try simp only [Act.put, List.setIfInBounds_toArray, List.set_cons_zero, List.set_cons_succ])
  refine held_take 14 rfl (by kernel_rfl) (by kernel_rfl) (by kernel_rfl) (fun _ _ _ _ h => h) (by rfl) ?_ ?_ (by assumption) ?_
  rotate_left
  · (intro wx hSx; (try dsimp only at hSx); go_simp)
    all_goals with_reducible rfl
  (try simp only [Act.put, List.setIfInBounds_toArray, List.set_cons_zero, List.set_cons_succ])
  refine held_take 15 rfl (by kernel_rfl) (by kernel_rfl) (by kernel_rfl) (fun _ _ _ _ h => h) (by rfl) ?_ ?_ (by assumption) ?_
  rotate_left
  · (intro wx hSx; (try dsimp only at hSx); go_simp)
    all_goals with_reducible rfl
  (try simp only [Act.put, List.setIfInBounds_toArray, List.set_cons_zero, List.set_cons_succ])
  refine held_take 16 rfl (by kernel_rfl) (by kernel_rfl) (by kernel_rfl) (fun _ _ _ _ h => h) (by rfl) ?_ ?_ (by assumption) ?_
  rotate_left
  · (intro wx hSx; (try dsimp only at hSx); go_simp)
    all_goals with_reducible rfl
  (try simp only [Act.put, List.setIfInBounds_toArray, List.set_cons_zero, List.set_cons_succ])
  refine held_take 17 rfl (by kernel_rfl) (by kernel_rfl) (by kernel_rfl) (fun _ _ _ _ h => h) (by rfl) ?_ ?_ (by assumption) ?_
  rotate_left
  · (intro wx hSx; (try dsimp only at hSx); go_simp)
    all_goals with_reducible rfl
  (try simp only [Act.put, List.setIfInBounds_toArray, List.set_cons_zero, List.set_cons_succ])
  refine held_take 18 rfl (by kernel_rfl) (by kernel_rfl) (by kernel_rfl) (fun _ _ _ _ h => h) (by rfl) ?_ ?_ (by assumption) ?_
  rotate_left
  · (intro wx hSx; (try dsimp only at hSx); go_simp)
    all_goals with_reducible rfl
  (try simp only [Act.put, List.setIfInBounds_toArray, List.set_cons_zero, List.set_cons_succ])
  refine held_take 19 rfl (by kernel_rfl) (by kernel_rfl) (by kernel_rfl) (fun _ _ _ _ h => h) (by rfl) ?_ ?_ (by assumption) ?_
  rotate_left
  · (intro wx hSx; (try dsimp only at hSx); go_simp)
    all_goals with_reducible rfl
  (try simp only [Act.put, List.setIfInBounds_toArray, List.set_cons_zero, List.set_cons_succ])
  refine held_take 20 rfl (by kernel_rfl) (by kernel_rfl) (by kernel_rfl) (fun _ _ _ _ h => h) (by rfl) ?_ ?_ (by assumption) ?_
  rotate_left
  · (intro wx hSx; (try dsimp only at hSx); go_simp)
    all_goals with_reducible rfl
  (try simp only [Act.put, List.setIfInBounds_toArray, List.set_cons_zero, List.set_cons_succ])
  refine held_take 21 rfl (by kernel_rfl) (by kernel_rfl) (by kernel_rfl) (fun _ _ _ _ h => h) (by rfl) ?_ ?_ (by assumption) ?_
  rotate_left
  · (intro wx hSx; (try dsimp only at hSx); go_simp)
    all_goals with_reducible rfl
  (try simp only [Act.put, List.setIfInBounds_toArray, List.set_cons_zero, List.set_cons_succ])
  refine held_take 22 rfl (by kernel_rfl) (by kernel_rfl) (by kernel_rfl) (fun _ _ _ _ h => h) (by rfl) ?_ ?_ (by assumption) ?_
  rotate_left
  · (intro wx hSx; (try dsimp only at hSx); go_simp)
    all_goals with_reducible rfl
  (try simp only [Act.put, List.setIfInBounds_toArray, List.set_cons_zero, List.set_cons_succ])
  refine held_take 23 rfl (by kernel_rfl) (by kernel_rfl) (by kernel_rfl) (fun _ _ _ _ h => h) (by rfl) ?_ ?_ (by assumption) ?_
  rotate_left
  · (intro wx hSx; (try dsimp only at hSx); go_simp)
    all_goals with_reducible rfl
  (try simp only [Act.put, List.setIfInBounds_toArray, List.set_cons_zero, List.set_cons_succ])
  refine held_take 24 rfl (by kernel_rfl) (by kernel_rfl) (by kernel_rfl) (fun _ _ _ _ h => h) (by rfl) ?_ ?_ (by assumption) ?_
  rotate_left
  · (intro wx hSx; (try dsimp only at hSx); go_simp)
    all_goals with_reducible rfl
  (try simp only [Act.put, List.setIfInBounds_toArray, List.set_cons_zero, List.set_cons_succ])
  refine held_take 25 rfl (by kernel_rfl) (by kernel_rfl) (by kernel_rfl) (fun _ _ _ _ h => h) (by rfl) ?_ ?_ (by assumption) ?_
  rotate_left
  · (intro wx hSx; (try dsimp only at hSx); go_simp)
    all_goals with_reducible rfl
  (try simp only [Act.put, List.setIfInBounds_toArray, List.set_cons_zero, List.set_cons_succ])
  refine held_take 26 rfl (by kernel_rfl) (by kernel_rfl) (by kernel_rfl) (fun _ _ _ _ h => h) (by rfl) ?_ ?_ (by assumption) ?_
  rotate_left
  · (intro wx hSx; (try dsimp only at hSx); go_simp)
    all_goals with_reducible rfl
  (try simp only [Act.put, List.setIfInBounds_toArray, List.set_cons_zero, List.set_cons_succ])
  refine held_take 27 rfl (by kernel_rfl) (by kernel_rfl) (by kernel_rfl) (fun _ _ _ _ h => h) (by rfl) ?_ ?_ (by assumption) ?_
  rotate_left
  · (intro wx hSx; (try dsimp only at hSx); go_simp)
    all_goals with_reducible rfl
  (try simp only [Act.put, List.setIfInBounds_toArray, List.set_cons_zero, List.set_cons_succ])
  refine held_take 28 rfl (by kernel_rfl) (by kernel_rfl) (by kernel_rfl) (fun _ _ _ _ h => h) (by rfl) ?_ ?_ (by assumption) ?_
  rotate_left
  · (intro wx hSx; (try dsimp only at hSx); go_simp)
    all_goals with_reducible rfl
  (try simp only [Act.put, List.setIfInBounds_toArray, List.set_cons_zero, List.set_cons_succ])
  refine held_take 29 rfl (by kernel_rfl) (by kernel_rfl) (by kernel_rfl) (fun _ _ _ _ h => h) (by rfl) ?_ ?_ (by assumption) ?_
  rotate_left
  · (intro wx hSx; (try dsimp only at hSx); go_simp)
    all_goals with_reducible rfl
  (try simp only [Act.put, List.setIfInBounds_toArray, List.set_cons_zero, List.set_cons_succ])
  refine held_take 30 rfl (by kernel_rfl) (by kernel_rfl) (by kernel_rfl) (fun _ _ _ _ h => h) (by rfl) ?_ ?_ (by assumption) ?_
  rotate_left
  · (intro wx hSx; (try dsimp only at hSx); go_simp)
    all_goals with_reducible rfl
  (try simp only [Act.put, List.setIfInBounds_toArray, List.set_cons_zero, List.set_cons_succ])
  refine held_take 31 rfl (by kernel_rfl) (by kernel_rfl) (by kernel_rfl) (fun _ _ _ _ h => h) (by rfl) ?_ ?_ (by assumption) ?_
  rotate_left
  · (intro wx hSx; (try dsimp only at hSx); go_simp)
    all_goals with_reducible rfl
  (try simp only [Act.put, List.setIfInBounds_toArray, List.set_cons_zero, List.set_cons_succ])
  refine held_take 32 rfl (by kernel_rfl) (by kernel_rfl) (by kernel_rfl) (fun _ _ _ _ h => h) (by rfl) ?_ ?_ (by assumption) ?_
  rotate_left
  · (intro wx hSx; (try dsimp only at hSx); go_simp)
    all_goals with_reducible rfl
  (try simp only [Act.put, List.setIfInBounds_toArray, List.set_cons_zero, List.set_cons_succ])
  refine held_take 33 rfl (by kernel_rfl) (by kernel_rfl) (by kernel_rfl) (fun _ _ _ _ h => h) (by rfl) ?_ ?_ (by assumption) ?_
  rotate_left
  · (intro wx hSx; (try dsimp only at hSx); go_simp)
    all_goals with_reducible rfl
  (try simp only [Act.put, List.setIfInBounds_toArray, List.set_cons_zero, List.set_cons_succ])
  refine held_take 34 rfl (by kernel_rfl) (by kernel_rfl) (by kernel_rfl) (fun _ _ _ _ h => h) (by rfl) ?_ ?_ (by assumption) ?_
  rotate_left
  · (intro wx hSx; (try dsimp only at hSx); go_simp)
    all_goals with_reducible rfl
  (try simp only [Act.put, List.setIfInBounds_toArray, List.set_cons_zero, List.set_cons_succ])
  refine held_take 35 rfl (by kernel_rfl) (by kernel_rfl) (by kernel_rfl) (fun _ _ _ _ h => h) (by rfl) ?_ ?_ (by assumption) ?_
  rotate_left
  · (intro wx hSx; (try dsimp only at hSx); go_simp)
    all_goals with_reducible rfl
  (try simp only [Act.put, List.setIfInBounds_toArray, List.set_cons_zero, List.set_cons_succ])
  refine held_take 36 rfl (by kernel_rfl) (by kernel_rfl) (by kernel_rfl) (fun _ _ _ _ h => h) (by rfl) ?_ ?_ (by assumption) ?_
  rotate_left
  · (intro wx hSx; (try dsimp only at hSx); go_simp)
    all_goals with_reducible rfl
  (try simp only [Act.put, List.setIfInBounds_toArray, List.set_cons_zero, List.set_cons_succ])
  refine held_take 37 rfl (by kernel_rfl) (by kernel_rfl) (by kernel_rfl) (fun _ _ _ _ h => h) (by rfl) ?_ ?_ (by assumption) ?_
  rotate_left
  · (intro wx hSx; (try dsimp only at hSx); go_simp)
    all_goals with_reducible rfl
  (try simp only [Act.put, List.setIfInBounds_toArray, List.set_cons_zero, List.set_cons_succ])
  refine held_take 38 rfl (by kernel_rfl) (by kernel_rfl) (by kernel_rfl) (fun _ _ _ _ h => h) (by rfl) ?_ ?_ (by assumption) ?_
  rotate_left
  · (intro wx hSx; (try dsimp only at hSx); go_simp)
    all_goals with_reducible rfl
  (try simp only [Act.put, List.setIfInBounds_toArray, List.set_cons_zero, List.set_cons_succ])
  refine held_take 39 rfl (by kernel_rfl) (by kernel_rfl) (by kernel_rfl) (fun _ _ _ _ h => h) (by rfl) ?_ ?_ (by assumption) ?_
  rotate_left
  · (intro wx hSx; (try dsimp only at hSx); go_simp)
    all_goals with_reducible rfl
  (try simp only [Act.put, List.setIfInBounds_toArray, List.set_cons_zero, List.set_cons_succ])
  refine held_take 40 rfl (by kernel_rfl) (by kernel_rfl) (by kernel_rfl) (fun _ _ _ _ h => h) (by rfl) ?_ ?_ (by assumption) ?_
  rotate_left
  · (intro wx hSx; (try dsimp only at hSx); go_simp)
    all_goals with_reducible rfl
  (try simp only [Act.put, List.setIfInBounds_toArray, List.set_cons_zero, List.set_cons_succ])
  refine held_take 41 rfl (by kernel_rfl) (by kernel_rfl) (by kernel_rfl) (fun _ _ _ _ h => h) (by rfl) ?_ ?_ (by assumption) ?_
  rotate_left
  · (intro wx hSx; (try dsimp only at hSx); go_simp)
    all_goals with_reducible rfl
  (try simp only [Act.put, List.setIfInBounds_toArray, List.set_cons_zero, List.set_cons_succ])
  refine held_take 42 rfl (by kernel_rfl) (by kernel_rfl) (by kernel_rfl) (fun _ _ _ _ h => h) (by rfl) ?_ ?_ (by assumption) ?_
  rotate_left
  · (intro wx hSx; (try dsimp only at hSx); go_simp)
    all_goals with_reducible rfl
  (try simp only [Act.put, List.setIfInBounds_toArray, List.set_cons_zero, List.set_cons_succ])
  refine held_take 43 rfl (by kernel_rfl) (by kernel_rfl) (by kernel_rfl) (fun _ _ _ _ h => h) (by rfl) ?_ ?_ (by assumption) ?_
  rotate_left
  · (intro wx hSx; (try dsimp only at hSx); go_simp)
    all_goals with_reducible rfl
  (try simp only [Act.put, List.setIfInBounds_toArray, List.set_cons_zero, List.set_cons_succ])
  refine held_take 44 rfl (by kernel_rfl) (by kernel_rfl) (by kernel_rfl) (fun _ _ _ _ h => h) (by rfl) ?_ ?_ (by assumption) ?_
  rotate_left
  · (intro wx hSx; (try dsimp only at hSx); go_simp)
    all_goals with_reducible rfl
  (try simp only [Act.put, List.setIfInBounds_toArray, List.set_cons_zero, List.set_cons_succ])
  have hZ : Own (w3.alloc (.cells #[.bool false, .int .i64 0, .int .i64 0, .int .i64 0, .int .i64 0, .string ByteArray.empty, .string ByteArray.empty] 23)).drew w3.heap.size 23 (some ⟨w3.heap.size, 0, none⟩) 7 7 (rV zR) :=
    (Own.made (B := w3.heap.size) (e := 23) (n := 7) (w := w3) (Nat.le_refl _) #[.bool false, .int .i64 0, .int .i64 0, .int .i64 0, .int .i64 0, .string ByteArray.empty, .string ByteArray.empty] 7 (by simp [maxLen]) (Nat.le_refl _) rfl (rV_one zR)).ext (Ext.drew (Ext.refl _))
  have hX2 : Ext w3 (w3.alloc (.cells #[.bool false, .int .i64 0, .int .i64 0, .int .i64 0, .int .i64 0, .string ByteArray.empty, .string ByteArray.empty] 23)).drew := ((Ext.refl w3).alloc _).drew
  refine held_call 45 rfl (by kernel_rfl) (fun K hK => ?_)
  go_simp
  refine hK.out _ _ ⟨hX2.cell hc0, hX2.cell hc1, hX2.cell hc2, hX2.cell hc3, hX2.cell hc4, hX2.cell hc5, hX2.cell hc6, hX2.cell hc7, hX2.cell hc8⟩ (fun hHeld => ?_)
  clear hK K
  (try simp only [Act.put, List.setIfInBounds_toArray, List.set_cons_zero, List.set_cons_succ])
  refine held_call 46 rfl (by kernel_rfl) (fun K hK => ?_)
  refine step_storeAt rfl 23 (.tmp 6) (.tmp 60) rfl w3.heap.size 0 7 7 w3.heap.size 23 (rV zR) (rV (((x0 : Int) == 1), (x1 : Int) * 256 + (x2 : Int), (x3 : Int) * 256 + (x4 : Int), (x5 : Int) * 256 + (x6 : Int), (x7 : Int) * 256 + (x8 : Int), ByteArray.empty, ByteArray.empty)) rfl rfl hZ (by simp [rV]) (rV_one _) info_rec ?_
  intro w4 hR4 hG4
  have hX3 := hX2.grown hG4 (fun q hq => by simp at hq; omega)
  refine hK.out _ _ ⟨hX3.cell hc0, hX3.cell hc1, hX3.cell hc2, hX3.cell hc3, hX3.cell hc4, hX3.cell hc5, hX3.cell hc6, hX3.cell hc7, hX3.cell hc8⟩ (fun hHeld => ?_)
  clear hK K
  refine wpAnyH_done (by kernel_rfl) ?_ _
  clear hHeld hZ hG4 hX2
  have hR4' : Own w4 w3.heap.size 23 (some ⟨w3.heap.size, 0, none⟩) 7 7 (rV (((x0 : Int) == 1), (x1 : Int) * 256 + (x2 : Int), (x3 : Int) * 256 + (x4 : Int), (x5 : Int) * 256 + (x6 : Int), (x7 : Int) * 256 + (x8 : Int), ByteArray.empty, ByteArray.empty)) := hR4
  have hO4 := hO3.ext hX3
  have hE4 := hE3.trans hX3
  clear hR4 or1 sh1 or3 sh3 or5 sh5 or7 sh7 wb0 hc0 wb1 hc1 wb2 hc2 wb3 hc3 wb4 hc4 wb5 hc5 wb6 hc6 wb7 hc7 wb8 hc8
  obtain ⟨_, _, x9, hA, hx9, hc9, hl9⟩ := hO4.sl.at8 hbb (k := 9) (by omega)
  simp at hA
  obtain ⟨rfl, rfl⟩ := hA
  simp only [Nat.zero_add] at hc9
  obtain ⟨_, _, x34, hA, hx34, hc34, hl34⟩ := hO4.sl.at8 hbb (k := 34) (by omega)
  simp at hA
  obtain ⟨rfl, rfl⟩ := hA
  simp only [Nat.zero_add] at hc34
  have m9 : (min (x9 : Int) 24) = ((min x9 24 : Nat) : Int) := by omega
  have m34 : (min (x34 : Int) 24) = ((min x34 24 : Nat) : Int) := by omega
  have f5 : w4.cell? ⟨w3.heap.size, 5, none⟩ = some (.string ByteArray.empty) := hR4'.cellAt 5 (by omega)
  have g5 := hR4'.frozenAt 5
  have hgb : gb ≠ w3.heap.size := by have := (hO3.block gb rfl).2; omega
  have hcv9 := str8 (hO4.sl.mid 10 (min x9 24) (by omega) (by omega))
  have hst := hR4'.store 5 (.string (strN ((bs.drop 10).take (min x9 24)))) rfl
  have hG5 := grown_setCell w4 w3.heap.size 5 (.string (strN ((bs.drop 10).take (min x9 24))))
  have hO5 := hO4.other (g := w3.heap.size) hgb 5 (.string (strN ((bs.drop 10).take (min x9 24))))
  have hE5 := hE4.setCell (p := ⟨w3.heap.size, 5, none⟩) (hE3.size) (.string (strN ((bs.drop 10).take (min x9 24))))
  have hc34' := hG5.cell hc34 (by simpa using hgb)
  go_upto_region 6 with fail
  clear hcv9 f5 g5 hc9 hG5 hO4 hE4 hc34 m9 hR4'
  obtain ⟨hR4, hO4, hE4, hc34⟩ := And.intro hst (And.intro hO5 (And.intro hE5 hc34'))
  clear hst hO5 hE5 hc34'
  generalize w4.setCell ⟨w3.heap.size, 5, none⟩ (.string (strN ((bs.drop 10).take (min x9 24)))) = w4 at *
  have hcv34 := str8 (hO4.sl.mid 35 (min x34 24) (by omega) (by omega))
  have hR4' : Own w4 w3.heap.size 23 (some ⟨w3.heap.size, 0, none⟩) 7 7 (rV (((x0 : Int) == 1), (x1 : Int) * 256 + (x2 : Int), (x3 : Int) * 256 + (x4 : Int), (x5 : Int) * 256 + (x6 : Int), (x7 : Int) * 256 + (x8 : Int), strN ((bs.drop 10).take (min x9 24)), ByteArray.empty)) := hR4
  have f6 : w4.cell? ⟨w3.heap.size, 6, none⟩ = some (.string ByteArray.empty) := hR4'.cellAt 6 (by omega)
  have g6 := hR4'.frozenAt 6
  have hst := hR4'.store 6 (.string (strN ((bs.drop 35).take (min x34 24)))) rfl
  have hE5 := hE4.setCell (p := ⟨w3.heap.size, 6, none⟩) (hE3.size) (.string (strN ((bs.drop 35).take (min x34 24))))
  go_upto_region 7 with fail
  clear hcv34 f6 g6 hR4 hR4' hc34 hO4 hE4 m34
  have hR5 : Own (w4.setCell ⟨w3.heap.size, 6, none⟩ (.string (strN ((bs.drop 35).take (min x34 24))))) w3.heap.size 23 (some ⟨w3.heap.size, 0, none⟩) 7 7 (rV (((x0 : Int) == 1), (x1 : Int) * 256 + (x2 : Int), (x3 : Int) * 256 + (x4 : Int), (x5 : Int) * 256 + (x6 : Int), (x7 : Int) * 256 + (x8 : Int), strN ((bs.drop 10).take (min x9 24)), strN ((bs.drop 35).take (min x34 24)))) := hst
  clear hst
  generalize w4.setCell ⟨w3.heap.size, 6, none⟩ (.string (strN ((bs.drop 35).take (min x34 24)))) = w5 at *
  have hrd : (((x0 : Int) == 1), (x1 : Int) * 256 + (x2 : Int), (x3 : Int) * 256 + (x4 : Int), (x5 : Int) * 256 + (x6 : Int), (x7 : Int) * 256 + (x8 : Int), strN ((bs.drop 10).take (min x9 24)), strN ((bs.drop 35).take (min x34 24))) = rdR bs := by
    have gx : ∀ j x, bs[j]? = some x → bs.getD j 0 = x := fun j x hj => by rw [List.getD_eq_getElem?_getD, hj]; rfl
    unfold rdR wN nmL
    rw [gx 0 _ hx0.out, gx 1 _ hx1.out, gx 2 _ hx2.out, gx 3 _ hx3.out, gx 4 _ hx4.out, gx 5 _ hx5.out, gx 6 _ hx6.out, gx 7 _ hx7.out, gx 8 _ hx8.out, gx 9 _ hx9.out, gx 34 _ hx34.out]
    refine Prod.ext ?_ (Prod.ext ?_ (Prod.ext ?_ (Prod.ext ?_ (Prod.ext ?_ rfl))))
    · rw [Bool.eq_iff_iff]; simp; omega
    · simp
    · simp
    · simp
    · simp
  rw [hrd] at hR5
  clear hrd
  clear hx0 hx1 hx2 hx3 hx4 hx5 hx6 hx7 hx8 hx9 hx34
  have hR6 := hR1.ext (hE5)
  have hF5 := hE1.trans (hE5)
  have hx5 := h.ext hF5
  have hLay := fun w => ref10_Lay (rdR bs) w
  go_wp2_with (with_reducible refine ag_load rfl 23 (.tmp 6) rfl w3.heap.size 7 w3.heap.size 23 _ rfl hR5 agg_rec info_rec ?_)
  refine (hLay _).mono ?_
  rintro e w6 ⟨A5, n5, c5, rfl, hn5, hO6, hE6⟩
  have hR7 := hR6.ext hE6
  have hP7 := hR5.ext hE6
  have hF6 := hF5.trans hE6
  have bl := Bytes.layRL (rdR bs)
  have hcv1 := str8 hO6.sl
  have hcv2 := str8 (hx5.ext hE6)
  clear hLay hR6 hR5 hF5 hx5
  rcases layRE_or (rdR bs) with h0 | h2
  · rw [h0]
    by_cases heq : layRL (rdR bs) = xs
    · have HN := hide (HR.out.1 (HRD.out.2 ⟨h0, heq⟩))
      have e1 : ((strN (layRL (rdR bs))).toList == (strN xs).toList) = true := by rw [strN_eq bl hb]; simpa using heq
      clear h0 heq
      go_wp2_with (first
        | (with_reducible refine ag_load rfl 23 (.tmp 6) rfl w3.heap.size 7 w3.heap.size 23 _ rfl hP7 agg_rec info_rec ?_)
        | (with_reducible refine ag_store (o := ⟨none, _, _, _, _, _⟩) rfl 23 (.tmp 2) (.tmp 96) rfl w.heap.size 7 w.heap.size 23 _ (rV (rdR bs)) rfl rfl hR7 rfl (rV_one _) info_rec ?_; intro w7 hR8 hG7; have hF7 := hF6.grown hG7 (by simp)))
      rw [HN.out.1, HN.out.2]
      exact bodyPost_ret (results_agg rfl _ rfl rfl hR8 agg_rec info_rec) rfl ⟨rfl, hF7⟩
    · have HN := hide (HR.out.2 (fun h => heq (HRD.out.1 h).2))
      have e1 : ((strN (layRL (rdR bs))).toList == (strN xs).toList) = false := by rw [strN_eq bl hb]; simpa using heq
      clear h0 heq
      go_wp2_with (first
        | (with_reducible refine ag_zero rfl 23 rfl _ (bld_rec _) ?_)
        | (with_reducible refine ag_store (o := ⟨none, _, _, _, _, _⟩) rfl 23 (.tmp 2) (.tmp 95) rfl w.heap.size 7 w.heap.size 23 _ (rV zR) rfl rfl hR7 rfl (rV_one _) info_rec ?_; intro w7 hR8 hG7; have hF7 := hF6.grown hG7 (by simp)))
      rw [HN.out.1, HN.out.2]
      exact bodyPost_ret (results_agg rfl _ rfl rfl hR8 agg_rec info_rec) rfl ⟨rfl, hF7⟩
  · have HN := hide (HR.out.2 (fun h => by rw [(HRD.out.1 h).1] at h2; cases h2))
    rw [h2]
    clear h2
    go_wp2_with (first
      | (with_reducible refine ag_zero rfl 23 rfl _ (bld_rec _) ?_)
      | (with_reducible refine ag_store (o := ⟨none, _, _, _, _, _⟩) rfl 23 (.tmp 2) (.tmp 95) rfl w.heap.size 7 w.heap.size 23 _ (rV zR) rfl rfl hR7 rfl (rV_one _) info_rec ?_; intro w7 hR8 hG7; have hF7 := hF6.grown hG7 (by simp)))
    rw [HN.out.1, HN.out.2]
    exact bodyPost_ret (results_agg rfl _ rfl rfl hR8 agg_rec info_rec) rfl ⟨rfl, hF7⟩
end Go.Proofs.Ytngffmchjjpfbaa
