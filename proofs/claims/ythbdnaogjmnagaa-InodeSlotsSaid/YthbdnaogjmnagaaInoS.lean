/- Contracts of inodes: what the reference reads. -/
import Derived.Test.YthbdnaogjmnagaaInoR
namespace Go.Proofs.Ythbdnaogjmnagaa
set_option linter.unusedVariables false
open Go.RowKit

/-- What of an inode the reference has read so far. -/
def rfI (b : List Nat) (q k : Nat) : List Int := [((gN b q 1 : Nat) : Int), ((gN b (q + 1) 2 : Nat) : Int), ((gN b (q + 3) 4 : Nat) : Int)] ++ ((List.range k).map fun k => ((gN b (q + 7 + 2 * k) 2 : Nat) : Int)) ++ List.replicate (6 - k) 0 ++
  [((gN b (q + 19) 2 : Nat) : Int), ((gN b (q + 21) 2 : Nat) : Int)]
theorem rfI_len (b : List Nat) (q : Nat) {k : Nat} (hk : k ≤ 6) : (rfI b q k).length = 11 := by simp [rfI]; omega
theorem rfI_six (b : List Nat) (q : Nat) : rfI b q 6 = rdI b q := by
  unfold rfI rdI
  rw [show List.range 8 = List.range 6 ++ [6, 7] from by decide, List.map_append]
  simp
theorem rfI_step (b : List Nat) (q : Nat) {k : Nat} (hk : k < 6) : (rfI b q k).set (3 + k) ((gN b (q + 7 + 2 * k) 2 : Nat) : Int) = rfI b q (k + 1) := by
  unfold rfI
  rw [List.set_append_left _ _ (by simp; omega), List.set_append_right _ _ (by simp; omega)]
  simp only [List.length_append, List.length_cons, List.length_nil, List.length_map, List.length_range]
  rw [show 3 + k - (0 + 1 + 1 + 1 + k) = 0 from by omega, show 6 - k = (6 - (k + 1)) + 1 from by omega, List.replicate_succ, List.set_cons_zero, List.range_succ]
  simp
def rfA (b : List Nat) (k j : Nat) : List Int := rdA b k ++ rfI b (k * 23) j ++ List.replicate (44 - 11 * (k + 1)) 0
theorem rfA_len (b : List Nat) {k j : Nat} (hk : k < 4) (hj : j ≤ 6) : (rfA b k j).length = 44 := by simp [rfA, rdA_len, rfI_len b (k * 23) hj]; omega
theorem rfA_six (b : List Nat) (k : Nat) : rfA b k 6 = soA b (k + 1) := by
  unfold rfA soA
  rw [rfI_six, rdA_succ]
theorem rfA_step (b : List Nat) {k j : Nat} (hk : k < 4) (hj : j < 6) : (rfA b k j).set (k * 11 + (3 + j)) ((gN b (k * 23 + 7 + 2 * j) 2 : Nat) : Int) = rfA b k (j + 1) := by
  have hl := rdA_len b k
  have h2 := rfI_len b (k * 23) (show j ≤ 6 by omega)
  unfold rfA
  rw [List.set_append_left _ _ (by rw [List.length_append]; omega), List.set_append_right _ _ (by omega), hl, show k * 11 + (3 + j) - 11 * k = 3 + j from by omega, rfI_step b (k * 23) hj]
theorem rfA_start (b : List Nat) {k : Nat} (hk : k < 4) : (i64s (soA b k)).take (k * 11) ++ i64s (rfI b (k * 23) 0) ++ (i64s (soA b k)).drop (k * 11 + (i64s (rfI b (k * 23) 0)).length) = i64s (rfA b k 0) := by
  have hl := rdA_len b k
  rw [i64s_len, rfI_len b (k * 23) (show 0 ≤ 6 by omega)]
  have e1 : (soA b k).take (k * 11) = rdA b k := by unfold soA; rw [List.take_append_of_le_length (by omega), List.take_of_length_le (by omega)]
  have e2 : (soA b k).drop (k * 11 + 11) = List.replicate (44 - 11 * (k + 1)) 0 := by
    unfold soA
    rw [List.drop_append, List.drop_of_length_le (by omega), List.nil_append, List.drop_replicate]
    congr 1; omega
  have t1 : (i64s (soA b k)).take (k * 11) = i64s ((soA b k).take (k * 11)) := by simp [i64s, List.map_take]
  have t2 : (i64s (soA b k)).drop (k * 11 + 11) = i64s ((soA b k).drop (k * 11 + 11)) := by simp [i64s, List.map_drop]
  rw [t1, t2, e1, e2, ← i64s_append, ← i64s_append]
  rfl

theorem Sl.grown {w w' : World} {g o n c r : Nat} {vs : List Value} (h : Sl w (some ⟨g, o, none⟩) n c vs) (hG : w.grownBy w' (some r)) (hne : g ≠ r) : Sl w' (some ⟨g, o, none⟩) n c vs :=
  ⟨h.len, h.nc, h.cm, h.nil, fun k u hk => by
    obtain ⟨b, o', hA, hc⟩ := h.cell k u hk
    simp at hA
    obtain ⟨rfl, rfl⟩ := hA
    exact ⟨_, _, rfl, hG.cell hc (by simp; exact hne)⟩, h.one⟩
theorem ref7_at1 (w : World) (A : Option Addr) (n c : Nat) (xs : List Nat) (hS : Sl w A n c (by8 xs)) (hb : Bytes xs) (hk : 1 + 1 < n) :
    Calls Try.prog 69 #[.slice A n c, .int .i64 1] w fun e w' => e = .returned (.int .i64 (gN xs 1 2 : Nat)) ∧ ∃ q, w' = w.drewN q := ref7_at w A n c xs hS hb 1 1 rfl hk
theorem ref7_at3 (w : World) (A : Option Addr) (n c : Nat) (xs : List Nat) (hS : Sl w A n c (by8 xs)) (hb : Bytes xs) (hk : 3 + 1 < n) :
    Calls Try.prog 69 #[.slice A n c, .int .i64 3] w fun e w' => e = .returned (.int .i64 (gN xs 3 2 : Nat)) ∧ ∃ q, w' = w.drewN q := ref7_at w A n c xs hS hb 3 3 rfl hk
theorem ref7_at5 (w : World) (A : Option Addr) (n c : Nat) (xs : List Nat) (hS : Sl w A n c (by8 xs)) (hb : Bytes xs) (hk : 5 + 1 < n) :
    Calls Try.prog 69 #[.slice A n c, .int .i64 5] w fun e w' => e = .returned (.int .i64 (gN xs 5 2 : Nat)) ∧ ∃ q, w' = w.drewN q := ref7_at w A n c xs hS hb 5 5 rfl hk
theorem ref7_at19 (w : World) (A : Option Addr) (n c : Nat) (xs : List Nat) (hS : Sl w A n c (by8 xs)) (hb : Bytes xs) (hk : 19 + 1 < n) :
    Calls Try.prog 69 #[.slice A n c, .int .i64 19] w fun e w' => e = .returned (.int .i64 (gN xs 19 2 : Nat)) ∧ ∃ q, w' = w.drewN q := ref7_at w A n c xs hS hb 19 19 rfl hk
theorem ref7_at21 (w : World) (A : Option Addr) (n c : Nat) (xs : List Nat) (hS : Sl w A n c (by8 xs)) (hb : Bytes xs) (hk : 21 + 1 < n) :
    Calls Try.prog 69 #[.slice A n c, .int .i64 21] w fun e w' => e = .returned (.int .i64 (gN xs 21 2 : Nat)) ∧ ∃ q, w' = w.drewN q := ref7_at w A n c xs hS hb 21 21 rfl hk
set_option maxRecDepth 100000 in
set_option maxHeartbeats 2000000 in
theorem ref7_Read (A : Option Addr) (n c : Nat) (xs : List Nat) (w : World) (h : Sl w A n c (by8 xs)) (hb : Bytes xs) :
    Calls Try.prog 48 #[.slice A n c] w fun e w' => e = .returned (.tuple #[.agg (i64s (rdL xs)).toArray, .int .i64 (rdE xs : Nat)]) ∧ Ext w w' := by
  by_cases hk : kindOf xs = 73
  case neg =>
    have hno : ¬ rdOk xs := fun h => hk h.1
    have H12 := hide (And.intro (show rdL xs = z44 from if_neg hno) (show rdE xs = 3 from if_neg hno))
    have hO := fun w1 (hE : Ext w w1) => ref_Open_no 73 A n c xs w1 (h.ext hE) hb (.inr hk)
    clear hno hk
    go_enter Try.func48, Try.ntmps48
    go_wp2_with (first
      | (with_reducible refine ag_alloc (o := ⟨some 2, _, _, _, _, _⟩) rfl 49 rfl _ 44 zero_inodes rfl (by omega) (i64s_one _) w.heap.size (Nat.le_refl _) ?_; intro w1 hR1 hE1 hz1)
      | (with_reducible refine ag_alloc (o := ⟨some 4, _, _, _, _, _⟩) rfl 49 rfl _ 44 zero_inodes rfl (by omega) (i64s_one _) w.heap.size (by omega) ?_; intro w2 hP2 hE2 hz2))
    refine (hO _ (hE1.trans hE2)).mono ?_
    rintro e w3 ⟨rfl, hE3⟩
    have hR3 := hR1.ext (hE2.trans hE3)
    have hP3 := hP2.ext hE3
    go_wp2_with (first
      | (with_reducible refine ag_load rfl 49 (.tmp 4) rfl w1.heap.size 44 w.heap.size 49 _ rfl hP3 agg_inodes info_inodes ?_)
      | (with_reducible refine ag_store (o := ⟨none, _, _, _, _, _⟩) rfl 49 (.tmp 2) (.tmp 18) rfl w.heap.size 44 w.heap.size 49 _ (i64s z44) rfl rfl hR3 rfl (i64s_one _) info_inodes ?_; intro w4 hR4 hG4))
    have hF4 := (hE1.trans (hE2.trans hE3)).grown hG4 (by simp)
    rw [H12.out.1, H12.out.2]
    exact bodyPost_ret (results_agg rfl _ rfl rfl hR4 agg_inodes info_inodes) rfl ⟨rfl, hF4⟩
  have hl := kind_len (xs := xs) (by omega)
  have hbl : (bodyOf xs).length = 123 := bodyOf_len hl
  have hbb : Bytes (bodyOf xs) := (hb.drop 1).take 123
  have HK := hide hk
  have HBL := hide hbl
  clear hk hl hbl
  have hRD := rdOk_lay HK.out
  have HRD := hide hRD
  clear hRD
  have r1 : rdOk xs → rdL xs = rdA (bodyOf xs) 4 ∧ rdE xs = 0 := fun h => ⟨if_pos h, if_pos h⟩
  have r2 : ¬ rdOk xs → rdL xs = z44 ∧ rdE xs = 3 := fun h => ⟨if_neg h, if_neg h⟩
  have HR := hide (And.intro r1 r2)
  clear r1 r2
  go_enter Try.func48, Try.ntmps48
  go_wp2_with (first
    | (with_reducible refine ag_alloc (o := ⟨some 2, _, _, _, _, _⟩) rfl 49 rfl _ 44 zero_inodes rfl (by omega) (i64s_one _) w.heap.size (Nat.le_refl _) ?_; intro w1 hR1 hE1 hz1)
    | (with_reducible refine ag_alloc (o := ⟨some 4, _, _, _, _, _⟩) rfl 49 rfl _ 44 zero_inodes rfl (by omega) (i64s_one _) w1.heap.size (Nat.le_refl _) ?_; intro w2 hP2 hE2 hz2))
  refine (ref_Open 73 _ _ _ xs _ (h.ext (hE1.trans hE2)) hb (by omega) HK.out).mono ?_
  rintro e w3 ⟨gb, cb, rfl, hO3, hE3⟩
  have hz3 := hE3.size
  have hP3 := hP2.ext hE3
  have hE13 := hE2.trans hE3
  have hnb := hO3.sl.nc
  have hgb := (hO3.block gb rfl).1
  have hgb1 : w1.heap.size < gb := by omega
  generalize bodyOf xs = bs at *
  go_wp2_with fail
  go_loopw [7] (fun i wr => ∃ k : Nat, k ≤ 4 ∧ i = .int .i64 k ∧ Own wr w1.heap.size 49 (some ⟨w1.heap.size, 0, none⟩) 44 44 (i64s (soA bs k)) ∧ Sl wr (some ⟨gb, 0, none⟩) 123 cb (by8 bs) ∧ Ext w1 wr) (fun i _ => 4 - (intOf i).toNat)
  case atStart => exact ⟨0, by omega, rfl, by rw [soA_zero]; exact hP3, hO3.sl, hE13⟩
  case round =>
    clear hP2 hP3 hE2 hE3 hE13 hz2
    obtain ⟨k, hk, rfl, hP, hB, hE⟩ := hrel
    by_cases hlt : k < 4
    · have hi0 : (0 : Int) ≤ 23 * (k : Int) := by omega
      have hi1 : 23 * (k : Int) ≤ 123 := by omega
      have hi2 : 23 * (k : Int) ≤ (cb : Int) := by omega
      have hi3 : ¬ cb = 23 * k := by omega
      have hi4 : (0 : Int) < ((123 - 23 * k : Nat) : Int) := by omega
      have hi5 : 0 < 123 - 23 * k := by omega
      have hi6 : 23 * k < 123 := by omega
      obtain ⟨_, _, b0, hA0, hx0, hc, hb0⟩ := hB.at8 hbb (k := 23 * k) (by omega)
      simp at hA0
      obtain ⟨rfl, rfl⟩ := hA0
      simp only [Nat.zero_add] at hc
      have hS : Sl wr (some ⟨gb, 23 * k, none⟩) (123 - 23 * k) (cb - 23 * k) (by8 (bs.drop (23 * k))) := by
        have := hB.cut (l := 23 * k) (by omega)
        rw [if_neg (by omega), by8_drop] at this
        simpa [Addr.add_lit] using this
      have hbd := hbb.drop (23 * k)
      have v0 : gN bs (k * 23) 1 = b0 := by
        have t := gN_succ (xs := bs) (j := 23 * k) (m := 0) (x := b0) hx0.out
        rw [Nat.zero_add] at t
        rw [Nat.mul_comm, t]; simp [gN, numB]
      have v4 : gN (bs.drop (23 * k)) 3 4 = gN (bs.drop (23 * k)) 3 2 * 65536 + gN (bs.drop (23 * k)) 5 2 := by
        rw [show (4 : Nat) = 2 + 2 from rfl, gN_add (by rw [List.length_drop, HBL.out]; omega)]
      have hlist : [((b0 : Nat) : Int), ((gN (bs.drop (23 * k)) 1 2 : Nat) : Int), ((gN (bs.drop (23 * k)) 3 4 : Nat) : Int), 0, 0, 0, 0, 0, 0, ((gN (bs.drop (23 * k)) 19 2 : Nat) : Int), ((gN (bs.drop (23 * k)) 21 2 : Nat) : Int)] = rfI bs (k * 23) 0 := by
        simp only [gN_drop, Nat.mul_comm 23 k]
        rw [← v0]
        rfl
      have l3 := gN_lt hbd 3 2
      have l5 := gN_lt hbd 5 2
      have hor := or_high (x := gN (bs.drop (23 * k)) 3 2) (y := gN (bs.drop (23 * k)) 5 2) (by omega) (by omega)
      rw [← v4] at hor
      have ew : IntKind.i64.wrap (((gN (bs.drop (23 * k)) 3 2 : Nat) : Int) * 65536) = ((gN (bs.drop (23 * k)) 3 2 : Nat) : Int) * 65536 := IntWalk.i64_in _ (by omega)
      have eb : IntKind.i64.wrap (b0 : Int) = (b0 : Int) := IntWalk.i64_in _ (by omega)
      have hj := rfA_start bs hlt
      rw [← hlist] at hj
      clear v0 v4 hlist l3 l5
      obtain ⟨bd, hbd0⟩ : ∃ bd, bs.drop (23 * k) = bd := ⟨_, rfl⟩
      rw [hbd0] at hS hbd hor ew hj
      have HBD := hide hbd0
      have HJ := hide hj
      clear hbd0 hj
      go_wp2_with fail
      replace hS := hS.ext (Ext.refl _).drew
      replace hP := hP.ext (Ext.refl _).drew
      replace hB := hB.ext (Ext.refl _).drew
      replace hE := hE.drew
      replace hc := (Ext.drew (Ext.refl _)).cell hc
      refine wp_region_held_drew (S := fun w' => w'.cell? ⟨gb, 23 * k, none⟩ = some (.int .u8 (b0 : Nat))) (by kernel_rfl) hc (fun hHeld => ?_)
      refine held_take 0 rfl (by kernel_rfl) (by kernel_rfl) (by kernel_rfl) (fun _ _ _ _ h => h) (by rfl) ?_ ?_ (by assumption) ?_
      rotate_left
      · (intro wx hSx; (try dsimp only at hSx); go_simp)
        all_goals with_reducible rfl
      (try simp only [Act.put, List.setIfInBounds_toArray, List.set_cons_zero, List.set_cons_succ])
      refine held_take 1 rfl (by kernel_rfl) (by kernel_rfl) (by kernel_rfl) (fun _ _ _ _ h => h) (by rfl) ?_ ?_ (by assumption) ?_
      rotate_left
      · (intro wx hSx; (try dsimp only at hSx); go_simp)
        all_goals with_reducible rfl
      (try simp only [Act.put, List.setIfInBounds_toArray, List.set_cons_zero, List.set_cons_succ])
      refine held_take 2 rfl (by kernel_rfl) (by kernel_rfl) (by kernel_rfl) (fun _ _ _ _ h => h) (by rfl) ?_ ?_ (by assumption) ?_
      rotate_left
      · (intro wx hSx; (try dsimp only at hSx); go_simp)
        all_goals with_reducible rfl
      (try simp only [Act.put, List.setIfInBounds_toArray, List.set_cons_zero, List.set_cons_succ])
      refine held_take 3 rfl (by kernel_rfl) (by kernel_rfl) (by kernel_rfl) (fun _ _ _ _ h => h) (by rfl) ?_ ?_ (by assumption) ?_
      rotate_left
      · (intro wx hSx; (try dsimp only at hSx); go_simp)
        all_goals with_reducible rfl
      (try simp only [Act.put, List.setIfInBounds_toArray, List.set_cons_zero, List.set_cons_succ])
      refine held_take 4 rfl (by kernel_rfl) (by kernel_rfl) (by kernel_rfl) (fun _ _ _ _ h => h) (by rfl) ?_ ?_ (by assumption) ?_
      rotate_left
      · (intro wx hSx; (try dsimp only at hSx); go_simp)
        all_goals with_reducible rfl
      (try simp only [Act.put, List.setIfInBounds_toArray, List.set_cons_zero, List.set_cons_succ])
      refine held_take 5 rfl (by kernel_rfl) (by kernel_rfl) (by kernel_rfl) (fun _ _ _ _ h => h) (by rfl) ?_ ?_ (by assumption) ?_
      rotate_left
      · (intro wx hSx; (try dsimp only at hSx); go_simp)
        all_goals with_reducible rfl
      (try simp only [Act.put, List.setIfInBounds_toArray, List.set_cons_zero, List.set_cons_succ])
      refine held_take 7 rfl (by kernel_rfl) (by kernel_rfl) (by kernel_rfl) (fun _ _ _ _ h => h) (by rfl) ?_ ?_ (by assumption) ?_
      rotate_left
      · (intro wx hSx; (try dsimp only at hSx); go_simp)
        all_goals with_reducible rfl
      (try simp only [Act.put, List.setIfInBounds_toArray, List.set_cons_zero, List.set_cons_succ])
      refine held_take 10 rfl (by kernel_rfl) (by kernel_rfl) (by kernel_rfl) (fun _ _ _ _ h => h) (by rfl) ?_ ?_ (by assumption) ?_
      rotate_left
      · (intro wx hSx; (try dsimp only at hSx); go_simp)
        all_goals with_reducible rfl
      (try simp only [Act.put, List.setIfInBounds_toArray, List.set_cons_zero, List.set_cons_succ])
      refine held_take 13 rfl (by kernel_rfl) (by kernel_rfl) (by kernel_rfl) (fun _ _ _ _ h => h) (by rfl) ?_ ?_ (by assumption) ?_
      rotate_left
      · (intro wx hSx; (try dsimp only at hSx); go_simp)
        all_goals with_reducible rfl
      (try simp only [Act.put, List.setIfInBounds_toArray, List.set_cons_zero, List.set_cons_succ])
      refine held_take 15 rfl (by kernel_rfl) (by kernel_rfl) (by kernel_rfl) (fun _ _ _ _ h => h) (by rfl) ?_ ?_ (by assumption) ?_
      rotate_left
      · (intro wx hSx; (try dsimp only at hSx); go_simp)
        all_goals with_reducible rfl
      (try simp only [Act.put, List.setIfInBounds_toArray, List.set_cons_zero, List.set_cons_succ])
      refine held_call 6 rfl (by kernel_rfl) (fun K hK => ?_)
      go_simp
      go_at_call 69
      refine (ref7_at1 _ _ _ _ _ hS hbd (by omega)).mono ?_
      rintro e w' ⟨rfl, qq, hw'⟩
      have hE' : Ext _ w' := (by rw [hw']; exact (Ext.refl _).drewN _)
      clear hw'
      replace hS := hS.ext hE'
      replace hP := hP.ext hE'
      replace hB := hB.ext hE'
      replace hE := hE.trans hE'
      replace hc := hE'.cell hc
      clear hE'
      go_wp2_with fail
      refine hK.out _ _ hc (fun hHeld => ?_)
      clear hK K
      (try simp only [Act.put, List.setIfInBounds_toArray, List.set_cons_zero, List.set_cons_succ])
      refine held_call 8 rfl (by kernel_rfl) (fun K hK => ?_)
      go_simp
      go_at_call 69
      refine (ref7_at3 _ _ _ _ _ hS hbd (by omega)).mono ?_
      rintro e w' ⟨rfl, qq, hw'⟩
      have hE' : Ext _ w' := (by rw [hw']; exact (Ext.refl _).drewN _)
      clear hw'
      replace hS := hS.ext hE'
      replace hP := hP.ext hE'
      replace hB := hB.ext hE'
      replace hE := hE.trans hE'
      replace hc := hE'.cell hc
      clear hE'
      go_wp2_with fail
      refine hK.out _ _ hc (fun hHeld => ?_)
      clear hK K
      (try simp only [Act.put, List.setIfInBounds_toArray, List.set_cons_zero, List.set_cons_succ])
      refine held_take 9 rfl (by kernel_rfl) (by kernel_rfl) (by kernel_rfl) (fun _ _ _ _ h => h) (by rfl) ?_ ?_ (by assumption) ?_
      rotate_left
      · (intro wx hSx; (try dsimp only at hSx); go_simp)
        all_goals with_reducible rfl
      (try simp only [Act.put, List.setIfInBounds_toArray, List.set_cons_zero, List.set_cons_succ])
      refine held_call 11 rfl (by kernel_rfl) (fun K hK => ?_)
      go_simp
      go_at_call 69
      refine (ref7_at5 _ _ _ _ _ hS hbd (by omega)).mono ?_
      rintro e w' ⟨rfl, qq, hw'⟩
      have hE' : Ext _ w' := (by rw [hw']; exact (Ext.refl _).drewN _)
      clear hw'
      replace hS := hS.ext hE'
      replace hP := hP.ext hE'
      replace hB := hB.ext hE'
      replace hE := hE.trans hE'
      replace hc := hE'.cell hc
      clear hE'
      go_wp2_with fail
      refine hK.out _ _ hc (fun hHeld => ?_)
      clear hK K
      (try simp only [Act.put, List.setIfInBounds_toArray, List.set_cons_zero, List.set_cons_succ])
      refine held_take 12 rfl (by kernel_rfl) (by kernel_rfl) (by kernel_rfl) (fun _ _ _ _ h => h) (by rfl) ?_ ?_ (by assumption) ?_
      rotate_left
      · (intro wx hSx; (try dsimp only at hSx); go_simp)
        all_goals with_reducible rfl
      (try simp only [Act.put, List.setIfInBounds_toArray, List.set_cons_zero, List.set_cons_succ])
      refine held_call 14 rfl (by kernel_rfl) (fun K hK => ?_)
      go_simp
      go_at_call 69
      refine (ref7_at19 _ _ _ _ _ hS hbd (by omega)).mono ?_
      rintro e w' ⟨rfl, qq, hw'⟩
      have hE' : Ext _ w' := (by rw [hw']; exact (Ext.refl _).drewN _)
      clear hw'
      replace hS := hS.ext hE'
      replace hP := hP.ext hE'
      replace hB := hB.ext hE'
      replace hE := hE.trans hE'
      replace hc := hE'.cell hc
      clear hE'
      go_wp2_with fail
      refine hK.out _ _ hc (fun hHeld => ?_)
      clear hK K
      (try simp only [Act.put, List.setIfInBounds_toArray, List.set_cons_zero, List.set_cons_succ])
      refine held_call 16 rfl (by kernel_rfl) (fun K hK => ?_)
      go_simp
      go_at_call 69
      refine (ref7_at21 _ _ _ _ _ hS hbd (by omega)).mono ?_
      rintro e w' ⟨rfl, qq, hw'⟩
      have hE' : Ext _ w' := (by rw [hw']; exact (Ext.refl _).drewN _)
      clear hw'
      replace hS := hS.ext hE'
      replace hP := hP.ext hE'
      replace hB := hB.ext hE'
      replace hE := hE.trans hE'
      replace hc := hE'.cell hc
      clear hE'
      go_wp2_with fail
      refine hK.out _ _ hc (fun hHeld => ?_)
      clear hK K
      (try simp only [Act.put, List.setIfInBounds_toArray, List.set_cons_zero, List.set_cons_succ])
      refine held_take 17 rfl (by kernel_rfl) (by kernel_rfl) (by kernel_rfl) (fun _ _ _ _ h => h) (by rfl) ?_ ?_ (by assumption) ?_
      rotate_left
      · (intro wx hSx; (try dsimp only at hSx); go_simp)
        all_goals with_reducible rfl
      (try simp only [Act.put, List.setIfInBounds_toArray, List.set_cons_zero, List.set_cons_succ])
      refine held_take 18 rfl (by kernel_rfl) (by kernel_rfl) (by kernel_rfl) (fun _ _ _ _ h => h) (by rfl) ?_ ?_ (by assumption) ?_
      rotate_left
      · (intro wx hSx; (try dsimp only at hSx); go_simp)
        all_goals with_reducible rfl
      (try simp only [Act.put, List.setIfInBounds_toArray, List.set_cons_zero, List.set_cons_succ])
      refine held_call 19 rfl (by kernel_rfl) (fun K hK => ?_)
      refine step_storeAt rfl 48 (.tmp 45) (.tmp 44) rfl w1.heap.size (k * 11) 44 44 w1.heap.size 49 (i64s (soA bs k)) (i64s [((b0 : Nat) : Int), ((gN bd 1 2 : Nat) : Int), ((gN bd 3 4 : Nat) : Int), 0, 0, 0, 0, 0, 0, ((gN bd 19 2 : Nat) : Int), ((gN bd 21 2 : Nat) : Int)]) rfl rfl hP (by simp [i64s]; omega) (i64s_one _) info_inode ?_
      intro w9 hP9 hG9
      have hc9 := hG9.cell hc (by simp; omega)
      refine hK.out _ _ hc9 (fun hHeld => ?_)
      clear hK K
      refine wpAnyH_done (by kernel_rfl) ?_ _
      clear hHeld
      rw [HJ.out] at hP9
      obtain ⟨hP, hB1, hS1, hE1'⟩ := And.intro hP9 (And.intro (hB.grown hG9 (by omega)) (And.intro (hS.grown hG9 (by omega)) (hE.grown hG9 (fun q hq => by simp at hq; omega))))
      clear hP9 hG9 hc9 hB hS hE hc hor ew eb
      obtain ⟨hB, hS, hE⟩ := And.intro hB1 (And.intro hS1 hE1')
      clear hB1 hS1 hE1'
      have hgd : ∀ j : Nat, gN bd (7 + 2 * j) 2 = gN bs (k * 23 + 7 + 2 * j) 2 := fun j => by rw [← HBD.out, gN_drop, Nat.mul_comm 23 k, ← Nat.add_assoc]
      have HGD := hide hgd
      clear hgd
      obtain ⟨wo, rfl⟩ : ∃ wo : World, wo = wr := ⟨_, rfl⟩
      go_wp2
      go_loopw [9] (fun i wy => ∃ j : Nat, j ≤ 6 ∧ i = .int .i64 j ∧ Own wy w1.heap.size 49 (some ⟨w1.heap.size, 0, none⟩) 44 44 (i64s (rfA bs k j)) ∧ Sl wy (some ⟨gb, 0, none⟩) 123 cb (by8 bs) ∧ Sl wy (some ⟨gb, 23 * k, none⟩) (123 - 23 * k) (cb - 23 * k) (by8 bd) ∧ Ext w1 wy) (fun i _ => 6 - (intOf i).toNat)
      case atStart => exact ⟨0, by omega, rfl, hP, hB, hS, hE⟩
      case round =>
        clear hP hB hS hE
        obtain ⟨j, hj, rfl, hP, hB, hS, hE⟩ := hrel
        by_cases hlt2 : j < 6
        · have hi7 : (j : Int) < 6 := by omega
          have hi8 : (k : Int) < 4 := by omega
          have ew1 : IntKind.i64.wrap (2 * (j : Int)) = 2 * (j : Int) := IntWalk.i64_in _ (by omega)
          have ew2 : IntKind.i64.wrap (7 + 2 * (j : Int)) = 7 + 2 * (j : Int) := IntWalk.i64_in _ (by omega)
          have hat := fun w1 hS => ref7_at w1 (some ⟨gb, 23 * k, none⟩) (123 - 23 * k) (cb - 23 * k) bd hS hbd (7 + 2 * (j : Int)) (7 + 2 * j) (by omega) (by omega)
          have HAT := hide hat
          have hst := rfA_step bs hlt hlt2
          rw [← HGD.out] at hst
          have HST := hide hst
          clear hat hst
          go_wp2_with fail
          replace hS := hS.ext (Ext.refl _).drew
          replace hP := hP.ext (Ext.refl _).drew
          replace hB := hB.ext (Ext.refl _).drew
          replace hE := hE.drew
          refine wp_region_held_drew (S := fun _ => True) (by kernel_rfl) trivial (fun hHeld => ?_)
          refine held_take 0 rfl (by kernel_rfl) (by kernel_rfl) (by kernel_rfl) (fun _ _ _ _ h => h) (by rfl) ?_ ?_ (by assumption) ?_
          rotate_left
          · (intro wx hSx; (try dsimp only at hSx); go_simp)
            all_goals with_reducible rfl
          (try simp only [Act.put, List.setIfInBounds_toArray, List.set_cons_zero, List.set_cons_succ])
          refine held_take 1 rfl (by kernel_rfl) (by kernel_rfl) (by kernel_rfl) (fun _ _ _ _ h => h) (by rfl) ?_ ?_ (by assumption) ?_
          rotate_left
          · (intro wx hSx; (try dsimp only at hSx); go_simp)
            all_goals with_reducible rfl
          (try simp only [Act.put, List.setIfInBounds_toArray, List.set_cons_zero, List.set_cons_succ])
          refine held_take 2 rfl (by kernel_rfl) (by kernel_rfl) (by kernel_rfl) (fun _ _ _ _ h => h) (by rfl) ?_ ?_ (by assumption) ?_
          rotate_left
          · (intro wx hSx; (try dsimp only at hSx); go_simp)
            all_goals with_reducible rfl
          (try simp only [Act.put, List.setIfInBounds_toArray, List.set_cons_zero, List.set_cons_succ])
          refine held_take 3 rfl (by kernel_rfl) (by kernel_rfl) (by kernel_rfl) (fun _ _ _ _ h => h) (by rfl) ?_ ?_ (by assumption) ?_
          rotate_left
          · (intro wx hSx; (try dsimp only at hSx); go_simp)
            all_goals with_reducible rfl
          (try simp only [Act.put, List.setIfInBounds_toArray, List.set_cons_zero, List.set_cons_succ])
          refine held_take 4 rfl (by kernel_rfl) (by kernel_rfl) (by kernel_rfl) (fun _ _ _ _ h => h) (by rfl) ?_ ?_ (by assumption) ?_
          rotate_left
          · (intro wx hSx; (try dsimp only at hSx); go_simp)
            all_goals with_reducible rfl
          (try simp only [Act.put, List.setIfInBounds_toArray, List.set_cons_zero, List.set_cons_succ])
          refine held_take 5 rfl (by kernel_rfl) (by kernel_rfl) (by kernel_rfl) (fun _ _ _ _ h => h) (by rfl) ?_ ?_ (by assumption) ?_
          rotate_left
          · (intro wx hSx; (try dsimp only at hSx); go_simp)
            all_goals with_reducible rfl
          (try simp only [Act.put, List.setIfInBounds_toArray, List.set_cons_zero, List.set_cons_succ])
          refine held_take 7 rfl (by kernel_rfl) (by kernel_rfl) (by kernel_rfl) (fun _ _ _ _ h => h) (by rfl) ?_ ?_ (by assumption) ?_
          rotate_left
          · (intro wx hSx; (try dsimp only at hSx); go_simp)
            all_goals with_reducible rfl
          (try simp only [Act.put, List.setIfInBounds_toArray, List.set_cons_zero, List.set_cons_succ])
          refine held_take 8 rfl (by kernel_rfl) (by kernel_rfl) (by kernel_rfl) (fun _ _ _ _ h => h) (by rfl) ?_ ?_ (by assumption) ?_
          rotate_left
          · (intro wx hSx; (try dsimp only at hSx); go_simp)
            all_goals with_reducible rfl
          (try simp only [Act.put, List.setIfInBounds_toArray, List.set_cons_zero, List.set_cons_succ])
          refine held_call 6 rfl (by kernel_rfl) (fun K hK => ?_)
          go_simp
          go_at_call 69
          refine (HAT.out _ hS).mono ?_
          rintro e w' ⟨rfl, qq, hw'⟩
          have hE' : Ext _ w' := (by rw [hw']; exact (Ext.refl _).drewN _)
          clear hw'
          replace hS := hS.ext hE'
          replace hP := hP.ext hE'
          replace hB := hB.ext hE'
          replace hE := hE.trans hE'
          clear hE'
          go_wp2_with fail
          refine hK.out _ _ trivial (fun hHeld => ?_)
          clear hK K
          (try simp only [Act.put, List.setIfInBounds_toArray, List.set_cons_zero, List.set_cons_succ])
          refine held_take 9 rfl (by kernel_rfl) (by kernel_rfl) (by kernel_rfl) (fun _ _ _ _ h => h) (by rfl) ?_ ?_ (by assumption) ?_
          rotate_left
          · (intro wx hSx; (try dsimp only at hSx); go_simp)
            all_goals with_reducible rfl
          (try simp only [Act.put, List.setIfInBounds_toArray, List.set_cons_zero, List.set_cons_succ])
          have hcc := hP.atN (k * 11 + 3 + j) (by omega)
          have hff := hP.frozenAt (k * 11 + 3 + j)
          refine held_call 10 rfl (by kernel_rfl) (fun K hK => ?_)
          go_simp
          refine hK.out _ _ trivial (fun hHeld => ?_)
          clear hK K
          refine wpAnyH_done (by kernel_rfl) ?_ _
          clear hHeld hcc hff
          have hP9 := hP.store (k * 11 + 3 + j) (.int .i64 (gN bd (7 + 2 * j) 2 : Nat)) rfl
          rw [i64s_set, Nat.add_assoc (k * 11) 3 j, HST.out] at hP9
          rw [← Nat.add_assoc (k * 11) 3 j] at hP9
          have hB9 := hB.grown (grown_setCell _ w1.heap.size (k * 11 + 3 + j) (.int .i64 (gN bd (7 + 2 * j) 2 : Nat))) (by omega)
          have hS9 := hS.grown (grown_setCell _ w1.heap.size (k * 11 + 3 + j) (.int .i64 (gN bd (7 + 2 * j) 2 : Nat))) (by omega)
          have hE9 := hE.setCell (p := ⟨w1.heap.size, k * 11 + 3 + j, none⟩) (Nat.le_refl _) (.int .i64 (gN bd (7 + 2 * j) 2 : Nat))
          clear hP hB hS hE
          go_wp2
          go_roundw
          case rel => exact ⟨j + 1, by omega, by go_num, hP9, hB9, hS9, hE9⟩
          case measure => simp [intOf]; omega
        · have hi7 : ¬ (j : Int) < 6 := by omega
          have hj6 : j = 6 := by omega
          subst hj6
          rw [rfA_six] at hP
          go_wp2
          go_roundw
          case rel => exact ⟨k + 1, by omega, by go_num, hP, hB, hE⟩
          case measure => simp [intOf]; omega
    · have hk4 : k = 4 := by omega
      subst hk4
      rw [soA_four] at hP
      have hLay := fun w => ref7_Lay (rdA bs 4) (rdA_len bs 4) w
      have hx := h.ext (hE1.trans hE)
      have hR4 := hR1.ext hE
      have hF4 := hE1.trans hE
      go_wp2_with (with_reducible refine ag_load rfl 49 (.tmp 4) rfl w1.heap.size 44 w1.heap.size 49 _ rfl hP agg_inodes info_inodes ?_)
      refine (hLay _).mono ?_
      rintro e w5 ⟨A5, n5, c5, rfl, hn5, hO5, hE5⟩
      have hR5 := hR4.ext hE5
      have hP5 := hP.ext hE5
      have hF5 := hF4.trans hE5
      have hx5 := hx.ext hE5
      have bl := Bytes.layIL (rdA bs 4)
      have hcv1 := str8 hO5.sl
      have hcv2 := str8 hx5
      clear hLay hR4 hP hF4 hx
      rcases layIE_or (rdA bs 4) with h0 | h2
      · rw [h0]
        by_cases heq : layIL (rdA bs 4) = xs
        · have HN := hide (HR.out.1 (HRD.out.2 ⟨h0, heq⟩))
          have e1 : ((strN (layIL (rdA bs 4))).toList == (strN xs).toList) = true := by rw [strN_eq bl hb]; simpa using heq
          clear h0 heq
          go_wp2_with (first
            | (with_reducible refine ag_load rfl 49 (.tmp 4) rfl w1.heap.size 44 w1.heap.size 49 _ rfl hP5 agg_inodes info_inodes ?_)
            | (with_reducible refine ag_store (o := ⟨none, _, _, _, _, _⟩) rfl 49 (.tmp 2) (.tmp 75) rfl w.heap.size 44 w.heap.size 49 _ (i64s (rdA bs 4)) rfl rfl hR5 (i64s_len' (rdA_len _ _)) (i64s_one _) info_inodes ?_; intro w6 hR6 hG6; have hF6 := hF5.grown hG6 (by simp)))
          rw [HN.out.1, HN.out.2]
          exact bodyPost_ret (results_agg rfl _ rfl rfl hR6 agg_inodes info_inodes) rfl ⟨rfl, hF6⟩
        · have HN := hide (HR.out.2 (fun h => heq (HRD.out.1 h).2))
          have e1 : ((strN (layIL (rdA bs 4))).toList == (strN xs).toList) = false := by rw [strN_eq bl hb]; simpa using heq
          clear h0 heq
          go_wp2_with (first
            | (with_reducible refine ag_zero rfl 49 rfl _ (bld_inodes _) ?_)
            | (with_reducible refine ag_store (o := ⟨none, _, _, _, _, _⟩) rfl 49 (.tmp 2) (.tmp 74) rfl w.heap.size 44 w.heap.size 49 _ (i64s z44) rfl rfl hR5 rfl (i64s_one _) info_inodes ?_; intro w6 hR6 hG6; have hF6 := hF5.grown hG6 (by simp)))
          rw [HN.out.1, HN.out.2]
          exact bodyPost_ret (results_agg rfl _ rfl rfl hR6 agg_inodes info_inodes) rfl ⟨rfl, hF6⟩
      · have HN := hide (HR.out.2 (fun h => by rw [(HRD.out.1 h).1] at h2; cases h2))
        rw [h2]
        clear h2
        go_wp2_with (first
          | (with_reducible refine ag_zero rfl 49 rfl _ (bld_inodes _) ?_)
          | (with_reducible refine ag_store (o := ⟨none, _, _, _, _, _⟩) rfl 49 (.tmp 2) (.tmp 74) rfl w.heap.size 44 w.heap.size 49 _ (i64s z44) rfl rfl hR5 rfl (i64s_one _) info_inodes ?_; intro w6 hR6 hG6; have hF6 := hF5.grown hG6 (by simp)))
        rw [HN.out.1, HN.out.2]
        exact bodyPost_ret (results_agg rfl _ rfl rfl hR6 agg_inodes info_inodes) rfl ⟨rfl, hF6⟩
end Go.Proofs.Ythbdnaogjmnagaa
