/- Slots of directories: what bytes are read as. -/
import Derived.Test.YtngffmchjjpfbaaSloM
namespace Go.Proofs.Ytngffmchjjpfbaa
set_option linter.unusedVariables false
open Go.RowKit

def rdS (b : List Nat) (q : Nat) : Slot := (((wN b q : Nat) : Int), ((b.getD (q + 2) 0 : Nat) : Int), strN (nmL b (q + 3)))
/-- The first k slots read, the others zero. -/
def soD (b : List Nat) (k : Nat) : List Slot := (List.range k).map (fun j => rdS b (j * 28)) ++ List.replicate (4 - k) zS
theorem soD_len (b : List Nat) (k : Nat) (h : k ≤ 4) : (soD b k).length = 4 := by simp [soD]; omega
theorem soD_zero (b : List Nat) : soD b 0 = zL := rfl
def rdD (b : List Nat) : List Slot := soD b 4
theorem rdD_len (b : List Nat) : (rdD b).length = 4 := soD_len b 4 (by omega)
theorem soD_set (b : List Nat) (k : Nat) (h : k < 4) : (soD b k).set k (rdS b (k * 28)) = soD b (k + 1) := by
  unfold soD
  rw [List.set_append_right _ _ (by simp), List.length_map, List.length_range, Nat.sub_self, show 4 - k = (4 - (k + 1)) + 1 from by omega, List.replicate_succ, List.set_cons_zero, List.range_succ, List.map_append]
  simp
theorem LV_put {ss : List Slot} {k : Nat} (s : Slot) (h : k < ss.length) : (LV ss).take (k * 3) ++ sV s ++ (LV ss).drop (k * 3 + 3) = LV (ss.set k s) := by
  induction ss generalizing k with
  | nil => simp at h
  | cons t ss ih =>
    cases k with
    | zero => simp [LV_cons, sV]
    | succ k =>
      have := ih (k := k) (by simpa using h)
      rw [List.set_cons_succ, LV_cons, LV_cons, ← this, show (k + 1) * 3 = k * 3 + 3 from by omega]
      simp [sV, List.take_succ_cons, List.drop_succ_cons]
/-- Are bytes a block of slots? -/
def rdOkD (b : List Nat) : Prop := kindOf b = 68 ∧ allS (rdD (bodyOf b)) 4 ∧ sealOf 68 (layBS (rdD (bodyOf b)) 4) = b
instance (b : List Nat) : Decidable (rdOkD b) := by unfold rdOkD; infer_instance
def readDL (b : List Nat) : List Slot := if rdOkD b then rdD (bodyOf b) else zL
def readDE (b : List Nat) : Nat := if rdOkD b then 0 else 3
theorem readDL_len (b : List Nat) : (readDL b).length = 4 := by unfold readDL; split; exact rdD_len _; rfl
theorem rdOkD_lay {b : List Nat} (h : kindOf b = 68) : rdOkD b ↔ layDE (rdD (bodyOf b)) = 0 ∧ layDL (rdD (bodyOf b)) = b := by
  unfold rdOkD layDE layDL
  constructor
  · rintro ⟨_, h1, h2⟩; rw [if_pos h1, if_pos h1]; exact ⟨rfl, h2⟩
  · rintro ⟨h1, h2⟩
    split at h1
    · rename_i ha
      rw [if_pos ha] at h2
      exact ⟨h, ha, h2⟩
    · cases h1
theorem layDE_or (ss : List Slot) : layDE ss = 0 ∨ layDE ss = 2 := by unfold layDE; split <;> simp
theorem Bytes.layDL (ss : List Slot) : Bytes (layDL ss) := by
  unfold Go.Proofs.Ytngffmchjjpfbaa.layDL
  split
  · rename_i h
    exact Bytes.sealOf (by omega) (Bytes.layBS h)
  · exact Bytes.nil
theorem rdS_at {b : List Nat} {q x0 x1 x2 x3 : Nat} (h0 : Hid (b[q]? = some x0)) (h1 : Hid (b[q + 1]? = some x1)) (h2 : Hid (b[q + 2]? = some x2)) (h3 : Hid (b[q + 3]? = some x3)) :
    rdS b q = ((x0 : Int) * 256 + (x1 : Int), (x2 : Int), strN ((b.drop (q + 4)).take (min x3 24))) := by
  have gx : ∀ j x, b[j]? = some x → b.getD j 0 = x := fun j x hj => by rw [List.getD_eq_getElem?_getD, hj]; rfl
  unfold rdS wN nmL
  rw [gx _ _ h0.out, gx _ _ h1.out, gx _ _ h2.out, gx _ _ h3.out]
  simp
theorem held_conv {P : Program} {oi : Oper} {f : Operand → Value} {w : World} {s d : TypeId} {x : Operand} {v : Value} (ho : oi.op = .convert s d x) (h : (convert s d (f x)).run P w = .ok v w) :
    (execOp f oi).run P w = .ok (.value v) w := by
  simp only [execOp, ho]
  rw [Sem.run_bind, h]
  rfl
set_option maxRecDepth 100000 in
set_option maxHeartbeats 4000000 in
theorem dir_Read (A : Option Addr) (n c : Nat) (xs : List Nat) (w : World) (h : Sl w A n c (by8 xs)) (hb : Bytes xs) :
    Calls Try.prog 25 #[.slice A n c] w fun e w' => e = .returned (.tuple #[.agg (LV (readDL xs)).toArray, .int .i64 (readDE xs : Nat)]) ∧ Ext w w' := by
  by_cases hk : kindOf xs = 68
  case neg =>
    have hno : ¬ rdOkD xs := fun h => hk h.1
    have H12 := hide (And.intro (show readDL xs = zL from if_neg hno) (show readDE xs = 3 from if_neg hno))
    have hO := fun w1 (hE : Ext w w1) => seal_Open_no 68 A n c xs w1 (h.ext hE) hb (.inr hk)
    clear hno hk
    go_enter Try.func25, Try.ntmps25
    go_wp2_with (with_reducible refine ag_alloc (o := ⟨some 2, _, _, _, _, _⟩) rfl 40 rfl _ 12 zero_slots rfl (by omega) (LV_one zL) w.heap.size (Nat.le_refl _) ?_; intro w1 hR1 hE1 hz1)
    refine (hO _ hE1).mono ?_
    rintro e w3 ⟨rfl, hE3⟩
    have hR3 := hR1.ext hE3
    go_wp2_with (first
      | (with_reducible refine ag_zero rfl 40 rfl _ (bld_slots _) ?_)
      | (with_reducible refine ag_store (o := ⟨none, _, _, _, _, _⟩) rfl 40 (.tmp 2) (.tmp 19) rfl w.heap.size 12 w.heap.size 40 _ (LV zL) rfl rfl hR3 rfl (LV_one _) info_slots ?_; intro w4 hR4 hG4))
    have hF4 := (hE1.trans hE3).grown hG4 (by simp)
    rw [H12.out.1, H12.out.2]
    exact bodyPost_ret (results_agg rfl _ rfl rfl hR4 agg_slots info_slots) rfl ⟨rfl, hF4⟩
  have hl := kind_len (xs := xs) (by omega)
  have hbl : (bodyOf xs).length = 123 := bodyOf_len hl
  have hbb : Bytes (bodyOf xs) := (hb.drop 1).take 123
  have HK := hide hk
  have HBL := hide hbl
  have hRD := rdOkD_lay hk
  have HRD := hide hRD
  clear hk hl hbl hRD
  have r1 : rdOkD xs → readDL xs = rdD (bodyOf xs) ∧ readDE xs = 0 := fun h => ⟨if_pos h, if_pos h⟩
  have r2 : ¬ rdOkD xs → readDL xs = zL ∧ readDE xs = 3 := fun h => ⟨if_neg h, if_neg h⟩
  have HR := hide (And.intro r1 r2)
  clear r1 r2
  go_enter Try.func25, Try.ntmps25
  go_wp2_with (with_reducible refine ag_alloc (o := ⟨some 2, _, _, _, _, _⟩) rfl 40 rfl _ 12 zero_slots rfl (by omega) (LV_one zL) w.heap.size (Nat.le_refl _) ?_; intro w1 hR1 hE1 hz1)
  refine (seal_Open 68 _ _ _ xs _ (h.ext hE1) hb (by omega) HK.out).mono ?_
  rintro e w2 ⟨gb, cb, rfl, hO2, hE2⟩
  have hnb := hO2.sl.nc
  generalize bodyOf xs = bs at *
  go_wp2_with (with_reducible refine ag_alloc (o := ⟨some 6, _, _, _, _, _⟩) rfl 40 rfl _ 12 zero_slots rfl (by omega) (LV_one zL) w2.heap.size (Nat.le_refl _) ?_; intro w3 hP3 hE3 hz3)
  go_loopw [20] (fun i wr => ∃ k : Nat, k ≤ 4 ∧ i = .int .i64 k ∧ Own wr w2.heap.size 40 (some ⟨w2.heap.size, 0, none⟩) 12 12 (LV (soD bs k)) ∧ Ext w2 wr) (fun i _ => 4 - (intOf i).toNat)
  case atStart => exact ⟨0, by omega, rfl, by rw [soD_zero]; exact hP3, hE3⟩
  case round =>
    clear hP3 hE3 hz3
    obtain ⟨k, hk, rfl, hP, hE⟩ := hrel
    by_cases hlt : k < 4
    · have hB := (hO2.ext hE).sl
      obtain ⟨_, _, x0, hA, hx0, hc0, hl0⟩ := hO2.sl.at8 hbb (k := k * 28) (by omega)
      simp at hA
      obtain ⟨rfl, rfl⟩ := hA
      simp only [Nat.zero_add] at hc0
      obtain ⟨_, _, x1, hA, hx1, hc1, hl1⟩ := hO2.sl.at8 hbb (k := k * 28 + 1) (by omega)
      simp at hA
      obtain ⟨rfl, rfl⟩ := hA
      simp only [Nat.zero_add] at hc1
      obtain ⟨_, _, x2, hA, hx2, hc2, hl2⟩ := hO2.sl.at8 hbb (k := k * 28 + 2) (by omega)
      simp at hA
      obtain ⟨rfl, rfl⟩ := hA
      simp only [Nat.zero_add] at hc2
      obtain ⟨_, _, x3, hA, hx3, hc3, hl3⟩ := hO2.sl.at8 hbb (k := k * 28 + 3) (by omega)
      simp at hA
      obtain ⟨rfl, rfl⟩ := hA
      simp only [Nat.zero_add] at hc3
      have HX := hide (rdS_at hx0 hx1 hx2 hx3)
      have hd0 := hE.cell hc0
      have hd1 := hE.cell hc1
      have hd2 := hE.cell hc2
      have hd3 := hE.cell hc3
      have hi0 : (0 : Int) ≤ (k : Int) * 28 := by omega
      have hi1 : (k : Int) * 28 ≤ ((k : Int) + 1) * 28 := by omega
      have hi2 : ((k : Int) + 1) * 28 ≤ (cb : Int) := by omega
      have hi3 : ¬ cb = k * 28 := by omega
      have hm := hide (show (min (x3 : Int) 24) = ((min x3 24 : Nat) : Int) by omega)
      clear hx0 hx1 hx2 hx3
      go_upto_region 10 with fail
      rw [hm.out, show (k + 1) * 28 - k * 28 = 28 from by omega]
      have hm24 : min x3 24 ≤ 24 := by omega
      clear hm
      generalize min x3 24 = m at *
      have or1 := or_bytes hl0 hl1
      have sh1 : IntKind.i64.wrap ((x0 : Int) * 256) = (x0 : Int) * 256 := IntWalk.i64_in _ (by omega)
      have wb0 : IntKind.i64.wrap (x0 : Int) = (x0 : Int) := IntWalk.i64_in _ (by omega)
      have wb1 : IntKind.i64.wrap (x1 : Int) = (x1 : Int) := IntWalk.i64_in _ (by omega)
      have wb2 : IntKind.i64.wrap (x2 : Int) = (x2 : Int) := IntWalk.i64_in _ (by omega)
      have wm : IntKind.i64.wrap (4 + (m : Int)) = 4 + (m : Int) := IntWalk.i64_in _ (by omega)
      have hm0 : (0 : Int) ≤ 4 + (m : Int) := by omega
      have hm1 : (4 : Int) ≤ 4 + (m : Int) := by omega
      have hm2 : (4 : Int) + (m : Int) ≤ ((cb - k * 28 : Nat) : Int) := by omega
      have hm3 : ¬ cb - k * 28 = 4 := by omega
      have hm4 : ((4 : Int) + (m : Int)).toNat = 4 + m := by omega
      have hSl := hO2.sl.mid (k * 28 + 4) m (by omega) (by omega)
      have keepS : ∀ w', Ext w2 w' → (w'.cell? ⟨gb, k * 28, none⟩ = some (.int .u8 (x0 : Nat)) ∧ w'.cell? ⟨gb, k * 28 + 1, none⟩ = some (.int .u8 (x1 : Nat)) ∧ w'.cell? ⟨gb, k * 28 + 2, none⟩ = some (.int .u8 (x2 : Nat)) ∧ w'.cell? ⟨gb, k * 28 + 3, none⟩ = some (.int .u8 (x3 : Nat))) ∧ Sl w' (some ⟨gb, k * 28 + 4, none⟩) m (cb - (k * 28 + 4)) (by8 ((bs.drop (k * 28 + 4)).take m)) :=
        fun w' hE => ⟨⟨hE.cell hc0, hE.cell hc1, hE.cell hc2, hE.cell hc3⟩, hSl.ext hE⟩
      refine wp_region_held_drew (S := fun w' => (w'.cell? ⟨gb, k * 28, none⟩ = some (.int .u8 (x0 : Nat)) ∧ w'.cell? ⟨gb, k * 28 + 1, none⟩ = some (.int .u8 (x1 : Nat)) ∧ w'.cell? ⟨gb, k * 28 + 2, none⟩ = some (.int .u8 (x2 : Nat)) ∧ w'.cell? ⟨gb, k * 28 + 3, none⟩ = some (.int .u8 (x3 : Nat))) ∧ Sl w' (some ⟨gb, k * 28 + 4, none⟩) m (cb - (k * 28 + 4)) (by8 ((bs.drop (k * 28 + 4)).take m))) (by kernel_rfl) (keepS _ hE.drew) (fun hHeld => ?_)
      refine held_take 0 rfl (by kernel_rfl) (by kernel_rfl) (by kernel_rfl) (fun _ _ _ _ h => h) (by rfl) ?_ ?_ (by assumption) ?_
      rotate_left
      · (intro wx hSx; (try dsimp only at hSx); go_simp)
        all_goals with_reducible rfl
      (try simp only [Act.put, List.setIfInBounds_toArray, List.set_cons_zero, List.set_cons_succ])
      refine held_take 1 rfl (by kernel_rfl) (by kernel_rfl) (by kernel_rfl) (fun _ _ _ _ h => h) (by rfl) ?_ ?_ (by assumption) ?_
      rotate_left
      · (intro wx hSx; (try dsimp only at hSx); go_simp)
        all_goals with_reducible rfl
      (try simp only [Act.put, List.setIfInBounds_toArray, List.set_cons_zero, List.set_cons_succ])
      refine held_take 2 rfl (by kernel_rfl) (by kernel_rfl) (by kernel_rfl) (fun _ _ _ _ h => h) (by rfl) ?_ ?_ (by assumption) ?_
      rotate_left
      · (intro wx hSx; (try dsimp only at hSx); go_simp)
        all_goals with_reducible rfl
      (try simp only [Act.put, List.setIfInBounds_toArray, List.set_cons_zero, List.set_cons_succ])
      refine held_take 3 rfl (by kernel_rfl) (by kernel_rfl) (by kernel_rfl) (fun _ _ _ _ h => h) (by rfl) ?_ ?_ (by assumption) ?_
      rotate_left
      · (intro wx hSx; (try dsimp only at hSx); go_simp)
        all_goals with_reducible rfl
      (try simp only [Act.put, List.setIfInBounds_toArray, List.set_cons_zero, List.set_cons_succ])
      refine held_take 4 rfl (by kernel_rfl) (by kernel_rfl) (by kernel_rfl) (fun _ _ _ _ h => h) (by rfl) ?_ ?_ (by assumption) ?_
      rotate_left
      · (intro wx hSx; (try dsimp only at hSx); go_simp)
        all_goals with_reducible rfl
      (try simp only [Act.put, List.setIfInBounds_toArray, List.set_cons_zero, List.set_cons_succ])
      refine held_take 5 rfl (by kernel_rfl) (by kernel_rfl) (by kernel_rfl) (fun _ _ _ _ h => h) (by rfl) ?_ ?_ (by assumption) ?_
      rotate_left
      · (intro wx hSx; (try dsimp only at hSx); go_simp)
        all_goals with_reducible rfl
      (try simp only [Act.put, List.setIfInBounds_toArray, List.set_cons_zero, List.set_cons_succ])
      refine held_take 6 rfl (by kernel_rfl) (by kernel_rfl) (by kernel_rfl) (fun _ _ _ _ h => h) (by rfl) ?_ ?_ (by assumption) ?_
      rotate_left
      · (intro wx hSx; (try dsimp only at hSx); go_simp)
        all_goals with_reducible rfl
      (try simp only [Act.put, List.setIfInBounds_toArray, List.set_cons_zero, List.set_cons_succ])
      refine held_take 7 rfl (by kernel_rfl) (by kernel_rfl) (by kernel_rfl) (fun _ _ _ _ h => h) (by rfl) ?_ ?_ (by assumption) ?_
      rotate_left
      · (intro wx hSx; (try dsimp only at hSx); go_simp)
        all_goals with_reducible rfl
      (try simp only [Act.put, List.setIfInBounds_toArray, List.set_cons_zero, List.set_cons_succ])
      refine held_take 8 rfl (by kernel_rfl) (by kernel_rfl) (by kernel_rfl) (fun _ _ _ _ h => h) (by rfl) ?_ ?_ (by assumption) ?_
      rotate_left
      · (intro wx hSx; (try dsimp only at hSx); go_simp)
        all_goals with_reducible rfl
      (try simp only [Act.put, List.setIfInBounds_toArray, List.set_cons_zero, List.set_cons_succ])
      refine held_take 9 rfl (by kernel_rfl) (by kernel_rfl) (by kernel_rfl) (fun _ _ _ _ h => h) (by rfl) ?_ ?_ (by assumption) ?_
      rotate_left
      · (intro wx hSx; (try dsimp only at hSx); go_simp)
        all_goals with_reducible rfl
      (try simp only [Act.put, List.setIfInBounds_toArray, List.set_cons_zero, List.set_cons_succ])
      refine held_take 10 rfl (by kernel_rfl) (by kernel_rfl) (by kernel_rfl) (fun _ _ _ _ h => h) (by rfl) ?_ ?_ (by assumption) ?_
      rotate_left
      · (intro wx hSx; (try dsimp only at hSx); go_simp)
        all_goals with_reducible rfl
      (try simp only [Act.put, List.setIfInBounds_toArray, List.set_cons_zero, List.set_cons_succ])
      refine held_take 11 rfl (by kernel_rfl) (by kernel_rfl) (by kernel_rfl) (fun _ _ _ _ h => h) (by rfl) ?_ ?_ (by assumption) ?_
      rotate_left
      · (intro wx hSx; (try dsimp only at hSx); go_simp)
        all_goals with_reducible rfl
      (try simp only [Act.put, List.setIfInBounds_toArray, List.set_cons_zero, List.set_cons_succ])
      refine held_take 12 rfl (by kernel_rfl) (by kernel_rfl) (by kernel_rfl) (fun _ _ _ _ h => h) (by rfl) ?_ ?_ (by assumption) ?_
      rotate_left
      · (intro wx hSx; (try dsimp only at hSx); go_simp)
        all_goals with_reducible rfl
      (try simp only [Act.put, List.setIfInBounds_toArray, List.set_cons_zero, List.set_cons_succ])
      refine held_take 13 rfl (by kernel_rfl) (by kernel_rfl) (by kernel_rfl) (fun _ _ _ _ h => h) (by rfl) ?_ ?_ (by assumption) ?_
      rotate_left
      · (intro wx hSx; (try dsimp only at hSx); go_simp)
        all_goals with_reducible rfl
      (try simp only [Act.put, List.setIfInBounds_toArray, List.set_cons_zero, List.set_cons_succ])
      refine held_take 14 rfl (by kernel_rfl) (by kernel_rfl) (by kernel_rfl) (fun _ _ _ _ h => h) (by rfl) ?_ ?_ (by assumption) ?_
      rotate_left
      · (intro wx hSx; (try dsimp only at hSx); go_simp)
        all_goals with_reducible rfl
      (try simp only [Act.put, List.setIfInBounds_toArray, List.set_cons_zero, List.set_cons_succ])
      refine held_take 15 rfl (by kernel_rfl) (by kernel_rfl) (by kernel_rfl) (fun _ _ _ _ h => h) (by rfl) ?_ ?_ (by assumption) ?_
      rotate_left
      · (intro wx hSx; (try dsimp only at hSx); go_simp)
        all_goals with_reducible rfl
      (try simp only [Act.put, List.setIfInBounds_toArray, List.set_cons_zero, List.set_cons_succ])
      refine held_take 16 rfl (by kernel_rfl) (by kernel_rfl) (by kernel_rfl) (fun _ _ _ _ h => h) (by rfl) ?_ ?_ (by assumption) ?_
      rotate_left
      · (intro wx hSx; (try dsimp only at hSx); go_simp)
        all_goals with_reducible rfl
      (try simp only [Act.put, List.setIfInBounds_toArray, List.set_cons_zero, List.set_cons_succ])
      refine held_take 17 rfl (by kernel_rfl) (by kernel_rfl) (by kernel_rfl) (fun _ _ _ _ h => h) (by rfl) ?_ ?_ (by assumption) ?_
      rotate_left
      · (intro wx hSx; (try dsimp only at hSx); go_simp)
        all_goals with_reducible rfl
      (try simp only [Act.put, List.setIfInBounds_toArray, List.set_cons_zero, List.set_cons_succ])
      refine held_take 18 rfl (by kernel_rfl) (by kernel_rfl) (by kernel_rfl) (fun _ _ _ _ h => h) (by rfl) ?_ ?_ (by assumption) ?_
      rotate_left
      · (intro wx hSx; (try dsimp only at hSx); go_simp)
        all_goals with_reducible rfl
      (try simp only [Act.put, List.setIfInBounds_toArray, List.set_cons_zero, List.set_cons_succ])
      refine held_take 19 rfl (by kernel_rfl) (by kernel_rfl) (by kernel_rfl) (fun _ _ _ _ h => h) (by rfl) (.string (strN ((bs.drop (k * 28 + 4)).take m))) (fun wx hSx => held_conv rfl (str8 hSx.2)) (by assumption) ?_
      (try simp only [Act.put, List.setIfInBounds_toArray, List.set_cons_zero, List.set_cons_succ])
      refine held_take 20 rfl (by kernel_rfl) (by kernel_rfl) (by kernel_rfl) (fun _ _ _ _ h => h) (by rfl) ?_ ?_ (by assumption) ?_
      rotate_left
      · (intro wx hSx; (try dsimp only at hSx); go_simp)
        all_goals with_reducible rfl
      (try simp only [Act.put, List.setIfInBounds_toArray, List.set_cons_zero, List.set_cons_succ])
      refine held_take 21 rfl (by kernel_rfl) (by kernel_rfl) (by kernel_rfl) (fun _ _ _ _ h => h) (by rfl) ?_ ?_ (by assumption) ?_
      rotate_left
      · (intro wx hSx; (try dsimp only at hSx); go_simp)
        all_goals with_reducible rfl
      (try simp only [Act.put, List.setIfInBounds_toArray, List.set_cons_zero, List.set_cons_succ])
      refine held_call 22 rfl (by kernel_rfl) (fun K hK => ?_)
      refine step_storeAt rfl 39 (.tmp 56) (.tmp 55) rfl w2.heap.size (k * 3) 12 12 w2.heap.size 40 (LV (soD bs k)) (sV ((x0 : Int) * 256 + (x1 : Int), (x2 : Int), strN ((bs.drop (k * 28 + 4)).take m))) rfl rfl (hP.ext (Ext.drew (Ext.refl _))) (by simp [sV]; omega) (sV_one _) info_slot ?_
      intro w4 hR4 hG4
      have hX4 : Ext w2 w4 := (hE.drew).grown hG4 (fun q hq => by simp at hq; omega)
      have hR5 : Own w4 w2.heap.size 40 (some ⟨w2.heap.size, 0, none⟩) 12 12 (LV (soD bs (k + 1))) := by
        rw [← soD_set bs k hlt, ← LV_put _ (by rw [soD_len bs k hk]; exact hlt), HX.out]
        exact hR4
      refine hK.out _ _ (keepS _ hX4) (fun hHeld => ?_)
      clear hK K
      refine wpAnyH_done (by kernel_rfl) ?_ _
      clear hHeld keepS
      go_wp2
      go_roundw
      case rel => exact ⟨k + 1, by omega, by go_num, hR5, hX4⟩
      case measure => simp [intOf]; omega
    · obtain rfl : k = 4 := by omega
      have hP : Own wr w2.heap.size 40 (some ⟨w2.heap.size, 0, none⟩) 12 12 (LV (rdD bs)) := hP
      have HDL := hide (rdD_len bs)
      have hLay := fun w => dir_Lay (rdD bs) HDL.out w
      have hx := h.ext (hE1.trans (hE2.trans hE))
      have hR4 := hR1.ext (hE2.trans hE)
      have hF4 := hE1.trans (hE2.trans hE)
      go_wp2_with (with_reducible refine ag_load rfl 40 (.tmp 6) rfl w2.heap.size 12 w2.heap.size 40 _ rfl hP agg_slots info_slots ?_)
      refine (hLay _).mono ?_
      rintro e w5 ⟨A5, n5, c5, rfl, hn5, hO5, hE5⟩
      have hR5 := hR4.ext hE5
      have hP5 := hP.ext hE5
      have hF5 := hF4.trans hE5
      have hx5 := hx.ext hE5
      have bl := Bytes.layDL (rdD bs)
      clear hLay hR4 hP hF4 hx
      rcases layDE_or (rdD bs) with h0 | h2
      · rw [h0]
        by_cases heq : layDL (rdD bs) = xs
        · have HN := hide (HR.out.1 (HRD.out.2 ⟨h0, heq⟩))
          have hd := decide_eq_true heq
          clear h0 heq
          go_wp2_with fail
          refine (BEqual _ _ _ _ _ _ _ xs _ hO5.sl hx5 bl hb).mono ?_
          rintro e w6 ⟨rfl, rfl⟩
          rw [hd]
          go_wp2_with (first
            | (with_reducible refine ag_load rfl 40 (.tmp 6) rfl w2.heap.size 12 w2.heap.size 40 _ rfl hP5 agg_slots info_slots ?_)
            | (with_reducible refine ag_store (o := ⟨none, _, _, _, _, _⟩) rfl 40 (.tmp 2) (.tmp 72) rfl w.heap.size 12 w.heap.size 40 _ (LV (rdD bs)) rfl rfl hR5 (LV_len4 HDL.out) (LV_one _) info_slots ?_; intro w7 hR8 hG7; have hF7 := hF5.grown hG7 (by simp)))
          rw [HN.out.1, HN.out.2]
          exact bodyPost_ret (results_agg rfl _ rfl rfl hR8 agg_slots info_slots) rfl ⟨rfl, hF7⟩
        · have HN := hide (HR.out.2 (fun h => heq (HRD.out.1 h).2))
          have hd := decide_eq_false heq
          clear h0 heq
          go_wp2_with fail
          refine (BEqual _ _ _ _ _ _ _ xs _ hO5.sl hx5 bl hb).mono ?_
          rintro e w6 ⟨rfl, rfl⟩
          rw [hd]
          go_wp2_with (first
            | (with_reducible refine ag_zero rfl 40 rfl _ (bld_slots _) ?_)
            | (with_reducible refine ag_store (o := ⟨none, _, _, _, _, _⟩) rfl 40 (.tmp 2) (.tmp 71) rfl w.heap.size 12 w.heap.size 40 _ (LV zL) rfl rfl hR5 rfl (LV_one _) info_slots ?_; intro w7 hR8 hG7; have hF7 := hF5.grown hG7 (by simp)))
          rw [HN.out.1, HN.out.2]
          exact bodyPost_ret (results_agg rfl _ rfl rfl hR8 agg_slots info_slots) rfl ⟨rfl, hF7⟩
      · have HN := hide (HR.out.2 (fun h => by rw [(HRD.out.1 h).1] at h2; cases h2))
        rw [h2]
        clear h2
        go_wp2_with (first
          | (with_reducible refine ag_zero rfl 40 rfl _ (bld_slots _) ?_)
          | (with_reducible refine ag_store (o := ⟨none, _, _, _, _, _⟩) rfl 40 (.tmp 2) (.tmp 71) rfl w.heap.size 12 w.heap.size 40 _ (LV zL) rfl rfl hR5 rfl (LV_one _) info_slots ?_; intro w7 hR8 hG7; have hF7 := hF5.grown hG7 (by simp)))
        rw [HN.out.1, HN.out.2]
        exact bodyPost_ret (results_agg rfl _ rfl rfl hR8 agg_slots info_slots) rfl ⟨rfl, hF7⟩
end Go.Proofs.Ytngffmchjjpfbaa
