/- Contracts of spaces: what is deferred becomes firm. -/
import Derived.Test.YtillhbbeghbfeaaAlcS
namespace Go.Proofs.Ytillhbbeghbfeaa
set_option linter.unusedVariables false
open Go.RowKit

/-- A set without some numbers. -/
def clrB (xs : List Nat) (is : List Nat) : List Nat := is.foldl (fun x i => withB x i false) xs
theorem clrB_snoc (xs is : List Nat) (i : Nat) : clrB xs (is ++ [i]) = withB (clrB xs is) i false := by simp [clrB]
theorem clrB_len (is : List Nat) : ∀ xs, (clrB xs is).length = xs.length := by
  induction is with
  | nil => intro xs; rfl
  | cons i is ih => intro xs; show (clrB (withB xs i false) is).length = _; rw [ih, withB_len]
theorem Bytes.clrB (is : List Nat) : ∀ {xs}, Bytes xs → Bytes (Go.Proofs.Ytillhbbeghbfeaa.clrB xs is) := by
  induction is with
  | nil => intro xs h; exact h
  | cons i is ih => intro xs h; exact ih (h.withB i false)
theorem hasB_clrB (is : List Nat) : ∀ {xs}, Bytes xs → ∀ k, hasB (clrB xs is) k = (hasB xs k && !decide (k ∈ is ∧ k / 8 < xs.length)) := by
  induction is with
  | nil => intro xs h k; simp [clrB]
  | cons i is ih =>
    intro xs h k
    show hasB (clrB (withB xs i false) is) k = _
    rw [ih (h.withB i false), withB_len, hasB_withB h]
    by_cases hk : k = i ∧ i / 8 < xs.length
    · rw [if_pos hk]
      obtain ⟨rfl, h2⟩ := hk
      simp [h2]
    · rw [if_neg hk]
      congr 2
      rw [decide_eq_decide]
      simp only [List.mem_cons]
      constructor
      · rintro ⟨a, b⟩; exact ⟨.inr a, b⟩
      · rintro ⟨a | a, b⟩
        · subst a; exact absurd ⟨rfl, b⟩ hk
        · exact ⟨a, b⟩
def firmR (each : Nat) (xs ys : List Nat) : List Nat := clrB xs (allB ys each)
def firmT (each : Nat) (t d : List (List Nat)) : List (List Nat) := List.zipWith (firmR each) t d
def firmN (each : Nat) (d : List (List Nat)) : Nat := (d.map fun y => (allB y each).length).sum
def tK (each : Nat) (t d : List (List Nat)) (k : Nat) : List (List Nat) := firmT each (t.take k) (d.take k) ++ t.drop k
def dK (each : Nat) (d : List (List Nat)) (k : Nat) : List (List Nat) := List.replicate k (zr each) ++ d.drop k
section
variable {each : Nat} {t d : List (List Nat)} {k : Nat} {xs ys : List Nat}
theorem firmT_len (each : Nat) (t d : List (List Nat)) : (firmT each t d).length = min t.length d.length := by simp [firmT]
theorem tK_get (hl : t.length = d.length) (hk : t[k]? = some xs) : (tK each t d k)[k]? = some xs := by
  have hkl := (List.getElem?_eq_some_iff.1 hk).1
  unfold tK
  rw [List.getElem?_append_right (by rw [firmT_len]; simp; omega), firmT_len, List.getElem?_drop]
  rw [show k + (k - min (t.take k).length (d.take k).length) = k from by simp; omega]
  exact hk
theorem tK_len (hl : t.length = d.length) (hk : k ≤ t.length) : (tK each t d k).length = t.length := by
  unfold tK
  simp [firmT_len]
  omega
theorem tK_set (hl : t.length = d.length) (hk : t[k]? = some xs) (hk2 : d[k]? = some ys) : (tK each t d k).set k (firmR each xs ys) = tK each t d (k + 1) := by
  have hkl := (List.getElem?_eq_some_iff.1 hk).1
  unfold tK
  rw [List.set_append_right _ _ (by rw [firmT_len]; simp; omega), firmT_len]
  rw [show k - min (t.take k).length (d.take k).length = 0 from by simp; omega]
  rw [drop_cons hk, List.set_cons_zero, List.take_add_one, List.take_add_one, hk, hk2]
  unfold firmT
  rw [List.zipWith_append (by simp; omega)]
  simp
theorem dK_get (hk : d[k]? = some ys) : (dK each d k)[k]? = some ys := by
  unfold dK
  rw [List.getElem?_append_right (by simp), List.length_replicate, List.getElem?_drop]
  simpa using hk
theorem dK_len (hk : k ≤ d.length) : (dK each d k).length = d.length := by unfold dK; simp; omega
theorem dK_set (hk : d[k]? = some ys) : (dK each d k).set k (zr each) = dK each d (k + 1) := by
  unfold dK
  rw [List.set_append_right _ _ (by simp), List.length_replicate, Nat.sub_self, drop_cons hk, List.set_cons_zero, List.replicate_succ']
  simp
theorem firmN_succ (hk : d[k]? = some ys) : firmN each (d.take (k + 1)) = firmN each (d.take k) + (allB ys each).length := by
  unfold firmN
  rw [List.take_add_one, hk]
  simp
theorem firmN_le (each : Nat) : ∀ d : List (List Nat), firmN each d ≤ d.length * each
  | [] => by simp [firmN]
  | y :: d => by
    have h1 := firmN_le each d
    have h2 := allB_len y each
    unfold firmN at *
    simp [Nat.add_mul]
    omega
end
theorem RowsIs.notag {w : World} {B g c e : Nat} {xss : List (List Nat)} (h : RowsIs w B g c xss) (he : 43 ≠ e) : ∀ x ∈ [g], ¬ Tag w x e := by
  intro x hx ht
  rw [List.mem_singleton] at hx
  subst hx
  exact he (h.tag.uniq ht)
set_option maxRecDepth 100000 in
set_option maxHeartbeats 4000000 in
theorem set_firm {w : World} {B g o each g1 c1 g2 c2 : Nat} {t d : List (List Nat)} (h : SetAt w B g o each g1 c1 g2 c2 t d) (hB : B ≤ w.heap.size) :
    Calls Try.prog 56 #[.pointer (some ⟨g, o, none⟩)] w fun e w' =>
      e = .returned (.int .i64 (firmN each d : Nat)) ∧ RowsIs w' B g1 c1 (firmT each t d) ∧ RowsIs w' B g2 c2 (List.replicate d.length (zr each)) ∧ Turned [g1, g2] w w' := by
  have hle := h.le
  have hl := h.l1
  have hl2 := h.l2
  have ce := h.ce
  have ct := h.ct
  have cd := h.cd
  have hne := h.ne
  have hn1 := h.n1
  have hn2 := h.n2
  have hrt := h.rt
  have hrd := h.rd
  have H := hide h
  clear h
  go_enter Try.func56, Try.ntmps56
  go_wp2_with fail
  go_loopw [3, 13] (fun n i wr => ∃ k : Nat, k ≤ d.length ∧ n = .int .i64 (firmN each (d.take k) : Nat) ∧ i = .int .i64 k ∧ RowsIs wr B g1 c1 (tK each t d k) ∧ RowsIs wr B g2 c2 (dK each d k) ∧ Turned [g1, g2] w wr) (fun _ i _ => d.length - (intOf i).toNat)
  case atStart => exact ⟨0, by omega, rfl, rfl, by simpa [tK, firmT] using hrt, by simpa [dK] using hrd, Turned.refl _ _⟩
  case round =>
    obtain ⟨k, hk, rfl, rfl, hR1, hR2, hT⟩ := hrel
    have hsz := hT.size
    by_cases hlt : k < d.length
    · obtain ⟨ys, hys⟩ : ∃ ys, d[k]? = some ys := ⟨_, List.getElem?_eq_getElem hlt⟩
      obtain ⟨xs, hxs⟩ : ∃ xs, t[k]? = some xs := ⟨_, List.getElem?_eq_getElem (by omega)⟩
      have hyl := H.out.wd ys (List.mem_of_getElem? hys)
      have hxl := H.out.wt xs (List.mem_of_getElem? hxs)
      obtain ⟨A2, n2, cA2, hc2, hf2, hO2, hb2⟩ := hR2.row (dK_get (each := each) hys)
      have hn2l := hO2.len
      rw [by8_len] at hn2l
      have ce1 := hT.cell ce (by simp; omega)
      have ct1 := hT.cell ct (by simp; omega)
      have cd1 := hT.cell cd (by simp; omega)
      have i1 : (0 : Int) ≤ (k : Int) := by omega
      have i2 : (k : Int) < (d.length : Int) := by omega
      have i3 : (k : Int) < (t.length : Int) := by omega
      obtain ⟨wo, rfl⟩ : ∃ wo : World, wo = wr := ⟨_, rfl⟩
      have HAL := hide (bits_All A2 n2 cA2 ys (each : Int) wo hO2.sl hb2 (by omega) (by omega))
      go_wp2_with ((go_at_call 69; refine HAL.out.mono ?_; rintro e w2 ⟨A3, m3, c3, rfl, hO3, hE3⟩))
      have hm3 := hO3.len
      rw [i64s_len, nI_len, Int.toNat_natCast] at hm3
      rw [Int.toNat_natCast] at hO3
      have hR1' := hR1.ext hE3
      have hR2' := hR2.ext hE3
      have hT' := hT.trans (hE3.turned _)
      have hIO : ∀ j (z : Nat), (allB ys each)[j]? = some z → (i64s (nI (allB ys each)))[j]? = some (Value.int .i64 (z : Int)) := fun j z hz => i64s_get (x := (z : Int)) (by simp [nI, hz])
      have hib : ∀ j (z : Nat), (allB ys each)[j]? = some z → z < each := fun j z hz => (mem_allB.1 (List.mem_of_getElem? hz)).1
      have hfl : firmN each (d.take k) ≤ 1000 * 1000 := Nat.le_trans (firmN_le _ _) (Nat.mul_le_mul (by simp; omega) hle)
      have hal := allB_len ys each
      have hm3b : m3 ≤ 1000 := by omega
      have hkT : k < (tK each t d k).length := by rw [tK_len hl (by omega)]; omega
      have HIO := hide hIO
      have HIB := hide hib
      have HYS := hide hys
      have HXS := hide hxs
      have HM3 := hide hm3
      have hst : (tK each t d k).set k (clrB xs ((allB ys each).take 0)) = tK each t d k := by
        have hg := tK_get (each := each) hl hxs
        have hg2 := (List.getElem?_eq_some_iff.1 hg).2
        simp only [List.take_zero, clrB, List.foldl_nil]
        rw [← hg2, List.set_getElem_self]
      have hsz2 := hE3.size
      clear hR1 hR2 hT hc2 hf2 hO2 hb2 HAL hIO hib hys hxs hm3 hn2l ce1 ct1 cd1 i2
      go_loopw [3, 25] (fun n j wq => ∃ q : Nat, q ≤ m3 ∧ n = .int .i64 ((firmN each (d.take k) + q : Nat) : Int) ∧ j = .int .i64 q ∧ RowsIs wq B g1 c1 ((tK each t d k).set k (clrB xs ((allB ys each).take q))) ∧ RowsIs wq B g2 c2 (dK each d k) ∧
        Own wq wo.heap.size 3 A3 m3 c3 (i64s (nI (allB ys each))) ∧ Turned [g1, g2] w wq) (fun _ j _ => m3 - (intOf j).toNat)
      case atStart => exact ⟨0, by omega, rfl, rfl, by rw [hst]; exact hR1', hR2', hO3, hT'⟩
      case round =>
        obtain ⟨q, hq, rfl, rfl, hR1, hR2, hO, hT⟩ := hrel
        have hszq := hT.size
        have ce1 := hT.cell ce (by simp; omega)
        have ct1 := hT.cell ct (by simp; omega)
        have cd1 := hT.cell cd (by simp; omega)
        by_cases hqt : q < m3
        · obtain ⟨iv, hiv⟩ : ∃ iv, (allB ys each)[q]? = some iv := ⟨_, List.getElem?_eq_getElem (by rw [HM3.out]; exact hqt)⟩
          have hivb := HIB.out q iv hiv
          have hsl := hO.sl
          obtain ⟨b9, o9, u9, hA9, hu9, hc9⟩ := hsl.at_ hqt
          have hu9' := hu9.out
          rw [HIO.out q iv hiv] at hu9'
          cases hu9'
          subst hA9
          obtain ⟨A, n, cA, hc, hf, hOr, hb⟩ := hR1.row (k := k) (xs := clrB xs ((allB ys each).take q)) (by rw [List.getElem?_set_self hkT])
          have hnl := hOr.len
          rw [by8_len, clrB_len] at hnl
          have hcl : clrB xs ((allB ys each).take (q + 1)) = withB (clrB xs ((allB ys each).take q)) iv false := by
            rw [List.take_add_one, hiv]; exact clrB_snoc _ _ _
          have HCL := hide hcl
          have hszo := hsl.nc
          have HW := hide (fun w' (hE : Ext wr w') => bits_With A n cA _ (iv : Int) false w' (hOr.sl.ext hE) hb (by omega) (by omega))
          have HBW := hide (hb.withB iv false)
          clear hcl hiv hO3 hOr hb hsl
          have i2 : (k : Int) < (t.length : Int) := by omega
          go_wp2_with fail
          refine piv_begin 15 (fun w' => w'.cell? ⟨g, o + 1, none⟩ = some (.slice (some ⟨g1, 0, none⟩) t.length c1) ∧ w'.cell? ⟨g1, k, none⟩ = some (.slice A n cA)) (by kernel_rfl) ⟨ct1, hc⟩ (fun hHeld => ?_)
          refine piv_take 0 rfl (by kernel_rfl) (by kernel_rfl) (by kernel_rfl) (by kernel_rfl) (by kernel_rfl) (fun _ _ _ _ h => h) (by rfl) ?_ ?_ (by assumption) ?_
          rotate_left
          · (intro wx hSx; (try dsimp only at hSx); go_simp)
            all_goals with_reducible rfl
          (try simp only [Act.put, List.setIfInBounds_toArray, List.set_cons_zero, List.set_cons_succ])
          refine piv_take 1 rfl (by kernel_rfl) (by kernel_rfl) (by kernel_rfl) (by kernel_rfl) (by kernel_rfl) (fun _ _ _ _ h => h) (by rfl) ?_ ?_ (by assumption) ?_
          rotate_left
          · (intro wx hSx; (try dsimp only at hSx); go_simp)
            all_goals with_reducible rfl
          (try simp only [Act.put, List.setIfInBounds_toArray, List.set_cons_zero, List.set_cons_succ])
          refine piv_take 2 rfl (by kernel_rfl) (by kernel_rfl) (by kernel_rfl) (by kernel_rfl) (by kernel_rfl) (fun _ _ _ _ h => h) (by rfl) ?_ ?_ (by assumption) ?_
          rotate_left
          · (intro wx hSx; (try dsimp only at hSx); go_simp)
            all_goals with_reducible rfl
          (try simp only [Act.put, List.setIfInBounds_toArray, List.set_cons_zero, List.set_cons_succ])
          refine piv_take 3 rfl (by kernel_rfl) (by kernel_rfl) (by kernel_rfl) (by kernel_rfl) (by kernel_rfl) (fun _ _ _ _ h => h) (by rfl) ?_ ?_ (by assumption) ?_
          rotate_left
          · (intro wx hSx; (try dsimp only at hSx); go_simp)
            all_goals with_reducible rfl
          (try simp only [Act.put, List.setIfInBounds_toArray, List.set_cons_zero, List.set_cons_succ])
          refine piv_take 4 rfl (by kernel_rfl) (by kernel_rfl) (by kernel_rfl) (by kernel_rfl) (by kernel_rfl) (fun _ _ _ _ h => h) (by rfl) ?_ ?_ (by assumption) ?_
          rotate_left
          · (intro wx hSx; (try dsimp only at hSx); go_simp)
            all_goals with_reducible rfl
          (try simp only [Act.put, List.setIfInBounds_toArray, List.set_cons_zero, List.set_cons_succ])
          refine piv_take 5 rfl (by kernel_rfl) (by kernel_rfl) (by kernel_rfl) (by kernel_rfl) (by kernel_rfl) (fun _ _ _ _ h => h) (by rfl) ?_ ?_ (by assumption) ?_
          rotate_left
          · (intro wx hSx; (try dsimp only at hSx); go_simp)
            all_goals with_reducible rfl
          (try simp only [Act.put, List.setIfInBounds_toArray, List.set_cons_zero, List.set_cons_succ])
          refine piv_take 6 rfl (by kernel_rfl) (by kernel_rfl) (by kernel_rfl) (by kernel_rfl) (by kernel_rfl) (fun _ _ _ _ h => h) (by rfl) ?_ ?_ (by assumption) ?_
          rotate_left
          · (intro wx hSx; (try dsimp only at hSx); go_simp)
            all_goals with_reducible rfl
          (try simp only [Act.put, List.setIfInBounds_toArray, List.set_cons_zero, List.set_cons_succ])
          refine piv_take 7 rfl (by kernel_rfl) (by kernel_rfl) (by kernel_rfl) (by kernel_rfl) (by kernel_rfl) (fun _ _ _ _ h => h) (by rfl) ?_ ?_ (by assumption) ?_
          rotate_left
          · (intro wx hSx; (try dsimp only at hSx); go_simp)
            all_goals with_reducible rfl
          (try simp only [Act.put, List.setIfInBounds_toArray, List.set_cons_zero, List.set_cons_succ])
          refine piv_take 8 rfl (by kernel_rfl) (by kernel_rfl) (by kernel_rfl) (by kernel_rfl) (by kernel_rfl) (fun _ _ _ _ h => h) (by rfl) ?_ ?_ (by assumption) ?_
          rotate_left
          · (intro wx hSx; (try dsimp only at hSx); go_simp)
            all_goals with_reducible rfl
          (try simp only [Act.put, List.setIfInBounds_toArray, List.set_cons_zero, List.set_cons_succ])
          refine piv_take 9 rfl (by kernel_rfl) (by kernel_rfl) (by kernel_rfl) (by kernel_rfl) (by kernel_rfl) (fun _ _ _ _ h => h) (by rfl) ?_ ?_ (by assumption) ?_
          rotate_left
          · (intro wx hSx; (try dsimp only at hSx); go_simp)
            all_goals with_reducible rfl
          (try simp only [Act.put, List.setIfInBounds_toArray, List.set_cons_zero, List.set_cons_succ])
          refine piv_take 10 rfl (by kernel_rfl) (by kernel_rfl) (by kernel_rfl) (by kernel_rfl) (by kernel_rfl) (fun _ _ _ _ h => h) (by rfl) ?_ ?_ (by assumption) ?_
          rotate_left
          · (intro wx hSx; (try dsimp only at hSx); go_simp)
            all_goals with_reducible rfl
          (try simp only [Act.put, List.setIfInBounds_toArray, List.set_cons_zero, List.set_cons_succ])
          refine piv_take 11 rfl (by kernel_rfl) (by kernel_rfl) (by kernel_rfl) (by kernel_rfl) (by kernel_rfl) (fun _ _ _ _ h => h) (by rfl) ?_ ?_ (by assumption) ?_
          rotate_left
          · (intro wx hSx; (try dsimp only at hSx); go_simp)
            all_goals with_reducible rfl
          (try simp only [Act.put, List.setIfInBounds_toArray, List.set_cons_zero, List.set_cons_succ])
          refine piv_take 12 rfl (by kernel_rfl) (by kernel_rfl) (by kernel_rfl) (by kernel_rfl) (by kernel_rfl) (fun _ _ _ _ h => h) (by rfl) ?_ ?_ (by assumption) ?_
          rotate_left
          · (intro wx hSx; (try dsimp only at hSx); go_simp)
            all_goals with_reducible rfl
          (try simp only [Act.put, List.setIfInBounds_toArray, List.set_cons_zero, List.set_cons_succ])
          refine piv_one 13 rfl (by kernel_rfl) (fun K hK => ?_)
          go_simp
          go_at_call 34
          refine (HW.out _ (Ext.refl wr).drew).mono ?_
          rintro e w4 ⟨A4, c4, rfl, hO4, hE4⟩
          go_wp2_with fail
          have hE4' := ((Ext.refl wr).drew).trans hE4
          refine hK.out _ _ ⟨hE4'.cell ct1, hE4'.cell hc⟩ (fun hHeld => ?_)
          clear hK K
          (try simp only [Act.put, List.setIfInBounds_toArray, List.set_cons_zero, List.set_cons_succ])
          have cc4 := hE4'.cell hc
          have cf4 := (hE4'.frozen (World.block_lt_of_cell? _ _ hc)).trans hf
          refine piv_one 14 rfl (by kernel_rfl) (fun K hK => ?_)
          go_simp
          refine hK.out _ _ ⟨hE4'.cell ct1, hE4'.cell hc⟩ (fun hHeld => ?_)
          clear hK K
          (try simp only [Act.put, List.setIfInBounds_toArray, List.set_cons_zero, List.set_cons_succ])
          refine piv_late 15 rfl (by kernel_rfl) (by kernel_rfl) (fun K hK => ?_)
          go_simp
          refine hK.out _ _ ?_
          clear hK K
          (try simp only [Act.put, List.setIfInBounds_toArray, List.set_cons_zero, List.set_cons_succ])
          refine piv_done (by kernel_rfl) ?_ _
          obtain ⟨hP1, hP2⟩ := put_row (k := k) hR1 hE4' hO4 (by rw [if_pos (by omega), Int.toNat_natCast]) HBW.out (Nat.le_trans hB hszq)
          rw [List.set_set, ← HCL.out] at hP1
          have hP3 := hR2.turn hP2 (by simp; omega) (SpaceAt.no8 hR1)
          have hP4 := hP2.own hO (hO.off (hR1.notag (by decide)))
          have hP5 := hT.trans (hP2.mono (by simp))
          go_wp2_with fail
          go_roundw
          case rel => exact ⟨q + 1, by omega, by go_num, by go_num, hP1, hP3, hP4, hP5⟩
          case measure => simp [intOf]; omega
        · obtain rfl : q = m3 := by omega
          have hX := tK_set (each := each) hl HXS.out HYS.out
          unfold firmR at hX
          rw [List.take_of_length_le (by rw [HM3.out]; exact Nat.le_refl _), hX] at hR1
          obtain ⟨A5, n5, cA5, hc5, hf5, hO5, hb5⟩ := hR2.row (dK_get (each := each) HYS.out)
          have hszo := hO.sl.nc
          have HOF := hide (fun w1 => bits_Of each (each : Int) rfl none 0 0 [] w1 (Sl.nilS _) (by simp) hle)
          have HNX := hide (firmN_succ (each := each) HYS.out)
          have HDX := hide (dK_set (each := each) HYS.out)
          have i2 : (k : Int) < (d.length : Int) := by omega
          clear hX hO5 hb5 hO
          go_wp2_with fail
          go_region_held3 (fun w' => w'.cell? ⟨g, o + 2, none⟩ = some (.slice (some ⟨g2, 0, none⟩) d.length c2) ∧ w'.cell? ⟨g, o, none⟩ = some (.int .i64 (each : Int)))
            (first | go_keep | (exact ⟨hE6'.cell cd1, hE6'.cell ce1⟩) | (exact ⟨(Turned.setCell w6 g2 k _).cell (hE6'.cell cd1) (by simp; omega), (Turned.setCell w6 g2 k _).cell (hE6'.cell ce1) (by simp; omega)⟩))
            ((go_at_call 57; refine (HOF.out _).mono ?_; rintro e w6 ⟨A6, c6, rfl, hO6, hE6⟩; have hE6' := ((Ext.refl wr).drew).trans hE6; have cc6 := hE6'.cell hc5; have cf6 := (hE6'.frozen (World.block_lt_of_cell? _ _ hc5)).trans hf5))
          go_wp2_with fail
          obtain ⟨hP1, hP2⟩ := put_row (k := k) hR2 hE6' hO6 rfl (Bytes.rep _) (Nat.le_trans hB hszq)
          rw [zr_of, HDX.out] at hP1
          have hP3 := hR1.turn hP2 (by simp; omega) (SpaceAt.no8 hR2)
          have hP5 := hT.trans (hP2.mono (by simp))
          go_roundw
          case rel => exact ⟨k + 1, by omega, by rw [HNX.out, HM3.out]; exact congrArg _ (by omega), by go_num, hP3, hP1, hP5⟩
          case measure => simp [intOf]; omega
    · obtain rfl : k = d.length := by omega
      go_wp2_with fail
      go_ret
      refine ⟨retI (by rw [List.take_of_length_le (Nat.le_refl _)]), ?_, ?_, hT⟩
      · have e : tK each t d d.length = firmT each t d := by
          unfold tK
          rw [← hl, List.take_of_length_le (Nat.le_refl _), List.take_of_length_le (by omega), List.drop_eq_nil_of_le (Nat.le_refl _), List.append_nil]
        rw [e] at hR1
        exact hR1
      · have e : dK each d d.length = List.replicate d.length (zr each) := by
          unfold dK
          rw [List.drop_eq_nil_of_le (Nat.le_refl _), List.append_nil]
        rw [e] at hR2
        exact hR2
end Go.Proofs.Ytillhbbeghbfeaa
