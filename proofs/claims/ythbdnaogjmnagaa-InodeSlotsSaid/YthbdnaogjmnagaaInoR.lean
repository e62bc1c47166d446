/- Contracts of inodes: bytes that are read. -/
import Derived.Test.YthbdnaogjmnagaaInoL
import Derived.Deep.DeepCutAuto
namespace Go.Proofs.Ythbdnaogjmnagaa
set_option linter.unusedVariables false
open Go.RowKit

theorem or_low {x y : Nat} (hx : x < 281474976710656) (hy : y < 256) : bits .or .i64 ((x : Int) * 256) (y : Int) = ((x * 256 + y : Nat) : Int) := by
  have e1 : (x * 256) ||| y = x * 256 + y := by
    rw [show x * 256 = 2 ^ 8 * x from by rw [Nat.mul_comm]]
    exact (Nat.two_pow_add_eq_or_of_lt hy x).symm
  show IntKind.i64.wrap ((BitVec.ofInt 64 ((x : Int) * 256) ||| BitVec.ofInt 64 (y : Int)).toNat : Int) = _
  rw [show ((x : Int) * 256) = ((x * 256 : Nat) : Int) from by simp, BitVec.ofInt_natCast, BitVec.ofInt_natCast, BitVec.toNat_or, BitVec.toNat_ofNat, BitVec.toNat_ofNat, Nat.mod_eq_of_lt (by omega), Nat.mod_eq_of_lt (by omega), e1]
  rw [IntWalk.i64_in _ (by omega)]
theorem or_high {x y : Nat} (hx : x < 65536) (hy : y < 65536) : bits .or .i64 ((x : Int) * 65536) (y : Int) = ((x * 65536 + y : Nat) : Int) := by
  have e1 : (x * 65536) ||| y = x * 65536 + y := by
    rw [show x * 65536 = 2 ^ 16 * x from by rw [Nat.mul_comm]]
    exact (Nat.two_pow_add_eq_or_of_lt hy x).symm
  show IntKind.i64.wrap ((BitVec.ofInt 64 ((x : Int) * 65536) ||| BitVec.ofInt 64 (y : Int)).toNat : Int) = _
  rw [show ((x : Int) * 65536) = ((x * 65536 : Nat) : Int) from by simp, BitVec.ofInt_natCast, BitVec.ofInt_natCast, BitVec.toNat_or, BitVec.toNat_ofNat, BitVec.toNat_ofNat, Nat.mod_eq_of_lt (by omega), Nat.mod_eq_of_lt (by omega), e1]
  rw [IntWalk.i64_in _ (by omega)]
theorem gN_succ {xs : List Nat} {j m x : Nat} (h : xs[j + m]? = some x) : gN xs j (m + 1) = gN xs j m * 256 + x := by
  unfold gN
  rw [List.take_add_one, List.getElem?_drop, h]
  exact numB_snoc _ _
theorem gN_lt4 {xs : List Nat} (h : Bytes xs) (j : Nat) {m : Nat} (hm : m ≤ 4) : gN xs j m < 4294967296 := by
  have h1 := gN_lt h j m
  have h2 : 256 ^ m ≤ 256 ^ 4 := Nat.pow_le_pow_right (by omega) hm
  omega

set_option maxRecDepth 100000 in
set_option maxHeartbeats 1000000 in
theorem inode_number (w : World) (g b o n c : Nat) (xs : List Nat) (hc : w.cell? ⟨g, 0, none⟩ = some (.slice (some ⟨b, o, none⟩) n c)) (hf : w.frozen? ⟨g, 0, none⟩ = false) (hS : Sl w (some ⟨b, o, none⟩) n c (by8 xs)) (hb : Bytes xs)
    (M : Int) (m : Nat) (hM : M = m) (hm : m ≤ 4) (hmn : m ≤ n) (hmc : m < c) :
    Calls Try.prog 66 #[.pointer (some ⟨g, 0, none⟩), .int .i64 M] w fun e w' => e = .returned (.int .i64 (gN xs 0 m : Nat)) ∧ w' = w.setCell ⟨g, 0, none⟩ (.slice (some ⟨b, o + m, none⟩) (n - m) (c - m)) := by
  subst hM
  have hcm := hS.cm
  have hnc := hS.nc
  have hi0 : (0 : Int) ≤ (m : Int) := by omega
  have hi1 : (m : Int) ≤ (c : Int) := by omega
  have hi2 : (m : Int) ≤ (n : Int) := by omega
  have hi3 : ¬ c = m := by omega
  go_enter Try.func66, Try.ntmps66
  go_wp2
  go_loop [5, 7, 14] (fun v _ i => ∃ k : Nat, k ≤ m ∧ i = .int .i64 k ∧ v = .int .i64 (gN xs 0 k : Nat)) (fun _ _ i => m - (intOf i).toNat)
  case atStart => exact ⟨0, by omega, rfl, rfl⟩
  case round =>
    obtain ⟨k, hk, rfl, rfl⟩ := hrel
    by_cases hlt : k < m
    · obtain ⟨b', o', x, hA, hx, hcx, hx2⟩ := hS.at8 hb (show k < n by omega)
      simp at hA
      obtain ⟨rfl, rfl⟩ := hA
      have hs := gN_succ (xs := xs) (j := 0) (m := k) (x := x) (by rw [Nat.zero_add]; exact hx.out)
      have HS := hide hs
      have hl := gN_lt4 hb 0 (show k ≤ 4 by omega)
      have hl2 := gN_lt4 hb 0 (show k + 1 ≤ 4 by omega)
      have hor := or_low (x := gN xs 0 k) (y := x) (by omega) hx2
      rw [← hs] at hor
      rw [hs] at hl2
      clear hs
      generalize gN xs 0 k = v at *
      go_wp2
      go_round
      case rel => exact ⟨k + 1, by omega, by go_num, rfl⟩
      case measure => simp [intOf]; omega
    · obtain rfl : k = m := by omega
      go_wp2
      go_ret
      exact ⟨rfl, rfl⟩

set_option maxHeartbeats 1000000 in
theorem ref7_at (w : World) (A : Option Addr) (n c : Nat) (xs : List Nat) (hS : Sl w A n c (by8 xs)) (hb : Bytes xs) (K : Int) (k : Nat) (hK : K = k) (hk : k + 1 < n) :
    Calls Try.prog 69 #[.slice A n c, .int .i64 K] w fun e w' => e = .returned (.int .i64 (gN xs k 2 : Nat)) ∧ ∃ q, w' = w.drewN q := by
  subst hK
  obtain ⟨b, o, x, rfl, hx, hcx, hx2⟩ := hS.at8 hb (show k < n by omega)
  obtain ⟨b', o', y, hA, hy, hcy, hy2⟩ := hS.at8 hb (show k + 1 < n by omega)
  simp at hA
  obtain ⟨rfl, rfl⟩ := hA
  have hcm := hS.cm
  have hnc := hS.nc
  have h1 := gN_succ (xs := xs) (j := k) (m := 1) (x := y) hy.out
  have h0 := gN_succ (xs := xs) (j := k) (m := 0) (x := x) hx.out
  have hor := or_bytes hx2 hy2
  have hv : gN xs k 2 = x * 256 + y := by rw [show (2 : Nat) = 1 + 1 from rfl, h1, h0]; simp [gN, numB]
  have HV := hide hv
  have hi0 : (0 : Int) ≤ (k : Int) := by omega
  have hi1 : (k : Int) < (n : Int) := by omega
  have hi2 : (0 : Int) ≤ (k : Int) + 1 := by omega
  have hi3 : (k : Int) + 1 < (n : Int) := by omega
  have e1 : IntKind.i64.wrap ((k : Int) + 1) = (k : Int) + 1 := IntWalk.i64_in _ (by omega)
  have e2 : ((k : Int) + 1).toNat = k + 1 := by omega
  have e3 : IntKind.i64.wrap ((x : Int) * 256) = (x : Int) * 256 := IntWalk.i64_in _ (by omega)
  have hcy' : w.cell? ⟨b, o + (k + 1), none⟩ = some (.int .u8 (y : Int)) := hcy
  clear h1 h0 hv
  go_enter Try.func69, Try.ntmps69
  go_wp2
  go_quiet (fail)
  go_wp2
  go_ret
  exact ⟨ret_int (by rw [HV.out]; simp), nq, rfl⟩
/-- A number out of the body's bytes: the slice that is kept goes on. -/
theorem inode_num (w : World) (B e g gb cb j : Nat) (bs : List Nat) (hS : Sl w (some ⟨gb, 0, none⟩) 123 cb (by8 bs)) (hb : Bytes bs) (M : Int) (m : Nat) (hM : M = m) (hm : m ≤ 4) (hj : j + m ≤ 122)
    (hR : Own w B e (some ⟨g, 0, none⟩) 1 1 [.slice (some ⟨gb, j, none⟩) (123 - j) (cb - j)]) :
    Calls Try.prog 66 #[.pointer (some ⟨g, 0, none⟩), .int .i64 M] w fun e' w' => e' = .returned (.int .i64 (gN bs j m : Nat)) ∧
      Own w' B e (some ⟨g, 0, none⟩) 1 1 [.slice (some ⟨gb, j + m, none⟩) (123 - (j + m)) (cb - (j + m))] ∧ w' = w.setCell ⟨g, 0, none⟩ (.slice (some ⟨gb, j + m, none⟩) (123 - (j + m)) (cb - (j + m))) := by
  have hnc := hS.nc
  have h1 := hS.cut (l := j) (by omega)
  rw [if_neg (by omega), by8_drop] at h1
  have h2 : Sl w (some ⟨gb, j, none⟩) (123 - j) (cb - j) (by8 (bs.drop j)) := by simpa [Addr.add_lit] using h1
  refine (inode_number w g gb j (123 - j) (cb - j) (bs.drop j) (hR.cellAt 0 (by omega)) (hR.frozenAt 0) h2 (hb.drop j) M m hM hm (by omega) (by omega)).mono ?_
  rintro e' w' ⟨rfl, rfl⟩
  rw [gN_drop, Nat.add_zero, Nat.sub_sub, Nat.sub_sub]
  exact ⟨rfl, hR.store 0 _ rfl, rfl⟩


theorem alloc_slice (w : World) (v : Value) : (Own (w.alloc (.cells #[v] 35)) w.heap.size 35 (some ⟨w.heap.size, 0, none⟩) 1 1 [v]) ∨ v.oneCell' ≠ true := by
  by_cases h : v.oneCell' = true
  · left
    exact Own.made (Nat.le_refl _) #[v] 1 (by simp [maxLen]) (Nat.le_refl _) rfl (by simpa using h)
  · exact .inr h
/-- What of four is read so far. -/
def soA (b : List Nat) (k : Nat) : List Int := rdA b k ++ List.replicate (44 - 11 * k) 0
theorem soA_len (b : List Nat) {k : Nat} (hk : k ≤ 4) : (soA b k).length = 44 := by simp [soA, rdA_len]; omega
theorem soA_zero (b : List Nat) : soA b 0 = z44 := by simp [soA, rdA, z44]
theorem soA_four (b : List Nat) : soA b 4 = rdA b 4 := by simp [soA]
theorem soA_step (b : List Nat) {k : Nat} (hk : k < 4) : (i64s (soA b k)).take (k * 11) ++ i64s (rdI b (k * 23)) ++ (i64s (soA b k)).drop (k * 11 + (i64s (rdI b (k * 23))).length) = i64s (soA b (k + 1)) := by
  have hl := rdA_len b k
  rw [i64s_len, rdI_len]
  have e1 : (soA b k).take (k * 11) = rdA b k := by unfold soA; rw [List.take_append_of_le_length (by omega), List.take_of_length_le (by omega)]
  have e2 : (soA b k).drop (k * 11 + 11) = List.replicate (44 - 11 * (k + 1)) 0 := by
    unfold soA
    rw [List.drop_append, List.drop_of_length_le (by omega), List.nil_append, List.drop_replicate]
    congr 1; omega
  have t1 : (i64s (soA b k)).take (k * 11) = i64s ((soA b k).take (k * 11)) := by simp [i64s, List.map_take]
  have t2 : (i64s (soA b k)).drop (k * 11 + 11) = i64s ((soA b k).drop (k * 11 + 11)) := by simp [i64s, List.map_drop]
  rw [t1, t2, e1, e2, ← i64s_append, ← i64s_append]
  unfold soA
  rw [rdA_succ]
/-- What of an inode is read so far. -/
def soI (b : List Nat) (q k : Nat) : List Int := [((gN b q 1 : Nat) : Int), ((gN b (q + 1) 2 : Nat) : Int), ((gN b (q + 3) 4 : Nat) : Int)] ++ ((List.range k).map fun k => ((gN b (q + 7 + 2 * k) 2 : Nat) : Int)) ++ List.replicate (8 - k) 0
theorem soI_len (b : List Nat) (q : Nat) {k : Nat} (hk : k ≤ 8) : (soI b q k).length = 11 := by simp [soI]; omega
theorem soI_eight (b : List Nat) (q : Nat) : soI b q 8 = rdI b q := by simp [soI, rdI]
theorem soI_step (b : List Nat) (q : Nat) {k : Nat} (hk : k < 8) : (soI b q k).set (3 + k) ((gN b (q + 7 + 2 * k) 2 : Nat) : Int) = soI b q (k + 1) := by
  unfold soI
  rw [List.set_append_right _ _ (by simp; omega)]
  simp only [List.length_append, List.length_cons, List.length_nil, List.length_map, List.length_range]
  rw [show 3 + k - (0 + 1 + 1 + 1 + k) = 0 from by omega, show 8 - k = (8 - (k + 1)) + 1 from by omega, List.replicate_succ, List.set_cons_zero, List.range_succ]
  simp

theorem layIE_or (is : List Int) : layIE is = 0 ∨ layIE is = 2 := by unfold layIE; split <;> simp
theorem Bytes.layIL (is : List Int) : Bytes (layIL is) := by
  unfold Go.Proofs.Ythbdnaogjmnagaa.layIL
  split
  · exact Bytes.sealOf (by omega) (Bytes.layB _ _)
  · exact Bytes.nil
set_option maxRecDepth 100000 in
set_option maxHeartbeats 2000000 in
theorem inode_Read (A : Option Addr) (n c : Nat) (xs : List Nat) (w : World) (h : Sl w A n c (by8 xs)) (hb : Bytes xs) :
    Calls Try.prog 47 #[.slice A n c] w fun e w' => e = .returned (.tuple #[.agg (i64s (rdL xs)).toArray, .int .i64 (rdE xs : Nat)]) ∧ Ext w w' := by
  by_cases hk : kindOf xs = 73
  case neg =>
    have hno : ¬ rdOk xs := fun h => hk h.1
    have H12 := hide (And.intro (show rdL xs = z44 from if_neg hno) (show rdE xs = 3 from if_neg hno))
    have hO := fun w1 (hE : Ext w w1) => seal_Open_no 73 A n c xs w1 (h.ext hE) hb (.inr hk)
    clear hno hk
    go_enter Try.func47, Try.ntmps47
    go_wp2_with (with_reducible refine ag_alloc (o := ⟨some 2, _, _, _, _, _⟩) rfl 49 rfl _ 44 zero_inodes rfl (by omega) (i64s_one _) w.heap.size (Nat.le_refl _) ?_; intro w1 hR1 hE1 hz1)
    refine (hO _ hE1).mono ?_
    rintro e w2 ⟨rfl, hE2⟩
    have hR2 := hR1.ext hE2
    go_wp2_with (first
      | (with_reducible refine ag_zero rfl 49 rfl _ (bld_inodes _) ?_)
      | (with_reducible refine ag_store (o := ⟨none, _, _, _, _, _⟩) rfl 49 (.tmp 2) (.tmp 20) rfl w.heap.size 44 w.heap.size 49 _ (i64s z44) rfl rfl hR2 rfl (i64s_one _) info_inodes ?_; intro w3 hR3 hG3))
    have hF3 := (hE1.trans hE2).grown hG3 (by simp)
    rw [H12.out.1, H12.out.2]
    exact bodyPost_ret (results_agg rfl _ rfl rfl hR3 agg_inodes info_inodes) rfl ⟨rfl, hF3⟩
  have hl := kind_len (xs := xs) (by omega)
  have hbl : (bodyOf xs).length = 123 := bodyOf_len hl
  have hbb : Bytes (bodyOf xs) := (hb.drop 1).take 123
  have HK := hide hk
  have HBL := hide hbl
  clear hk hl hbl
  go_enter Try.func47, Try.ntmps47
  go_wp2_with (with_reducible refine ag_alloc (o := ⟨some 2, _, _, _, _, _⟩) rfl 49 rfl _ 44 zero_inodes rfl (by omega) (i64s_one _) w.heap.size (Nat.le_refl _) ?_; intro w1 hR1 hE1 hz1)
  refine (seal_Open 73 _ _ _ xs _ (h.ext hE1) hb (by omega) HK.out).mono ?_
  rintro e w2 ⟨gb, cb, rfl, hO2, hE2⟩
  have hz2 := hE2.size
  have hRD := rdOk_lay HK.out
  have HRD := hide hRD
  have hnb := hO2.sl.nc
  clear hRD
  have r1 : rdOk xs → rdL xs = rdA (bodyOf xs) 4 ∧ rdE xs = 0 := fun h => ⟨if_pos h, if_pos h⟩
  have r2 : ¬ rdOk xs → rdL xs = z44 ∧ rdE xs = 3 := fun h => ⟨if_neg h, if_neg h⟩
  have HR := hide (And.intro r1 r2)
  clear r1 r2
  generalize bodyOf xs = bs at *
  go_wp2_with (with_reducible refine ag_alloc (o := ⟨some 6, _, _, _, _, _⟩) rfl 49 rfl _ 44 zero_inodes rfl (by omega) (i64s_one _) w2.heap.size (Nat.le_refl _) ?_; intro w3 hP3 hE3 hz3)
  go_loopw [21] (fun i wr => ∃ k : Nat, k ≤ 4 ∧ i = .int .i64 k ∧ Own wr w2.heap.size 49 (some ⟨w2.heap.size, 0, none⟩) 44 44 (i64s (soA bs k)) ∧ Ext w2 wr) (fun i _ => 4 - (intOf i).toNat)
  case atStart => exact ⟨0, by omega, rfl, by rw [soA_zero]; exact hP3, hE3⟩
  case round =>
    clear hP3 hE3 hz3
    obtain ⟨k, hk, rfl, hP, hE⟩ := hrel
    by_cases hlt : k < 4
    · have hB := (hO2.ext hE).sl
      have hi0 : (0 : Int) ≤ (k : Int) * 23 := by omega
      have hi1 : (k : Int) * 23 ≤ 123 := by omega
      have hi2 : (k : Int) * 23 ≤ (cb : Int) := by omega
      have hi3 : ¬ cb = k * 23 := by omega
      go_wp2_with fail
      have hR0 : Own (wr.alloc (.cells #[.slice (some ⟨gb, k * 23, none⟩) (123 - k * 23) (cb - k * 23)] 35)) wr.heap.size 35 (some ⟨wr.heap.size, 0, none⟩) 1 1 [.slice (some ⟨gb, k * 23, none⟩) (123 - k * 23) (cb - k * 23)] :=
        Own.made (Nat.le_refl _) #[.slice (some ⟨gb, k * 23, none⟩) (123 - k * 23) (cb - k * 23)] 1 (by simp [maxLen]) (Nat.le_refl _) rfl (by simp [Value.oneCell'])
      obtain ⟨hR, hF⟩ := And.intro hR0 ((Ext.refl wr).alloc (.cells #[.slice (some ⟨gb, k * 23, none⟩) (123 - k * 23) (cb - k * 23)] 35))
      have hS := hB.ext hF
      clear hR0 hi0 hi1 hi2 hi3
      generalize wr.alloc (.cells #[.slice (some ⟨gb, k * 23, none⟩) (123 - k * 23) (cb - k * 23)] 35) = w5 at *
      refine (inode_num _ _ _ _ gb cb (k * 23) bs hS hbb 1 1 rfl (by omega) (by omega) hR).mono ?_
      rintro e w6 ⟨rfl, hR', hw'⟩
      have hF' : Ext wr w6 := by rw [hw']; exact hF.setCell (by simp) _
      clear hw' hR hF hS
      obtain ⟨hR, hF⟩ := And.intro hR' hF'
      have hS := hB.ext hF
      clear hR' hF'
      go_wp2_with fail
      refine (inode_num _ _ _ _ gb cb (k * 23 + 1) bs hS hbb 2 2 rfl (by omega) (by omega) hR).mono ?_
      rintro e w7 ⟨rfl, hR', hw'⟩
      have hF' : Ext wr w7 := by rw [hw']; exact hF.setCell (by simp) _
      clear hw' hR hF hS
      obtain ⟨hR, hF⟩ := And.intro hR' hF'
      have hS := hB.ext hF
      clear hR' hF'
      go_wp2_with fail
      refine (inode_num _ _ _ _ gb cb (k * 23 + 1 + 2) bs hS hbb 4 4 rfl (by omega) (by omega) hR).mono ?_
      rintro e w8 ⟨rfl, hR', hw'⟩
      have hF' : Ext wr w8 := by rw [hw']; exact hF.setCell (by simp) _
      clear hw' hR hF hS
      obtain ⟨hR, hF⟩ := And.intro hR' hF'
      have hS := hB.ext hF
      clear hR' hF'
      go_wp2_with fail
      obtain ⟨wo, rfl⟩ : ∃ wo : World, wo = wr := ⟨_, rfl⟩
      have hI0 : Own (w8.alloc (.cells #[.int .i64 (gN bs (k * 23) 1 : Nat), .int .i64 (gN bs (k * 23 + 1) 2 : Nat), .int .i64 (gN bs (k * 23 + 1 + 2) 4 : Nat), .int .i64 0, .int .i64 0, .int .i64 0, .int .i64 0, .int .i64 0, .int .i64 0, .int .i64 0, .int .i64 0] 48)) w8.heap.size 48 (some ⟨w8.heap.size, 0, none⟩) 11 11 (i64s (soI bs (k * 23) 0)) :=
        Own.made (Nat.le_refl _) #[.int .i64 (gN bs (k * 23) 1 : Nat), .int .i64 (gN bs (k * 23 + 1) 2 : Nat), .int .i64 (gN bs (k * 23 + 1 + 2) 4 : Nat), .int .i64 0, .int .i64 0, .int .i64 0, .int .i64 0, .int .i64 0, .int .i64 0, .int .i64 0, .int .i64 0] 11 (by simp [maxLen]) (Nat.le_refl _) rfl (by simp [Value.oneCell'])
      have hlt8 : wo.heap.size < w8.heap.size := (hR.block wo.heap.size rfl).2
      obtain ⟨hR1, hF1, hI⟩ := And.intro (hR.ext ((Ext.refl w8).alloc (.cells #[.int .i64 (gN bs (k * 23) 1 : Nat), .int .i64 (gN bs (k * 23 + 1) 2 : Nat), .int .i64 (gN bs (k * 23 + 1 + 2) 4 : Nat), .int .i64 0, .int .i64 0, .int .i64 0, .int .i64 0, .int .i64 0, .int .i64 0, .int .i64 0, .int .i64 0] 48))) (And.intro (hF.trans ((Ext.refl w8).alloc (.cells #[.int .i64 (gN bs (k * 23) 1 : Nat), .int .i64 (gN bs (k * 23 + 1) 2 : Nat), .int .i64 (gN bs (k * 23 + 1 + 2) 4 : Nat), .int .i64 0, .int .i64 0, .int .i64 0, .int .i64 0, .int .i64 0, .int .i64 0, .int .i64 0, .int .i64 0] 48))) (hI0.low (show wo.heap.size ≤ w8.heap.size by omega)))
      clear hR hF hS hI0
      obtain ⟨hR, hF⟩ := And.intro hR1 hF1
      clear hR1 hF1
      generalize w8.alloc (.cells #[.int .i64 (gN bs (k * 23) 1 : Nat), .int .i64 (gN bs (k * 23 + 1) 2 : Nat), .int .i64 (gN bs (k * 23 + 1 + 2) 4 : Nat), .int .i64 0, .int .i64 0, .int .i64 0, .int .i64 0, .int .i64 0, .int .i64 0, .int .i64 0, .int .i64 0] 48) = w9 at *
      generalize w8.heap.size = gi at *
      rw [show k * 23 + 1 + 2 + 4 = k * 23 + 7 + 2 * 0 from by omega] at hR
      go_loopw [10, 32] (fun _ j wy => ∃ q : Nat, q ≤ 6 ∧ j = .int .i64 q ∧ Own wy wo.heap.size 35 (some ⟨wo.heap.size, 0, none⟩) 1 1 [.slice (some ⟨gb, k * 23 + 7 + 2 * q, none⟩) (123 - (k * 23 + 7 + 2 * q)) (cb - (k * 23 + 7 + 2 * q))] ∧
        Own wy wo.heap.size 48 (some ⟨gi, 0, none⟩) 11 11 (i64s (soI bs (k * 23) q)) ∧ Ext wo wy) (fun _ j _ => 6 - (intOf j).toNat)
      case atStart => exact ⟨0, by omega, rfl, hR, hI, hF⟩
      case round =>
        clear hR hI hF
        obtain ⟨q, hq, rfl, hR, hI, hF⟩ := hrel
        have hS := hB.ext hF
        by_cases hlt2 : q < 6
        · have hi2 : (q : Int) < 6 := by omega
          go_wp2_with fail
          refine (inode_num _ _ _ _ gb cb (k * 23 + 7 + 2 * q) bs hS hbb 2 2 rfl (by omega) (by omega) hR).mono ?_
          rintro e wz ⟨rfl, hR', hw'⟩
          have hF' : Ext wo wz := by rw [hw']; exact hF.setCell (Nat.le_refl _) _
          have hI' : Own wz wo.heap.size 48 (some ⟨gi, 0, none⟩) 11 11 (i64s (soI bs (k * 23) q)) := by rw [hw']; exact hI.other (by omega) 0 _
          clear hw' hR hF hS hI
          obtain ⟨hR, hF, hI⟩ := And.intro hR' (And.intro hF' hI')
          have hS := hB.ext hF
          clear hR' hF' hI'
          have hc' := hI.atN (3 + q) (by omega)
          have hf' := hI.frozenAt (3 + q)
          have hI' := hI.store (3 + q) (.int .i64 ((gN bs (k * 23 + 7 + 2 * q) 2 : Nat))) rfl
          rw [i64s_set, soI_step bs (k * 23) (show q < 8 by omega)] at hI'
          have hR' := hR.other (g := gi) (by omega) (3 + q) (.int .i64 ((gN bs (k * 23 + 7 + 2 * q) 2 : Nat)))
          have hF' := hF.setCell (p := ⟨gi, 3 + q, none⟩) (by simp; omega) (.int .i64 ((gN bs (k * 23 + 7 + 2 * q) 2 : Nat)))
          clear hR hF hS hI
          go_wp2
          go_roundw
          case rel => exact ⟨q + 1, by omega, by go_num, hR', hI', hF'⟩
          case measure => simp [intOf]; omega
        · obtain rfl : q = 6 := by omega
          go_wp2_with fail
          refine (inode_num _ _ _ _ gb cb (k * 23 + 7 + 2 * 6) bs hS hbb 2 2 rfl (by omega) (by omega) hR).mono ?_
          rintro e wz ⟨rfl, hR', hw'⟩
          have hF' : Ext wo wz := by rw [hw']; exact hF.setCell (Nat.le_refl _) _
          have hI' : Own wz wo.heap.size 48 (some ⟨gi, 0, none⟩) 11 11 (i64s (soI bs (k * 23) 6)) := by rw [hw']; exact hI.other (by omega) 0 _
          clear hw' hR hF hS hI
          obtain ⟨hR, hF, hI⟩ := And.intro hR' (And.intro hF' hI')
          have hS := hB.ext hF
          clear hR' hF' hI'
          have hc' := hI.atN (9) (by omega)
          have hf' := hI.frozenAt (9)
          have hI' := hI.store (9) (.int .i64 ((gN bs (k * 23 + 7 + 2 * 6) 2 : Nat))) rfl
          rw [i64s_set, soI_step bs (k * 23) (show 6 < 8 by omega)] at hI'
          have hR' := hR.other (g := gi) (by omega) (9) (.int .i64 ((gN bs (k * 23 + 7 + 2 * 6) 2 : Nat)))
          have hF' := hF.setCell (p := ⟨gi, 9, none⟩) (by simp; omega) (.int .i64 ((gN bs (k * 23 + 7 + 2 * 6) 2 : Nat)))
          go_upto_region 16 with fail
          clear hc' hf' hR hF hS hI
          generalize wz.setCell ⟨gi, 9, none⟩ (.int .i64 ((gN bs (k * 23 + 7 + 2 * 6) 2 : Nat))) = wa at *
          obtain ⟨hR, hF, hI⟩ := And.intro hR' (And.intro hF' hI')
          have hS := hB.ext hF
          clear hR' hF' hI'
          go_wp2_with fail
          refine (inode_num _ _ _ _ gb cb (k * 23 + 7 + 2 * 6 + 2) bs hS hbb 2 2 rfl (by omega) (by omega) hR).mono ?_
          rintro e wb ⟨rfl, hR', hw'⟩
          have hF' : Ext wo wb := by rw [hw']; exact hF.setCell (Nat.le_refl _) _
          have hI' : Own wb wo.heap.size 48 (some ⟨gi, 0, none⟩) 11 11 (i64s (soI bs (k * 23) 7)) := by rw [hw']; exact hI.other (by omega) 0 _
          clear hw' hR hF hS hI
          obtain ⟨hR, hF, hI⟩ := And.intro hR' (And.intro hF' hI')
          have hS := hB.ext hF
          clear hR' hF' hI'
          have hc' := hI.atN (10) (by omega)
          have hf' := hI.frozenAt (10)
          have hI' := hI.store (10) (.int .i64 ((gN bs (k * 23 + 7 + 2 * 7) 2 : Nat))) rfl
          rw [i64s_set, soI_step bs (k * 23) (show 7 < 8 by omega)] at hI'
          have hR' := hR.other (g := gi) (by omega) (10) (.int .i64 ((gN bs (k * 23 + 7 + 2 * 7) 2 : Nat)))
          have hF' := hF.setCell (p := ⟨gi, 10, none⟩) (by simp; omega) (.int .i64 ((gN bs (k * 23 + 7 + 2 * 7) 2 : Nat)))
          go_upto_region 17 with fail
          clear hc' hf' hR hF hS hI
          generalize wb.setCell ⟨gi, 10, none⟩ (.int .i64 ((gN bs (k * 23 + 7 + 2 * 7) 2 : Nat))) = wd at *
          obtain ⟨hR, hF, hI⟩ := And.intro hR' (And.intro hF' hI')
          have hS := hB.ext hF
          clear hR' hF' hI'
          rw [show 7 + 1 = 8 from rfl, soI_eight] at hI
          have hP2 := hP.ext hF
          have hst := soA_step bs hlt
          have HST := hide hst
          have hll : (i64s (rdI bs (k * 23))).length = 11 := i64s_len' (rdI_len _ _)
          have HLL := hide hll
          clear hst hll hR hS
          go_wp2_with (first
            | (with_reducible refine ag_load rfl 48 (.tmp 9) rfl gi 11 wo.heap.size 48 _ rfl hI agg_inode info_inode ?_)
            | (with_reducible refine ag_storeAt (o := ⟨none, _, _, _, _, _⟩) rfl 48 (.tmp 46) (.tmp 45) rfl w2.heap.size (k * 11) 44 44 w2.heap.size 49 (i64s (soA bs k)) (i64s (rdI bs (k * 23))) rfl rfl hP2 (by rw [HLL.out]; omega) (i64s_one _) (by rw [HLL.out]; exact info_inode) ?_; intro we hP3 hG3; rw [HST.out] at hP3; have hE3 := (hE.trans hF).grown hG3 (by simp)))
          go_roundw
          case rel => exact ⟨k + 1, by omega, by go_num, hP3, hE3⟩
          case measure => simp [intOf]; omega
    · obtain rfl : k = 4 := by omega
      rw [soA_four] at hP
      have hLay := fun w => inode_Lay (rdA bs 4) (rdA_len bs 4) w
      have hx := h.ext (hE1.trans (hE2.trans hE))
      have hR4 := hR1.ext (hE2.trans hE)
      have hF4 := hE1.trans (hE2.trans hE)
      go_wp2_with (with_reducible refine ag_load rfl 49 (.tmp 6) rfl w2.heap.size 44 w2.heap.size 49 _ rfl hP agg_inodes info_inodes ?_)
      refine (hLay _).mono ?_
      rintro e w5 ⟨A5, n5, c5, rfl, hn5, hO5, hE5⟩
      have hR5 := hR4.ext hE5
      have hP5 := hP.ext hE5
      have hF5 := hF4.trans hE5
      have hx5 := hx.ext hE5
      have bl := Bytes.layIL (rdA bs 4)
      clear hLay hR4 hP hF4 hx
      rcases layIE_or (rdA bs 4) with h0 | h2
      · rw [h0]
        by_cases heq : layIL (rdA bs 4) = xs
        · have HN := hide (HR.out.1 (HRD.out.2 ⟨h0, heq⟩))
          have hd := decide_eq_true heq
          clear h0 heq
          go_wp2_with fail
          refine (BEqual _ _ _ _ _ _ _ xs _ hO5.sl hx5 bl hb).mono ?_
          rintro e w6 ⟨rfl, rfl⟩
          rw [hd]
          go_wp2_with (first
            | (with_reducible refine ag_load rfl 49 (.tmp 6) rfl w2.heap.size 44 w2.heap.size 49 _ rfl hP5 agg_inodes info_inodes ?_)
            | (with_reducible refine ag_store (o := ⟨none, _, _, _, _, _⟩) rfl 49 (.tmp 2) (.tmp 62) rfl w.heap.size 44 w.heap.size 49 _ (i64s (rdA bs 4)) rfl rfl hR5 (i64s_len' (rdA_len _ _)) (i64s_one _) info_inodes ?_; intro w6 hR6 hG6; have hF6 := hF5.grown hG6 (by simp)))
          rw [HN.out.1, HN.out.2]
          exact bodyPost_ret (results_agg rfl _ rfl rfl hR6 agg_inodes info_inodes) rfl ⟨rfl, hF6⟩
        · have HN := hide (HR.out.2 (fun h => heq (HRD.out.1 h).2))
          have hd := decide_eq_false heq
          clear h0 heq
          go_wp2_with fail
          refine (BEqual _ _ _ _ _ _ _ xs _ hO5.sl hx5 bl hb).mono ?_
          rintro e w6 ⟨rfl, rfl⟩
          rw [hd]
          go_wp2_with (first
            | (with_reducible refine ag_zero rfl 49 rfl _ (bld_inodes _) ?_)
            | (with_reducible refine ag_store (o := ⟨none, _, _, _, _, _⟩) rfl 49 (.tmp 2) (.tmp 61) rfl w.heap.size 44 w.heap.size 49 _ (i64s z44) rfl rfl hR5 rfl (i64s_one _) info_inodes ?_; intro w6 hR6 hG6; have hF6 := hF5.grown hG6 (by simp)))
          rw [HN.out.1, HN.out.2]
          exact bodyPost_ret (results_agg rfl _ rfl rfl hR6 agg_inodes info_inodes) rfl ⟨rfl, hF6⟩
      · have HN := hide (HR.out.2 (fun h => by rw [(HRD.out.1 h).1] at h2; cases h2))
        rw [h2]
        clear h2
        go_wp2_with (first
          | (with_reducible refine ag_zero rfl 49 rfl _ (bld_inodes _) ?_)
          | (with_reducible refine ag_store (o := ⟨none, _, _, _, _, _⟩) rfl 49 (.tmp 2) (.tmp 61) rfl w.heap.size 44 w.heap.size 49 _ (i64s z44) rfl rfl hR5 rfl (i64s_one _) info_inodes ?_; intro w6 hR6 hG6; have hF6 := hF5.grown hG6 (by simp)))
        rw [HN.out.1, HN.out.2]
        exact bodyPost_ret (results_agg rfl _ rfl rfl hR6 agg_inodes info_inodes) rfl ⟨rfl, hF6⟩
end Go.Proofs.Ythbdnaogjmnagaa
