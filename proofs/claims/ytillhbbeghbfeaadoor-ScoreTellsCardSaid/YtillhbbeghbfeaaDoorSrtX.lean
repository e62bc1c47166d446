/- The order of at most 40 numbers: the walk of score.Order. -/
import Derived.Test.YtillhbbeghbfeaaDoorSrtV
import Derived.Test.YtillhbbeghbfeaaDoorIntD
import Derived.Test.YtillhbbeghbfeaaDoorFlo3
namespace Go.Proofs.YtillhbbeghbfeaaDoor
set_option linter.unusedVariables false
set_option linter.unusedSimpArgs false
open Go.RowKit

/-- A place's number, as a place among numbers. -/
def KX (xs : List Nat) (z : Int) : Int := KF (xs.getD z.toNat 0)
theorem cmpF_neg (x y : Nat) : cmpF x y < 0 ↔ KF x < KF y := by
  unfold cmpF
  rw [lessF_KF, lessF_KF]
  by_cases h : KF x < KF y
  · simp [h]
  · by_cases h2 : KF y < KF x <;> simp [h, h2]
theorem cmp_at {w0 : World} {bx : Nat} {A : Option Addr} {n c : Nat} {xs : List Nat} (hx : w0.cell? ⟨bx, 0, none⟩ = some (.slice A n c)) (hS : Sl w0 A n c (fl xs)) (hb : Words xs) : CmpAt w0 bx n (KX xs) := by
  intro w' hE x y x0 x1 y0 y1
  refine ⟨cmpF (xs.getD x.toNat 0) (xs.getD y.toNat 0), cmpF_neg _ _, ?_⟩
  have := order_cmp (hE.cell hx) (hS.ext hE) hb (i := x.toNat) (j := y.toNat) (by omega) (by omega)
  rwa [show ((x.toNat : Nat) : Int) = x by omega, show ((y.toNat : Nat) : Int) = y by omega] at this
set_option maxRecDepth 100000 in
set_option maxHeartbeats 4000000 in
theorem sort_stable {w0 w : World} {bx g n c : Nat} {K : Int → Int} (HC : CmpAt w0 bx n K) (h : Row w0 w g n c (idx n)) (hn : n ≤ 40) :
    Calls Tryd.prog 46 #[.slice (some ⟨g, 0, none⟩) n c, cmpV bx] w fun e w' => e = .returned (.tuple #[]) ∧ Srtd w0 g n c K w' := by
  have HS := stable_row HC h hn
  unfold cmpV at HS ⊢
  have HSS := hide HS
  clear HS
  go_enter Tryd.func46, Tryd.ntmps46
  go_wp2_with (go_at_call 51; with_reducible refine HSS.out.mono ?_; rintro e w5 ⟨rfl, hR5⟩)
  go_end0
  exact ⟨rfl, hR5⟩
set_option maxRecDepth 100000 in
set_option maxHeartbeats 4000000 in
theorem f_Order (w : World) (A : Option Addr) (n c : Nat) (xs : List Nat) (hS : Sl w A n c (fl xs)) (hb : Words xs) (hn : n ≤ 40) :
    Calls Tryd.prog 26 #[.slice A n c] w fun e w' => ∃ (g c' : Nat) (Z : List Int), e = .returned (.slice (some ⟨g, 0, none⟩) n c') ∧ Own w' w.heap.size 3 (some ⟨g, 0, none⟩) n c' (i64s Z) ∧ Ext w w' ∧ Z.Pairwise (LT (KX xs)) ∧ Z.Perm (idx n) := by
  have hcm := hS.cm
  have hnc := hS.nc
  go_enter Tryd.func26, Tryd.ntmps26
  go_wp2_with (at_make; refine mkI rfl (.tmp 6) (.tmp 6) rfl .i64 .i64 n n n n rfl rfl rfl rfl (Nat.le_refl _) (by omega) (w.alloc (.cells #[.slice A n c] 34)).heap.size (Nat.le_refl _) ?_; intro w1 hO1 hE1)
  obtain ⟨w0, hw0⟩ : ∃ w0 : World, w0 = w.alloc (.cells #[.slice A n c] 34) := ⟨_, rfl⟩
  rw [← hw0] at hO1 hE1
  have hE0 : Ext w w0 := by rw [hw0]; exact (Ext.refl w).alloc _
  have hbx : w0.cell? ⟨w.heap.size, 0, none⟩ = some (.slice A n c) := by rw [hw0]; exact lit_cell w _ _ 0 _ rfl
  have hC := cmp_at hbx (hS.ext hE0) hb
  obtain ⟨g, hg⟩ : ∃ g, g = w0.heap.size := ⟨_, rfl⟩
  have hg2 : w.heap.size + 1 = g := by rw [hg, hw0]; simp
  rw [hg2]
  rw [← hg] at hO1
  have hR1 : Row w0 w1 g n n (List.replicate n 0) := by
    refine ⟨?_, hE1⟩
    rw [← hg]
    simpa [i64s] using hO1
  have HC := hide hC
  have HE0 := hide hE0
  have HB := hide (And.intro hb hg)
  clear hC hE0 hb hg hO1 hE1 hbx hw0 hg2
  go_wp2_with fail
  go_loopw [10] (fun v wr => ∃ k : Nat, k ≤ n ∧ v = .int .i64 k ∧ Row w0 wr g n n (idx k ++ List.replicate (n - k) 0)) (fun v _ => n - (intOf v).toNat)
  case atStart => exact ⟨0, by omega, rfl, by simpa [idx] using hR1⟩
  case round =>
    clear hR1
    obtain ⟨k, hk, rfl, hR⟩ := hrel
    by_cases hlt : k < n
    · have i2 : (k : Int) < (n : Int) := by omega
      have hnext : idx k ++ List.replicate (n - k) (0 : Int) = idx k ++ 0 :: List.replicate (n - (k + 1)) 0 := by
        rw [show n - k = (n - (k + 1)) + 1 by omega, List.replicate_succ]
      have hset : (idx k ++ List.replicate (n - k) (0 : Int)).set k (k : Int) = idx (k + 1) ++ List.replicate (n - (k + 1)) 0 := by
        rw [hnext, List.set_append_right _ _ (by rw [idx_len]; omega), idx_len, Nat.sub_self, List.set_cons_zero]
        unfold idx
        rw [List.range_succ, List.map_append]
        simp
      have hR2 := hR.set k (k : Int)
      rw [hset] at hR2
      have hck := hR.cell hlt
      have hfk := hR.1.frozenAt k
      have HR2 := hide hR2
      clear hR hR2 hset hnext
      go_wp2_with fail
      go_roundw
      case rel => exact ⟨k + 1, by omega, by go_num, HR2.out⟩
      case measure => simp [intOf]; omega
    · obtain rfl : k = n := by omega
      have hRn : Row w0 wr g k k (idx k) := by simpa using hR
      have HS := sort_stable HC.out hRn hn
      unfold cmpV at HS
      have HSS := hide HS
      clear HS hR hRn
      go_wp2_with (go_at_call 46; with_reducible refine HSS.out.mono ?_; rintro e w5 ⟨rfl, hR5⟩)
      go_ret
      obtain ⟨Z, z1, z2, z3⟩ := hR5
      exact ⟨g, k, Z, rfl, z3.1.low HE0.out.size, HE0.out.trans z3.2, z1, z2⟩
set_option maxHeartbeats 1000000 in
theorem f_numbers (w : World) (A : Option Addr) (n c : Nat) (zs : List Int) (h : Sl w A n c (zs.map (Value.int .u64))) (hw : ∀ x ∈ zs, (Lit.int .u64 x).wf = true) (hn : n ≤ 1000) :
    Calls Tryd.prog 25 #[.slice A n c] w fun e w' => ∃ A' c', e = .returned (.slice A' n c') ∧ Own w' w.heap.size 24 A' n c' (fl (zs.map Int.toNat)) ∧ Ext w w' := by
  have hl : zs.length = n := by have := h.len; rwa [List.length_map] at this
  have hcm := h.cm
  have hnc := h.nc
  have HL := hide hl
  have rf := run_from
  clear hl
  go_enter Tryd.func25, Tryd.ntmps25
  go_wp2_with fail
  go_loopw [3, 4] (fun s v wr => ∃ (k c1 : Nat) (A1 : Option Addr), k ≤ n ∧ v = .int .i64 k ∧ s = .slice A1 k c1 ∧ Own wr w.heap.size 24 A1 k c1 (fl ((zs.take k).map Int.toNat)) ∧ Ext w wr) (fun _ v _ => n - (intOf v).toNat)
  case atStart => exact ⟨0, 0, none, by omega, rfl, rfl, Own.nilS _ _ _, Ext.refl w⟩
  case round =>
    obtain ⟨k, c1, A1, hk, rfl, rfl, hO, hE⟩ := hrel
    by_cases hlt : k < n
    · obtain ⟨b, o, u, hA, hu, hc⟩ := (h.ext hE).at_ hlt
      have hu' := hu.out
      rw [List.getElem?_map, Option.map_eq_some_iff] at hu'
      obtain ⟨x, hx, rfl⟩ := hu'
      subst hA
      have i2 : (k : Int) < (n : Int) := by omega
      have HS := hide (show (zs.take (k + 1)).map Int.toNat = (zs.take k).map Int.toNat ++ [x.toNat] by rw [List.take_add_one, hx]; simp)
      clear hu
      go_wp2_with (at_builtin; refine appF rfl (.tmp 11) (.tmp 17) rfl w.heap.size _ k c1 _ rfl (hO.ext ((Ext.refl _).alloc _)) _ 1 1 _ rfl (Sl.lit wr _ 24 1 rfl (by omega) (by simp [Value.oneCell'])) (by omega) (by have := hE.size; simp; omega) ?_; intro A2 c2 w2 hO2 hG2)
      go_roundw
      case rel => exact ⟨k + 1, c2, A2, by omega, by go_num, rfl, by rw [HS.out, fl_append]; exact hO2, (hE.alloc _).grown hG2 (fun q hq => (hO.block q hq).1)⟩
      case measure => simp [intOf]; omega
    · obtain rfl : k = n := by omega
      have HO := hide hO
      clear hO
      go_wp2_with fail
      go_ret
      refine ⟨A1, c1, rfl, ?_, hE⟩
      have := HO.out
      rwa [List.take_of_length_le (by rw [HL.out]; omega)] at this
end Go.Proofs.YtillhbbeghbfeaaDoor
