/- The walk of slices' insertion sort. -/
import Derived.Test.YtillhbbeghbfeaaDoorSrtC
import Derived.Test.YtillhbbeghbfeaaDoorSrtP
namespace Go.Proofs.YtillhbbeghbfeaaDoor
set_option linter.unusedVariables false
set_option linter.unusedSimpArgs false
open Go.RowKit

/-- The order asked of two places below m. -/
def CmpAt (w0 : World) (bx m : Nat) (K : Int → Int) : Prop :=
  ∀ w', Ext w0 w' → ∀ x y : Int, 0 ≤ x → x < m → 0 ≤ y → y < m → ∃ r : Int, (r < 0 ↔ K x < K y) ∧ Calls Tryd.prog 47 #[.int .i64 x, .int .i64 y, .pointer (some ⟨bx, 0, none⟩)] w' fun e w'' => e = .returned (.int .i64 r) ∧ Ext w' w''
def Within (m : Nat) (zs : List Int) : Prop := ∀ z ∈ zs, 0 ≤ z ∧ z < m
def cmpV (bx : Nat) : Value := .func (.func 47) #[] #[.pointer (some ⟨bx, 0, none⟩)]
/-- Where the inner loop stands: x at place j. -/
def InsAt (w0 : World) (g n c m : Nat) (K : Int → Int) (X T Y : List Int) (O : List Int) (x : Int) (a : Nat) (v : Value) (wr : World) : Prop :=
  ∃ P S : List Int, v = .int .i64 ((a + P.length : Nat) : Int) ∧ (P ++ S).Pairwise (LT K) ∧ (P ++ S).Perm O ∧ (∀ y ∈ S, LT K x y) ∧ Row w0 wr g n c (X ++ (P ++ x :: S) ++ (T ++ Y))
def InsOut (w0 : World) (g n c m : Nat) (K : Int → Int) (X L Y : List Int) (v : Value) (wr : World) : Prop :=
  ∃ (k : Nat) (Z : List Int), 1 ≤ k ∧ (k ≤ L.length ∨ k = 1) ∧ v = .int .i64 ((X.length + k : Nat) : Int) ∧ Z.Pairwise (LT K) ∧ Z.Perm (L.take k) ∧ Row w0 wr g n c (X ++ Z ++ (L.drop k ++ Y))
theorem InsOut.ext {w0 wr w' : World} {g n c m : Nat} {K : Int → Int} {X L Y : List Int} {v : Value} (h : InsOut w0 g n c m K X L Y v wr) (hE : Ext wr w') : InsOut w0 g n c m K X L Y v w' := by
  obtain ⟨k, Z, h1, h2, h3, h4, h5, h6⟩ := h
  exact ⟨k, Z, h1, h2, h3, h4, h5, h6.ext hE⟩
theorem ins_next {w0 wr w' : World} {g n c m : Nat} {K : Int → Int} {X L Y P S : List Int} {x : Int} {k ia1 : Nat} (hx : L[k]? = some x) (hia : ia1 = X.length + (k + 1)) (hs : (P ++ S).Pairwise (LT K)) (hp : (P ++ S).Perm (L.take k)) (hS : ∀ y ∈ S, LT K x y) (hP : ∀ y ∈ P, LT K y x)
    (hR : Row w0 wr g n c (X ++ (P ++ x :: S) ++ (L.drop (k + 1) ++ Y))) (hE : Ext wr w') : InsOut w0 g n c m K X L Y (.int .i64 (ia1 : Nat)) w' := by
  obtain ⟨hkl, _⟩ := List.getElem?_eq_some_iff.1 hx
  refine ⟨k + 1, P ++ x :: S, by omega, by omega, by rw [hia], ins_done hs hP hS, ?_, hR.ext hE⟩
  rw [List.take_add_one, hx]
  refine List.perm_middle.trans ?_
  exact (List.Perm.cons x hp).trans (List.perm_append_singleton x _).symm
theorem ins_swap {w0 wr w' : World} {g n c m : Nat} {K : Int → Int} {X T Y O P S : List Int} {x y : Int} {ja j1 : Nat} (hja : ja = X.length + (P.length + 1)) (hj1 : j1 + 1 = ja) (hs : ((P ++ [y]) ++ S).Pairwise (LT K)) (hp : ((P ++ [y]) ++ S).Perm O) (hS : ∀ z ∈ S, LT K x z) (hxy : LT K x y)
    (hR : Row w0 wr g n c (X ++ ((P ++ [y]) ++ x :: S) ++ (T ++ Y))) (hE : Ext ((wr.setCell ⟨g, ja, none⟩ (.int .i64 y)).setCell ⟨g, j1, none⟩ (.int .i64 x)) w') : InsAt w0 g n c m K X T Y O x X.length (.int .i64 (j1 : Nat)) w' := by
  refine ⟨P, y :: S, ?_, by simpa using hs, by simpa using hp, ?_, ?_⟩
  · rw [show j1 = X.length + P.length by omega]
  · intro z hz
    rcases List.mem_cons.1 hz with rfl | hz
    · exact hxy
    · exact hS z hz
  · have h2 := ((hR.set ja y).set j1 x).ext hE
    have e : ((X ++ ((P ++ [y]) ++ x :: S) ++ (T ++ Y)).set ja y).set j1 x = X ++ (P ++ x :: (y :: S)) ++ (T ++ Y) := by
      have := @swp_down (X ++ P) (S ++ (T ++ Y)) y x
      unfold swp at this
      have g1 : ((X ++ P) ++ y :: x :: (S ++ (T ++ Y))).getD (X ++ P).length 0 = y := by simp
      have g2 : ((X ++ P) ++ y :: x :: (S ++ (T ++ Y))).getD ((X ++ P).length + 1) 0 = x := by
        rw [List.getD_eq_getElem?_getD, List.getElem?_append_right (by omega), show (X ++ P).length + 1 - (X ++ P).length = 1 by omega]
        rfl
      rw [g1, g2] at this
      have l1 : (X ++ P).length + 1 = ja := by rw [List.length_append]; omega
      have l2 : (X ++ P).length = j1 := by omega
      rw [l1, l2] at this
      have e1 : X ++ ((P ++ [y]) ++ x :: S) ++ (T ++ Y) = (X ++ P) ++ y :: x :: (S ++ (T ++ Y)) := by simp
      have e2 : X ++ (P ++ x :: (y :: S)) ++ (T ++ Y) = (X ++ P) ++ x :: y :: (S ++ (T ++ Y)) := by simp
      rw [e1, e2]
      exact this
    rw [e] at h2
    exact h2
set_option maxRecDepth 100000 in
set_option maxHeartbeats 4000000 in
theorem insertion_row {w0 w : World} {bx g n c m : Nat} {K : Int → Int} {X L Y : List Int} (HC : CmpAt w0 bx m K) (h : Row w0 w g n c (X ++ L ++ Y)) (hw : Within m (X ++ L ++ Y)) (hr : L.Pairwise (· < ·)) (hn : n ≤ 1000000) (b : Nat) (hb : b = X.length + L.length) :
    Calls Tryd.prog 56 #[.slice (some ⟨g, 0, none⟩) n c, .int .i64 (X.length : Nat), .int .i64 b, cmpV bx] w fun e w' =>
      e = .returned (.tuple #[]) ∧ ∃ Z, Z.Pairwise (LT K) ∧ Z.Perm L ∧ Row w0 w' g n c (X ++ Z ++ Y) := by
  have hlen := h.len
  simp only [List.length_append] at hlen
  have hc := h.1.sl.nc
  have hcm := h.1.sl.cm
  obtain ⟨a, ha⟩ : ∃ a, a = X.length := ⟨_, rfl⟩
  rw [← ha]
  rw [← ha] at hlen hb
  have W0 : IntKind.i64.wrap ((a : Int) + 1) = ((a + 1 : Nat) : Int) := wrap_nat2 (a := a) (b := 1) (by omega)
  obtain ⟨a1, ea1⟩ : ∃ a1, a1 = a + 1 := ⟨_, rfl⟩
  rw [← ea1] at W0
  have hs : InsOut w0 g n c m K X L Y (.int .i64 (a1 : Nat)) w := by
    refine ⟨1, L.take 1, by omega, by omega, by rw [ea1, ha], ?_, List.Perm.refl _, ?_⟩
    · cases L with
      | nil => simp
      | cons y L => simp
    · rw [List.append_assoc X, ← List.append_assoc (L.take 1), List.take_append_drop, ← List.append_assoc]
      exact h
  have HL := hide (And.intro ha (And.intro hlen (And.intro hb ea1)))
  have HW := hide (And.intro hw hr)
  clear ha hlen hb ea1 hw hr h
  unfold cmpV
  go_enter Tryd.func56, Tryd.ntmps56
  go_wp2
  go_loopw [8] (fun v wr => InsOut w0 g n c m K X L Y v wr) (fun v _ => b - (intOf v).toNat)
  case atStart => exact hs
  case round =>
    obtain ⟨k, Z, hk1, hk2, rfl, hZ, hp, hR⟩ := hrel
    obtain ⟨ia, eia⟩ : ∃ ia, ia = X.length + k := ⟨_, rfl⟩
    rw [← eia]
    clear W0
    by_cases hlt : ia < b
    · obtain ⟨x, hx⟩ : ∃ x, L[k]? = some x := by
        obtain ⟨ha, hlen, hb, ea1⟩ := HL.out
        exact ⟨_, List.getElem?_eq_getElem (by omega)⟩
      have hbn : b ≤ n := by
        obtain ⟨ha, hlen, hb, ea1⟩ := HL.out
        omega
      have hdk : L.drop k = x :: L.drop (k + 1) := by
        obtain ⟨h1, h2⟩ := List.getElem?_eq_some_iff.1 hx
        rw [List.drop_eq_getElem_cons h1, h2]
      have hzl : Z.length = k := by
        have := hp.length_eq
        rw [List.length_take] at this
        have := (List.getElem?_eq_some_iff.1 hx).1
        omega
      have hin : InsAt w0 g n c m K X (L.drop (k + 1)) Y (L.take k) x X.length (.int .i64 (ia : Nat)) wr := by
        refine ⟨Z, [], by rw [hzl, eia], by simpa using hZ, by simpa using hp, (fun y hy => by cases hy), ?_⟩
        rw [hdk] at hR
        simpa using hR
      have i2 : (ia : Int) < (b : Int) := by omega
      have W2 : IntKind.i64.wrap ((ia : Int) + 1) = ((ia + 1 : Nat) : Int) := wrap_nat2 (a := ia) (b := 1) (by omega)
      obtain ⟨ia1, eia1⟩ : ∃ ia1, ia1 = ia + 1 := ⟨_, rfl⟩
      rw [← eia1] at W2
      have HI := hide (And.intro eia (And.intro eia1 hlt))
      have hia : ia ≤ n := by omega
      have HX := hide hx
      clear hR eia hp hZ hzl hdk hk1 hk2 eia1 hlt hx hs
      go_wp2_with fail
      go_loopw [9] (fun v wr => InsAt w0 g n c m K X (L.drop (k + 1)) Y (L.take k) x X.length v wr) (fun v _ => (intOf v).toNat)
      case atStart => exact hin
      case round =>
        clear hin
        obtain ⟨P, S, hv, hs', hp', hS, hR⟩ := hrel
        obtain ⟨ja, eja⟩ : ∃ ja, ja = X.length + P.length := ⟨_, rfl⟩
        rw [← eja] at hv
        subst hv
        rcases List.eq_nil_or_concat P with rfl | ⟨P', y, rfl⟩
        · have hja : ja = a := by
            rw [eja, HL.out.1]; simp
          have I3 := hide (show decide (a < ja) = false by simp; omega)
          have HO := hide (ins_next (m := m) (ia1 := ia1) HX.out (by rw [HI.out.2.1, HI.out.1]; rfl) hs' hp' hS (fun y hy => by cases hy) hR (Ext.refl wr).drew)
          clear hs' hp' hS hR eja hja
          go_wp2_with fail
          refine wp_region_held_drew (S := (fun w' => True)) (by kernel_rfl) trivial (fun hHeld => ?_)
          refine held_take 0 rfl (by kernel_rfl) (by kernel_rfl) (by kernel_rfl) (fun _ _ _ _ h => h) (by rfl) ?_ ?_ (by assumption) ?_
          rotate_left
          · (intro wx hSx; (try dsimp only at hSx); go_simp)
            all_goals with_reducible rfl
          (try simp only [Act.put, List.setIfInBounds_toArray, List.set_cons_zero, List.set_cons_succ])
          refine held_take 1 rfl (by kernel_rfl) (by kernel_rfl) (by kernel_rfl) (fun _ _ _ _ h => h) (by rfl) ?_ ?_ (by assumption) ?_
          rotate_left
          · (intro wx hSx; (try dsimp only at hSx); go_simp)
            all_goals with_reducible rfl
          (try simp only [Act.put, List.setIfInBounds_toArray, List.set_cons_zero, List.set_cons_succ])
          refine held_take 2 rfl (by kernel_rfl) (by kernel_rfl) (by kernel_rfl) (fun _ _ _ _ h => h) (by rfl) ?_ ?_ (by assumption) ?_
          rotate_left
          · (intro wx hSx; (try dsimp only at hSx); go_simp)
            all_goals with_reducible rfl
          (try simp only [Act.put, List.setIfInBounds_toArray, List.set_cons_zero, List.set_cons_succ])
          rw [I3.out]
          refine held_take 3 rfl (by kernel_rfl) (by kernel_rfl) (by kernel_rfl) (fun _ _ _ _ h => h) (by rfl) ?_ ?_ (by assumption) ?_
          rotate_left
          · (intro wx hSx; (try dsimp only at hSx); go_simp)
            all_goals with_reducible rfl
          (try simp only [Act.put, List.setIfInBounds_toArray, List.set_cons_zero, List.set_cons_succ])
          refine held_skip 4 rfl (by kernel_rfl) (by kernel_rfl) (by kernel_rfl) (fun _ _ _ _ h => h) (by rfl) (by assumption) ?_
          (try simp only [Act.put, List.setIfInBounds_toArray, List.set_cons_zero, List.set_cons_succ])
          refine held_skip 5 rfl (by kernel_rfl) (by kernel_rfl) (by kernel_rfl) (fun _ _ _ _ h => h) (by rfl) (by assumption) ?_
          (try simp only [Act.put, List.setIfInBounds_toArray, List.set_cons_zero, List.set_cons_succ])
          refine held_skip 6 rfl (by kernel_rfl) (by kernel_rfl) (by kernel_rfl) (fun _ _ _ _ h => h) (by rfl) (by assumption) ?_
          (try simp only [Act.put, List.setIfInBounds_toArray, List.set_cons_zero, List.set_cons_succ])
          refine held_skip 7 rfl (by kernel_rfl) (by kernel_rfl) (by kernel_rfl) (fun _ _ _ _ h => h) (by rfl) (by assumption) ?_
          (try simp only [Act.put, List.setIfInBounds_toArray, List.set_cons_zero, List.set_cons_succ])
          refine held_skip 8 rfl (by kernel_rfl) (by kernel_rfl) (by kernel_rfl) (fun _ _ _ _ h => h) (by rfl) (by assumption) ?_
          (try simp only [Act.put, List.setIfInBounds_toArray, List.set_cons_zero, List.set_cons_succ])
          refine held_skip 9 rfl (by kernel_rfl) (by kernel_rfl) (by kernel_rfl) (fun _ _ _ _ h => h) (by rfl) (by assumption) ?_
          (try simp only [Act.put, List.setIfInBounds_toArray, List.set_cons_zero, List.set_cons_succ])
          refine held_skip 10 rfl (by kernel_rfl) (by kernel_rfl) (by kernel_rfl) (fun _ _ _ _ h => h) (by rfl) (by assumption) ?_
          (try simp only [Act.put, List.setIfInBounds_toArray, List.set_cons_zero, List.set_cons_succ])
          refine held_skip 11 rfl (by kernel_rfl) (by kernel_rfl) (by kernel_rfl) (fun _ _ _ _ h => h) (by rfl) (by assumption) ?_
          (try simp only [Act.put, List.setIfInBounds_toArray, List.set_cons_zero, List.set_cons_succ])
          refine held_skip 12 rfl (by kernel_rfl) (by kernel_rfl) (by kernel_rfl) (fun _ _ _ _ h => h) (by rfl) (by assumption) ?_
          (try simp only [Act.put, List.setIfInBounds_toArray, List.set_cons_zero, List.set_cons_succ])
          refine held_skip 13 rfl (by kernel_rfl) (by kernel_rfl) (by kernel_rfl) (fun _ _ _ _ h => h) (by rfl) (by assumption) ?_
          (try simp only [Act.put, List.setIfInBounds_toArray, List.set_cons_zero, List.set_cons_succ])
          refine held_skip 14 rfl (by kernel_rfl) (by kernel_rfl) (by kernel_rfl) (fun _ _ _ _ h => h) (by rfl) (by assumption) ?_
          (try simp only [Act.put, List.setIfInBounds_toArray, List.set_cons_zero, List.set_cons_succ])
          refine held_skip 15 rfl (by kernel_rfl) (by kernel_rfl) (by kernel_rfl) (fun _ _ _ _ h => h) (by rfl) (by assumption) ?_
          (try simp only [Act.put, List.setIfInBounds_toArray, List.set_cons_zero, List.set_cons_succ])
          refine held_take 16 rfl (by kernel_rfl) (by kernel_rfl) (by kernel_rfl) (fun _ _ _ _ h => h) (by rfl) ?_ ?_ (by assumption) ?_
          rotate_left
          · (intro wx hSx; (try dsimp only at hSx); go_simp)
            all_goals with_reducible rfl
          (try simp only [Act.put, List.setIfInBounds_toArray, List.set_cons_zero, List.set_cons_succ])
          refine wpAnyH_done (by kernel_rfl) ?_ _
          go_wp2_with fail
          go_roundw
          case rel => exact HO.out
          case measure =>
            obtain ⟨_, h1, h2⟩ := HI.out
            simp [intOf]
            omega
        · have hl1 : (P'.concat y).length = P'.length + 1 := by simp
          rw [List.concat_eq_append] at hs' hp' hR
          rw [hl1] at eja
          have hjab : a < ja := by rw [HL.out.1, eja]; omega
          have hjn : ja < n := by
            have := hR.len
            simp only [List.length_append, List.length_cons, List.length_nil] at this
            omega
          have W3 : IntKind.i64.wrap ((ja : Int) - 1) = ((ja - 1 : Nat) : Int) := wrap_sub (a := ja) (b := 1) (by omega) (by omega)
          obtain ⟨j1, ej1⟩ : ∃ j1, j1 = ja - 1 := ⟨_, rfl⟩
          rw [← ej1] at W3
          have hj1 : j1 + 1 = ja := by omega
          have hj1n : j1 < n := by omega
          have I3 := hide (show decide (a < ja) = true by simp; omega)
          have i4 : (ja : Int) < (n : Int) := by omega
          have i5 : (j1 : Int) < (n : Int) := by omega
          have i6 : ¬ (ja : Int) < 0 := by omega
          have i7 : ¬ (j1 : Int) < 0 := by omega
          have cx : wr.cell? ⟨g, ja, none⟩ = some (.int .i64 x) := by
            rw [hR.cell hjn, List.getD_eq_getElem?_getD, List.append_assoc, List.getElem?_append_right (by omega), eja, List.append_assoc, List.append_assoc, List.getElem?_append_right (by omega)]
            simp
          have cy : wr.cell? ⟨g, j1, none⟩ = some (.int .i64 y) := by
            rw [hR.cell hj1n, List.getD_eq_getElem?_getD, List.append_assoc, List.getElem?_append_right (by omega), show j1 - X.length = P'.length by omega]
            simp
          have hmx : x ∈ L.take (k + 1) := by
            rw [List.take_add_one, HX.out]
            simp
          have hmy : y ∈ L.take k := hp'.mem_iff.1 (by simp)
          have hxx := HW.out.1 x (List.mem_append_left _ (List.mem_append_right _ (List.mem_of_mem_take hmx)))
          have hyy := HW.out.1 y (List.mem_append_left _ (List.mem_append_right _ (List.mem_of_mem_take hmy)))
          have hyx : y < x := by
            have h2 := HW.out.2
            rw [← List.take_append_drop k L] at h2
            obtain ⟨_, _, h3⟩ := List.pairwise_append.1 h2
            refine h3 y hmy x ?_
            obtain ⟨g1, g2⟩ := List.getElem?_eq_some_iff.1 HX.out
            rw [List.drop_eq_getElem_cons g1, g2]
            simp
          obtain ⟨r, hr, hcall⟩ := HC wr.drew (hR.2.trans (Ext.refl wr).drew) x y hxx.1 hxx.2 hyy.1 hyy.2
          rw [← LT.key hyx] at hr
          have hne : x ≠ y := by omega
          have EJ := hide (And.intro eja (And.intro hs' (And.intro hp' (And.intro hS hj1))))
          have HR := hide hR
          have fx := hR.1.frozenAt ja
          have fy := hR.1.frozenAt j1
          have HCC := hide hcall
          clear hcall hxx hyy hyx hmx hmy hs' hp' hS eja hl1 hR ej1 hj1 hjab
          by_cases hrr : r < 0
          · have HRR := hide (hr.1 hrr)
            clear hr
            go_wp2_with fail
            refine wp_region_held_drew (S := (fun w' => w'.cell? ⟨g, ja, none⟩ = some (.int .i64 x) ∧ w'.cell? ⟨g, j1, none⟩ = some (.int .i64 y))) (by kernel_rfl) ⟨(Ext.refl wr).drew.cell cx, (Ext.refl wr).drew.cell cy⟩ (fun hHeld => ?_)
            refine held_take 0 rfl (by kernel_rfl) (by kernel_rfl) (by kernel_rfl) (fun _ _ _ _ h => h) (by rfl) ?_ ?_ (by assumption) ?_
            rotate_left
            · (intro wx hSx; (try dsimp only at hSx); go_simp)
              all_goals with_reducible rfl
            (try simp only [Act.put, List.setIfInBounds_toArray, List.set_cons_zero, List.set_cons_succ])
            refine held_take 1 rfl (by kernel_rfl) (by kernel_rfl) (by kernel_rfl) (fun _ _ _ _ h => h) (by rfl) ?_ ?_ (by assumption) ?_
            rotate_left
            · (intro wx hSx; (try dsimp only at hSx); go_simp)
              all_goals with_reducible rfl
            (try simp only [Act.put, List.setIfInBounds_toArray, List.set_cons_zero, List.set_cons_succ])
            refine held_take 2 rfl (by kernel_rfl) (by kernel_rfl) (by kernel_rfl) (fun _ _ _ _ h => h) (by rfl) ?_ ?_ (by assumption) ?_
            rotate_left
            · (intro wx hSx; (try dsimp only at hSx); go_simp)
              all_goals with_reducible rfl
            (try simp only [Act.put, List.setIfInBounds_toArray, List.set_cons_zero, List.set_cons_succ])
            (try rw [I3.out])
            refine held_take 3 rfl (by kernel_rfl) (by kernel_rfl) (by kernel_rfl) (fun _ _ _ _ h => h) (by rfl) ?_ ?_ (by assumption) ?_
            rotate_left
            · (intro wx hSx; (try dsimp only at hSx); go_simp)
              all_goals with_reducible rfl
            (try simp only [Act.put, List.setIfInBounds_toArray, List.set_cons_zero, List.set_cons_succ])
            refine held_take 4 rfl (by kernel_rfl) (by kernel_rfl) (by kernel_rfl) (fun _ _ _ _ h => h) (by rfl) ?_ ?_ (by assumption) ?_
            rotate_left
            · (intro wx hSx; (try dsimp only at hSx); go_simp)
              all_goals with_reducible rfl
            (try simp only [Act.put, List.setIfInBounds_toArray, List.set_cons_zero, List.set_cons_succ])
            refine held_take 5 rfl (by kernel_rfl) (by kernel_rfl) (by kernel_rfl) (fun _ _ _ _ h => h) (by rfl) ?_ ?_ (by assumption) ?_
            rotate_left
            · (intro wx hSx; (try dsimp only at hSx); go_simp)
              all_goals with_reducible rfl
            (try simp only [Act.put, List.setIfInBounds_toArray, List.set_cons_zero, List.set_cons_succ])
            refine held_take 6 rfl (by kernel_rfl) (by kernel_rfl) (by kernel_rfl) (fun _ _ _ _ h => h) (by rfl) ?_ ?_ (by assumption) ?_
            rotate_left
            · (intro wx hSx; (try dsimp only at hSx); go_simp)
              all_goals with_reducible rfl
            (try simp only [Act.put, List.setIfInBounds_toArray, List.set_cons_zero, List.set_cons_succ])
            refine held_take 7 rfl (by kernel_rfl) (by kernel_rfl) (by kernel_rfl) (fun _ _ _ _ h => h) (by rfl) ?_ ?_ (by assumption) ?_
            rotate_left
            · (intro wx hSx; (try dsimp only at hSx); go_simp)
              all_goals with_reducible rfl
            (try simp only [Act.put, List.setIfInBounds_toArray, List.set_cons_zero, List.set_cons_succ])
            refine held_take 8 rfl (by kernel_rfl) (by kernel_rfl) (by kernel_rfl) (fun _ _ _ _ h => h) (by rfl) ?_ ?_ (by assumption) ?_
            rotate_left
            · (intro wx hSx; (try dsimp only at hSx); go_simp)
              all_goals with_reducible rfl
            (try simp only [Act.put, List.setIfInBounds_toArray, List.set_cons_zero, List.set_cons_succ])
            refine held_take 9 rfl (by kernel_rfl) (by kernel_rfl) (by kernel_rfl) (fun _ _ _ _ h => h) (by rfl) ?_ ?_ (by assumption) ?_
            rotate_left
            · (intro wx hSx; (try dsimp only at hSx); go_simp)
              all_goals with_reducible rfl
            (try simp only [Act.put, List.setIfInBounds_toArray, List.set_cons_zero, List.set_cons_succ])
            refine held_take 10 rfl (by kernel_rfl) (by kernel_rfl) (by kernel_rfl) (fun _ _ _ _ h => h) (by rfl) ?_ ?_ (by assumption) ?_
            rotate_left
            · (intro wx hSx; (try dsimp only at hSx); go_simp)
              all_goals with_reducible rfl
            (try simp only [Act.put, List.setIfInBounds_toArray, List.set_cons_zero, List.set_cons_succ])
            refine held_take 11 rfl (by kernel_rfl) (by kernel_rfl) (by kernel_rfl) (fun _ _ _ _ h => h) (by rfl) ?_ ?_ (by assumption) ?_
            rotate_left
            · (intro wx hSx; (try dsimp only at hSx); go_simp)
              all_goals with_reducible rfl
            (try simp only [Act.put, List.setIfInBounds_toArray, List.set_cons_zero, List.set_cons_succ])
            refine held_take 12 rfl (by kernel_rfl) (by kernel_rfl) (by kernel_rfl) (fun _ _ _ _ h => h) (by rfl) ?_ ?_ (by assumption) ?_
            rotate_left
            · (intro wx hSx; (try dsimp only at hSx); go_simp)
              all_goals with_reducible rfl
            (try simp only [Act.put, List.setIfInBounds_toArray, List.set_cons_zero, List.set_cons_succ])
            refine held_take 13 rfl (by kernel_rfl) (by kernel_rfl) (by kernel_rfl) (fun _ _ _ _ h => h) (by rfl) ?_ ?_ (by assumption) ?_
            rotate_left
            · (intro wx hSx; (try dsimp only at hSx); go_simp)
              all_goals with_reducible rfl
            (try simp only [Act.put, List.setIfInBounds_toArray, List.set_cons_zero, List.set_cons_succ])
            refine held_call 14 rfl (by kernel_rfl) (fun K hK => ?_)
            go_simp
            go_at_call 47
            refine HCC.out.mono ?_
            rintro e w5 ⟨rfl, hE5⟩
            have hR5 := HR.out.ext ((Ext.refl wr).drew.trans hE5)
            have fx5 := hR5.1.frozenAt ja
            have fy5 := hR5.1.frozenAt j1
            have hE5' := (Ext.refl wr).drew.trans hE5
            have cx5 := (Ext.refl w5).drew.cell (hE5'.cell cx)
            have cy5 := (Ext.refl w5).drew.cell (hE5'.cell cy)
            have cx6 := hE5'.cell cx
            have cy6 := hE5'.cell cy
            have hjne : ja ≠ j1 := by have := EJ.out.2.2.2.2; omega
            have hjne' : j1 ≠ ja := fun h => hjne h.symm
            obtain ⟨q1, q2, q3, q4, q5⟩ := EJ.out
            have HS5 := hide (ins_swap (m := m) q1 q5 q2 q3 q4 HRR.out hR5 (Ext.refl _).drew)
            clear hR5 q1 q2 q3 q4 q5 hE5'
            go_wp2_with fail
            refine hK.out _ _ ⟨hE5.cell hHeld.1, hE5.cell hHeld.2⟩ (fun hHeld => ?_)
            clear hK K
            (try simp only [Act.put, List.setIfInBounds_toArray, List.set_cons_zero, List.set_cons_succ])
            refine held_take 15 rfl (by kernel_rfl) (by kernel_rfl) (by kernel_rfl) (fun _ _ _ _ h => h) (by rfl) ?_ ?_ (by assumption) ?_
            rotate_left
            · (intro wx hSx; (try dsimp only at hSx); go_simp)
              all_goals with_reducible rfl
            (try simp only [Act.put, List.setIfInBounds_toArray, List.set_cons_zero, List.set_cons_succ])
            refine held_take 16 rfl (by kernel_rfl) (by kernel_rfl) (by kernel_rfl) (fun _ _ _ _ h => h) (by rfl) ?_ ?_ (by assumption) ?_
            rotate_left
            · (intro wx hSx; (try dsimp only at hSx); go_simp)
              all_goals with_reducible rfl
            (try simp only [Act.put, List.setIfInBounds_toArray, List.set_cons_zero, List.set_cons_succ])
            refine wpAnyH_done (by kernel_rfl) ?_ _
            go_wp2_with fail
            refine piv_begin 15 (fun w' => w'.cell? ⟨g, ja, none⟩ = some (.int .i64 x) ∧ w'.cell? ⟨g, j1, none⟩ = some (.int .i64 y)) (by kernel_rfl) ⟨cx5, cy5⟩ (fun hHeld => ?_)
            refine piv_take 0 rfl (by kernel_rfl) (by kernel_rfl) (by kernel_rfl) (by kernel_rfl) (by kernel_rfl) (fun _ _ _ _ h => h) (by rfl) ?_ ?_ (by assumption) ?_
            rotate_left
            · (intro wx hSx; (try dsimp only at hSx); go_simp)
              all_goals with_reducible rfl
            (try simp only [Act.put, List.setIfInBounds_toArray, List.set_cons_zero, List.set_cons_succ])
            refine piv_take 1 rfl (by kernel_rfl) (by kernel_rfl) (by kernel_rfl) (by kernel_rfl) (by kernel_rfl) (fun _ _ _ _ h => h) (by rfl) ?_ ?_ (by assumption) ?_
            rotate_left
            · (intro wx hSx; (try dsimp only at hSx); go_simp)
              all_goals with_reducible rfl
            (try simp only [Act.put, List.setIfInBounds_toArray, List.set_cons_zero, List.set_cons_succ])
            refine piv_take 5 rfl (by kernel_rfl) (by kernel_rfl) (by kernel_rfl) (by kernel_rfl) (by kernel_rfl) (fun _ _ _ _ h => h) (by rfl) ?_ ?_ (by assumption) ?_
            rotate_left
            · (intro wx hSx; (try dsimp only at hSx); go_simp)
              all_goals with_reducible rfl
            (try simp only [Act.put, List.setIfInBounds_toArray, List.set_cons_zero, List.set_cons_succ])
            refine piv_take 6 rfl (by kernel_rfl) (by kernel_rfl) (by kernel_rfl) (by kernel_rfl) (by kernel_rfl) (fun _ _ _ _ h => h) (by rfl) ?_ ?_ (by assumption) ?_
            rotate_left
            · (intro wx hSx; (try dsimp only at hSx); go_simp)
              all_goals with_reducible rfl
            (try simp only [Act.put, List.setIfInBounds_toArray, List.set_cons_zero, List.set_cons_succ])
            refine piv_take 7 rfl (by kernel_rfl) (by kernel_rfl) (by kernel_rfl) (by kernel_rfl) (by kernel_rfl) (fun _ _ _ _ h => h) (by rfl) ?_ ?_ (by assumption) ?_
            rotate_left
            · (intro wx hSx; (try dsimp only at hSx); go_simp)
              all_goals with_reducible rfl
            (try simp only [Act.put, List.setIfInBounds_toArray, List.set_cons_zero, List.set_cons_succ])
            refine piv_take 8 rfl (by kernel_rfl) (by kernel_rfl) (by kernel_rfl) (by kernel_rfl) (by kernel_rfl) (fun _ _ _ _ h => h) (by rfl) ?_ ?_ (by assumption) ?_
            rotate_left
            · (intro wx hSx; (try dsimp only at hSx); go_simp)
              all_goals with_reducible rfl
            (try simp only [Act.put, List.setIfInBounds_toArray, List.set_cons_zero, List.set_cons_succ])
            refine piv_take 9 rfl (by kernel_rfl) (by kernel_rfl) (by kernel_rfl) (by kernel_rfl) (by kernel_rfl) (fun _ _ _ _ h => h) (by rfl) ?_ ?_ (by assumption) ?_
            rotate_left
            · (intro wx hSx; (try dsimp only at hSx); go_simp)
              all_goals with_reducible rfl
            (try simp only [Act.put, List.setIfInBounds_toArray, List.set_cons_zero, List.set_cons_succ])
            refine piv_pure 2 rfl (by kernel_rfl) (by kernel_rfl) (by kernel_rfl) (by kernel_rfl) (fun _ _ _ _ h => h) (by rfl) ?_ ?_ (by assumption) ?_
            rotate_left
            · (intro wx _; go_simp)
              all_goals with_reducible rfl
            (try simp only [Act.put, List.setIfInBounds_toArray, List.set_cons_zero, List.set_cons_succ])
            refine piv_pure 3 rfl (by kernel_rfl) (by kernel_rfl) (by kernel_rfl) (by kernel_rfl) (fun _ _ _ _ h => h) (by rfl) ?_ ?_ (by assumption) ?_
            rotate_left
            · (intro wx _; go_simp)
              all_goals with_reducible rfl
            (try simp only [Act.put, List.setIfInBounds_toArray, List.set_cons_zero, List.set_cons_succ])
            refine piv_pure 4 rfl (by kernel_rfl) (by kernel_rfl) (by kernel_rfl) (by kernel_rfl) (fun _ _ _ _ h => h) (by rfl) ?_ ?_ (by assumption) ?_
            rotate_left
            · (intro wx _; go_simp)
              all_goals with_reducible rfl
            (try simp only [Act.put, List.setIfInBounds_toArray, List.set_cons_zero, List.set_cons_succ])
            refine piv_pure 10 rfl (by kernel_rfl) (by kernel_rfl) (by kernel_rfl) (by kernel_rfl) (fun _ _ _ _ h => h) (by rfl) ?_ ?_ (by assumption) ?_
            rotate_left
            · (intro wx _; go_simp)
              all_goals with_reducible rfl
            (try simp only [Act.put, List.setIfInBounds_toArray, List.set_cons_zero, List.set_cons_succ])
            refine piv_pure 11 rfl (by kernel_rfl) (by kernel_rfl) (by kernel_rfl) (by kernel_rfl) (fun _ _ _ _ h => h) (by rfl) ?_ ?_ (by assumption) ?_
            rotate_left
            · (intro wx _; go_simp)
              all_goals with_reducible rfl
            (try simp only [Act.put, List.setIfInBounds_toArray, List.set_cons_zero, List.set_cons_succ])
            refine piv_pure 12 rfl (by kernel_rfl) (by kernel_rfl) (by kernel_rfl) (by kernel_rfl) (fun _ _ _ _ h => h) (by rfl) ?_ ?_ (by assumption) ?_
            rotate_left
            · (intro wx _; go_simp)
              all_goals with_reducible rfl
            (try simp only [Act.put, List.setIfInBounds_toArray, List.set_cons_zero, List.set_cons_succ])
            refine piv_take 13 rfl (by kernel_rfl) (by kernel_rfl) (by kernel_rfl) (by kernel_rfl) (by kernel_rfl) (fun _ _ _ _ h => h) (by rfl) ?_ ?_ (by assumption) ?_
            rotate_left
            · (intro wx hSx; (try dsimp only at hSx); go_simp)
              all_goals with_reducible rfl
            (try simp only [Act.put, List.setIfInBounds_toArray, List.set_cons_zero, List.set_cons_succ])
            refine piv_pure 14 rfl (by kernel_rfl) (by kernel_rfl) (by kernel_rfl) (by kernel_rfl) (fun _ _ _ _ h => h) (by rfl) ?_ ?_ (by assumption) ?_
            rotate_left
            · (intro wx _; go_simp)
              all_goals with_reducible rfl
            (try simp only [Act.put, List.setIfInBounds_toArray, List.set_cons_zero, List.set_cons_succ])
            refine piv_late 15 rfl (by kernel_rfl) (by kernel_rfl) (fun K hK => ?_)
            go_simp
            refine hK.out _ _ ?_
            clear hK K
            (try simp only [Act.put, List.setIfInBounds_toArray, List.set_cons_zero, List.set_cons_succ])
            refine piv_late 16 rfl (by kernel_rfl) (by kernel_rfl) (fun K hK => ?_)
            go_simp
            refine hK.out _ _ ?_
            clear hK K
            (try simp only [Act.put, List.setIfInBounds_toArray, List.set_cons_zero, List.set_cons_succ])
            refine piv_late 17 rfl (by kernel_rfl) (by kernel_rfl) (fun K hK => ?_)
            go_simp
            refine hK.out _ _ ?_
            clear hK K
            (try simp only [Act.put, List.setIfInBounds_toArray, List.set_cons_zero, List.set_cons_succ])
            refine piv_done (by kernel_rfl) ?_ _
            go_wp2_with fail
            go_roundw
            case rel => exact HS5.out
            case measure =>
              have := EJ.out.2.2.2.2
              simp [intOf]
              omega
          · have HO := hide (by
              obtain ⟨q1, q2, q3, q4, q5⟩ := EJ.out
              refine ins_next (m := m) (ia1 := ia1) HX.out (by rw [HI.out.2.1, HI.out.1]; rfl) q2 q3 q4 (fun z hz => ?_) HR.out (Ext.refl wr)
              have hyx : LT K y x := LT.tot (fun h => hrr (hr.2 h)) hne
              rcases List.mem_append.1 hz with hz | hz
              · exact LT.trans ((List.pairwise_append.1 (List.pairwise_append.1 q2).1).2.2 z hz y (by simp)) hyx
              · cases List.mem_singleton.1 hz
                exact hyx)
            clear hr
            go_wp2_with fail
            refine wp_region_held_drew (S := (fun w' => w'.cell? ⟨g, ja, none⟩ = some (.int .i64 x) ∧ w'.cell? ⟨g, j1, none⟩ = some (.int .i64 y))) (by kernel_rfl) ⟨(Ext.refl wr).drew.cell cx, (Ext.refl wr).drew.cell cy⟩ (fun hHeld => ?_)
            refine held_take 0 rfl (by kernel_rfl) (by kernel_rfl) (by kernel_rfl) (fun _ _ _ _ h => h) (by rfl) ?_ ?_ (by assumption) ?_
            rotate_left
            · (intro wx hSx; (try dsimp only at hSx); go_simp)
              all_goals with_reducible rfl
            (try simp only [Act.put, List.setIfInBounds_toArray, List.set_cons_zero, List.set_cons_succ])
            refine held_take 1 rfl (by kernel_rfl) (by kernel_rfl) (by kernel_rfl) (fun _ _ _ _ h => h) (by rfl) ?_ ?_ (by assumption) ?_
            rotate_left
            · (intro wx hSx; (try dsimp only at hSx); go_simp)
              all_goals with_reducible rfl
            (try simp only [Act.put, List.setIfInBounds_toArray, List.set_cons_zero, List.set_cons_succ])
            refine held_take 2 rfl (by kernel_rfl) (by kernel_rfl) (by kernel_rfl) (fun _ _ _ _ h => h) (by rfl) ?_ ?_ (by assumption) ?_
            rotate_left
            · (intro wx hSx; (try dsimp only at hSx); go_simp)
              all_goals with_reducible rfl
            (try simp only [Act.put, List.setIfInBounds_toArray, List.set_cons_zero, List.set_cons_succ])
            (try rw [I3.out])
            refine held_take 3 rfl (by kernel_rfl) (by kernel_rfl) (by kernel_rfl) (fun _ _ _ _ h => h) (by rfl) ?_ ?_ (by assumption) ?_
            rotate_left
            · (intro wx hSx; (try dsimp only at hSx); go_simp)
              all_goals with_reducible rfl
            (try simp only [Act.put, List.setIfInBounds_toArray, List.set_cons_zero, List.set_cons_succ])
            refine held_take 4 rfl (by kernel_rfl) (by kernel_rfl) (by kernel_rfl) (fun _ _ _ _ h => h) (by rfl) ?_ ?_ (by assumption) ?_
            rotate_left
            · (intro wx hSx; (try dsimp only at hSx); go_simp)
              all_goals with_reducible rfl
            (try simp only [Act.put, List.setIfInBounds_toArray, List.set_cons_zero, List.set_cons_succ])
            refine held_take 5 rfl (by kernel_rfl) (by kernel_rfl) (by kernel_rfl) (fun _ _ _ _ h => h) (by rfl) ?_ ?_ (by assumption) ?_
            rotate_left
            · (intro wx hSx; (try dsimp only at hSx); go_simp)
              all_goals with_reducible rfl
            (try simp only [Act.put, List.setIfInBounds_toArray, List.set_cons_zero, List.set_cons_succ])
            refine held_take 6 rfl (by kernel_rfl) (by kernel_rfl) (by kernel_rfl) (fun _ _ _ _ h => h) (by rfl) ?_ ?_ (by assumption) ?_
            rotate_left
            · (intro wx hSx; (try dsimp only at hSx); go_simp)
              all_goals with_reducible rfl
            (try simp only [Act.put, List.setIfInBounds_toArray, List.set_cons_zero, List.set_cons_succ])
            refine held_take 7 rfl (by kernel_rfl) (by kernel_rfl) (by kernel_rfl) (fun _ _ _ _ h => h) (by rfl) ?_ ?_ (by assumption) ?_
            rotate_left
            · (intro wx hSx; (try dsimp only at hSx); go_simp)
              all_goals with_reducible rfl
            (try simp only [Act.put, List.setIfInBounds_toArray, List.set_cons_zero, List.set_cons_succ])
            refine held_take 8 rfl (by kernel_rfl) (by kernel_rfl) (by kernel_rfl) (fun _ _ _ _ h => h) (by rfl) ?_ ?_ (by assumption) ?_
            rotate_left
            · (intro wx hSx; (try dsimp only at hSx); go_simp)
              all_goals with_reducible rfl
            (try simp only [Act.put, List.setIfInBounds_toArray, List.set_cons_zero, List.set_cons_succ])
            refine held_take 9 rfl (by kernel_rfl) (by kernel_rfl) (by kernel_rfl) (fun _ _ _ _ h => h) (by rfl) ?_ ?_ (by assumption) ?_
            rotate_left
            · (intro wx hSx; (try dsimp only at hSx); go_simp)
              all_goals with_reducible rfl
            (try simp only [Act.put, List.setIfInBounds_toArray, List.set_cons_zero, List.set_cons_succ])
            refine held_take 10 rfl (by kernel_rfl) (by kernel_rfl) (by kernel_rfl) (fun _ _ _ _ h => h) (by rfl) ?_ ?_ (by assumption) ?_
            rotate_left
            · (intro wx hSx; (try dsimp only at hSx); go_simp)
              all_goals with_reducible rfl
            (try simp only [Act.put, List.setIfInBounds_toArray, List.set_cons_zero, List.set_cons_succ])
            refine held_take 11 rfl (by kernel_rfl) (by kernel_rfl) (by kernel_rfl) (fun _ _ _ _ h => h) (by rfl) ?_ ?_ (by assumption) ?_
            rotate_left
            · (intro wx hSx; (try dsimp only at hSx); go_simp)
              all_goals with_reducible rfl
            (try simp only [Act.put, List.setIfInBounds_toArray, List.set_cons_zero, List.set_cons_succ])
            refine held_take 12 rfl (by kernel_rfl) (by kernel_rfl) (by kernel_rfl) (fun _ _ _ _ h => h) (by rfl) ?_ ?_ (by assumption) ?_
            rotate_left
            · (intro wx hSx; (try dsimp only at hSx); go_simp)
              all_goals with_reducible rfl
            (try simp only [Act.put, List.setIfInBounds_toArray, List.set_cons_zero, List.set_cons_succ])
            refine held_take 13 rfl (by kernel_rfl) (by kernel_rfl) (by kernel_rfl) (fun _ _ _ _ h => h) (by rfl) ?_ ?_ (by assumption) ?_
            rotate_left
            · (intro wx hSx; (try dsimp only at hSx); go_simp)
              all_goals with_reducible rfl
            (try simp only [Act.put, List.setIfInBounds_toArray, List.set_cons_zero, List.set_cons_succ])
            refine held_call 14 rfl (by kernel_rfl) (fun K hK => ?_)
            go_simp
            go_at_call 47
            refine HCC.out.mono ?_
            rintro e w5 ⟨rfl, hE5⟩
            have hE5' := (Ext.refl wr).drew.trans hE5
            go_wp2_with fail
            refine hK.out _ _ ⟨hE5.cell hHeld.1, hE5.cell hHeld.2⟩ (fun hHeld => ?_)
            clear hK K
            (try simp only [Act.put, List.setIfInBounds_toArray, List.set_cons_zero, List.set_cons_succ])
            refine held_take 15 rfl (by kernel_rfl) (by kernel_rfl) (by kernel_rfl) (fun _ _ _ _ h => h) (by rfl) ?_ ?_ (by assumption) ?_
            rotate_left
            · (intro wx hSx; (try dsimp only at hSx); go_simp)
              all_goals with_reducible rfl
            (try simp only [Act.put, List.setIfInBounds_toArray, List.set_cons_zero, List.set_cons_succ])
            refine held_take 16 rfl (by kernel_rfl) (by kernel_rfl) (by kernel_rfl) (fun _ _ _ _ h => h) (by rfl) ?_ ?_ (by assumption) ?_
            rotate_left
            · (intro wx hSx; (try dsimp only at hSx); go_simp)
              all_goals with_reducible rfl
            (try simp only [Act.put, List.setIfInBounds_toArray, List.set_cons_zero, List.set_cons_succ])
            refine wpAnyH_done (by kernel_rfl) ?_ _
            go_wp2_with fail
            go_roundw
            case rel => exact HO.out.ext hE5'
            case measure =>
              obtain ⟨_, h1, h2⟩ := HI.out
              simp [intOf]
              omega
    · have hke : k = L.length ∨ L.length = 0 := by
        obtain ⟨ha, hlen, hb, ea1⟩ := HL.out
        omega
      have hfin : ∃ Z, Z.Pairwise (LT K) ∧ Z.Perm L ∧ Row w0 wr g n c (X ++ Z ++ Y) := by
        rcases hke with rfl | h0
        · refine ⟨Z, hZ, by simpa using hp, by simpa using hR⟩
        · have hl0 := List.eq_nil_of_length_eq_zero h0
          subst hl0
          have hz0 : Z = [] := by simpa using hp
          subst hz0
          exact ⟨[], hZ, List.Perm.refl _, by simpa using hR⟩
      have hf := hide hfin
      have i2 : ¬ (ia : Int) < (b : Int) := by omega
      clear hR hp hZ hfin eia hlt
      go_wp2
      go_end0
      exact ⟨rfl, by simpa using hf.out⟩
end Go.Proofs.YtillhbbeghbfeaaDoor
