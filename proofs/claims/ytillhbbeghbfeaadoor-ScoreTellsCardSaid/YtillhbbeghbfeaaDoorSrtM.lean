/- The walk of slices' symMerge where one row is a single element. -/
import Derived.Test.YtillhbbeghbfeaaDoorSrtI
import Derived.Test.YtillhbbeghbfeaaDoorSrtQ
namespace Go.Proofs.YtillhbbeghbfeaaDoor
set_option linter.unusedVariables false
set_option linter.unusedSimpArgs false
open Go.RowKit

theorem set_two (A B : List Int) (y z : Int) : ((A ++ y :: z :: B).set A.length z).set (A.length + 1) y = A ++ z :: y :: B := by
  rw [List.set_append_right _ _ (by omega), Nat.sub_self, List.set_cons_zero, List.set_append_right _ _ (by omega), show A.length + 1 - A.length = 1 by omega]
  rfl
/-- A search by halves in memory. -/
def BinW (G : Nat → Prop) (lo hi : Nat) (w : World) (vi vj : Value) (wr : World) : Prop := ∃ i j : Nat, vi = .int .i64 i ∧ vj = .int .i64 j ∧ Bin G lo hi i j ∧ Ext w wr
/-- y on its way through a row: P lies ahead of it. -/
def SwpAt (w0 : World) (g n c : Nat) (X A T : List Int) (y : Int) (v : Value) (wr : World) : Prop := ∃ P S : List Int, v = .int .i64 ((X.length + P.length : Nat) : Int) ∧ A = P ++ S ∧ Row w0 wr g n c (X ++ (P ++ y :: S) ++ T)
theorem Row.cellD {w0 w : World} {g n c : Nat} {zs : List Int} (h : Row w0 w g n c zs) {i : Nat} (hi : i < n) : w.cell? ⟨g, i, none⟩ = some (.int .i64 (dAt zs i)) := h.cell hi
theorem dAt_in {m : Nat} {zs : List Int} (h : Within m zs) {i : Nat} (hi : i < zs.length) : 0 ≤ dAt zs i ∧ dAt zs i < m := by
  refine h _ ?_
  unfold dAt
  rw [List.getD_eq_getElem?_getD, List.getElem?_eq_getElem hi]
  exact List.getElem_mem hi
set_option maxRecDepth 100000 in
set_option maxHeartbeats 4000000 in
theorem sym_ahead {w0 w : World} {bx g n c m0 : Nat} {K : Int → Int} {X R Y : List Int} {y : Int} (HC : CmpAt w0 bx m0 K) (h : Row w0 w g n c (X ++ y :: (R ++ Y))) (hw : Within m0 (X ++ y :: (R ++ Y))) (hR : R.Pairwise (LT K)) (hlt : ∀ z ∈ R, y < z) (hn : n ≤ 1000000) (a m b : Nat) (ha : a = X.length) (hm : m = a + 1) (hb : b = m + R.length) :
    Calls Tryd.prog 57 #[.slice (some ⟨g, 0, none⟩) n c, .int .i64 a, .int .i64 m, .int .i64 b, cmpV bx] w fun e w' =>
      e = .returned (.tuple #[]) ∧ ∃ Z, Z.Pairwise (LT K) ∧ Z.Perm (y :: R) ∧ Row w0 w' g n c (X ++ Z ++ Y) := by
  have hlen := h.len
  simp only [List.length_append, List.length_cons] at hlen
  have hc := h.1.sl.nc
  have hcm := h.1.sl.cm
  obtain ⟨zs, hzs⟩ : ∃ zs, zs = X ++ y :: (R ++ Y) := ⟨_, rfl⟩
  rw [← hzs] at h hw
  have hbn : b ≤ n := by omega
  have hzl : zs.length = n := h.len
  have hya : dAt zs a = y := by
    have := dAt_mid (X := X) (L := [y]) (T := R ++ Y) (s := 0) (by simp)
    rw [hzs, ha]
    simpa using this.symm
  have hmn := mono_one (X := X ++ [y]) (T := Y) (y := y) (a := m) (m := b) hR (by simp; omega) hb
  rw [show (X ++ [y]) ++ (R ++ Y) = zs by rw [hzs]; simp] at hmn
  obtain ⟨G, hG⟩ : ∃ G : Nat → Prop, G = fun t => LT K (dAt zs t) y := ⟨_, rfl⟩
  have W0 : IntKind.i64.wrap ((m : Int) - (a : Int)) = 1 := by
    rw [wrap_sub (by omega) (by omega)]
    omega
  have hs : BinW G m b w (.int .i64 (m : Nat)) (.int .i64 (b : Nat)) w := ⟨m, b, rfl, rfl, Bin.start (by omega), Ext.refl w⟩
  have HL := hide (And.intro ha (And.intro hm (And.intro hb (And.intro hlen (And.intro hzs hG)))))
  have HF := hide (And.intro hR (And.intro hlt hw))
  have HM := hide hmn
  clear ha hm hb hlen hzs hG hR hlt hw hmn
  unfold cmpV
  go_enter Tryd.func57, Tryd.ntmps57
  go_wp2_with fail
  clear W0
  go_loopw [10, 11] (fun vi vj wr => BinW G m b w vi vj wr) (fun vi vj _ => (intOf vj).toNat - (intOf vi).toNat)
  case atStart => exact hs
  case round =>
    obtain ⟨i, j, rfl, rfl, hB, hE⟩ := hrel
    have hB1 := hB.1
    have hB2 := hB.2.1
    have hB3 := hB.2.2.1
    by_cases hij : i < j
    · have i2 : (i : Int) < (j : Int) := by omega
      obtain ⟨hh, ehh⟩ : ∃ hh, hh = (i + j) / 2 := ⟨_, rfl⟩
      have eh : ((i : Int) + (j : Int)) / 2 = (hh : Int) := by omega
      have h1 : i ≤ hh := by omega
      have h2 : hh < j := by omega
      have i3 : (hh : Int) < (n : Int) := by omega
      have i4 : (a : Int) < (n : Int) := by have := HL.out.2.1; omega
      have i5 : hh < n := by omega
      have i6 : a < n := by omega
      have hRr := h.ext hE
      have cx := hRr.cellD i5
      have cy := hRr.cellD i6
      rw [hya] at cy
      obtain ⟨x, hx⟩ : ∃ x, dAt zs hh = x := ⟨_, rfl⟩
      rw [hx] at cx
      have hxr := dAt_in HF.out.2.2 (i := hh) (by omega)
      have hyr := dAt_in HF.out.2.2 (i := a) (by omega)
      rw [hx] at hxr
      rw [hya] at hyr
      have hyx : y < x := by
        refine HF.out.2.1 x ?_
        rw [← hx, HL.out.2.2.2.2.1, show X ++ y :: (R ++ Y) = (X ++ [y]) ++ (R ++ Y) by simp]
        obtain ⟨q1, q2, q3, q4, q5, q6⟩ := HL.out
        exact dAt_memL (a := m) (by simp; omega) (by omega) (by omega)
      obtain ⟨r, hr, hcall⟩ := HC wr.drew (hRr.2.trans (Ext.refl wr).drew) x y hxr.1 hxr.2 hyr.1 hyr.2
      rw [← LT.key hyx] at hr
      have hGx : G hh ↔ LT K x y := by rw [HL.out.2.2.2.2.2]; dsimp only; rw [hx]
      have HCC := hide hcall
      have HB := hide hB
      have W1 : IntKind.i64.wrap ((hh : Int) + 1) = ((hh + 1 : Nat) : Int) := wrap_nat2 (a := hh) (b := 1) (by omega)
      obtain ⟨h3, eh3⟩ : ∃ h3, h3 = hh + 1 := ⟨_, rfl⟩
      rw [← eh3] at W1
      have E3 := hide (And.intro eh3 ehh)
      have hB4 : i + j ≤ 2000000 := by omega
      clear hcall hxr hyr hyx hB hRr eh3 ehh
      by_cases hrr : r < 0
      · have HRR := hide (Bin.up (G := G) (fun s t => by rw [HL.out.2.2.2.2.2]; exact HM.out s t) HB.out h1 h2 (hGx.2 (hr.1 hrr)))
        clear hr hGx
        go_wp2_with fail
        refine wp_region_held_drew (S := (fun w' => w'.cell? ⟨g, hh, none⟩ = some (.int .i64 x) ∧ w'.cell? ⟨g, a, none⟩ = some (.int .i64 y))) (by kernel_rfl) ⟨(Ext.refl wr).drew.cell cx, (Ext.refl wr).drew.cell cy⟩ (fun hHeld => ?_)
        refine held_take 0 rfl (by kernel_rfl) (by kernel_rfl) (by kernel_rfl) (fun _ _ _ _ h => h) (by rfl) ?_ ?_ (by assumption) ?_
        rotate_left
        · (intro wx hSx; (try dsimp only at hSx); go_simp)
          all_goals with_reducible rfl
        (try simp only [Act.put, List.setIfInBounds_toArray, List.set_cons_zero, List.set_cons_succ])
        refine held_take 1 rfl (by kernel_rfl) (by kernel_rfl) (by kernel_rfl) (fun _ _ _ _ h => h) (by rfl) ?_ ?_ (by assumption) ?_
        rotate_left
        · (intro wx hSx; (try dsimp only at hSx); go_simp)
          all_goals with_reducible rfl
        (try simp only [Act.put, List.setIfInBounds_toArray, List.set_cons_zero, List.set_cons_succ])
        refine held_take 2 rfl (by kernel_rfl) (by kernel_rfl) (by kernel_rfl) (fun _ _ _ _ h => h) (by rfl) ?_ ?_ (by assumption) ?_
        rotate_left
        · (intro wx hSx; (try dsimp only at hSx); go_simp)
          all_goals with_reducible rfl
        (try simp only [Act.put, List.setIfInBounds_toArray, List.set_cons_zero, List.set_cons_succ])
        refine held_take 3 rfl (by kernel_rfl) (by kernel_rfl) (by kernel_rfl) (fun _ _ _ _ h => h) (by rfl) ?_ ?_ (by assumption) ?_
        rotate_left
        · (intro wx hSx; (try dsimp only at hSx); go_simp)
          all_goals with_reducible rfl
        (try simp only [Act.put, List.setIfInBounds_toArray, List.set_cons_zero, List.set_cons_succ])
        refine held_take 4 rfl (by kernel_rfl) (by kernel_rfl) (by kernel_rfl) (fun _ _ _ _ h => h) (by rfl) ?_ ?_ (by assumption) ?_
        rotate_left
        · (intro wx hSx; (try dsimp only at hSx); go_simp)
          all_goals with_reducible rfl
        (try simp only [Act.put, List.setIfInBounds_toArray, List.set_cons_zero, List.set_cons_succ])
        refine held_take 5 rfl (by kernel_rfl) (by kernel_rfl) (by kernel_rfl) (fun _ _ _ _ h => h) (by rfl) ?_ ?_ (by assumption) ?_
        rotate_left
        · (intro wx hSx; (try dsimp only at hSx); go_simp)
          all_goals with_reducible rfl
        (try simp only [Act.put, List.setIfInBounds_toArray, List.set_cons_zero, List.set_cons_succ])
        refine held_take 6 rfl (by kernel_rfl) (by kernel_rfl) (by kernel_rfl) (fun _ _ _ _ h => h) (by rfl) ?_ ?_ (by assumption) ?_
        rotate_left
        · (intro wx hSx; (try dsimp only at hSx); go_simp)
          all_goals with_reducible rfl
        (try simp only [Act.put, List.setIfInBounds_toArray, List.set_cons_zero, List.set_cons_succ])
        refine held_take 7 rfl (by kernel_rfl) (by kernel_rfl) (by kernel_rfl) (fun _ _ _ _ h => h) (by rfl) ?_ ?_ (by assumption) ?_
        rotate_left
        · (intro wx hSx; (try dsimp only at hSx); go_simp)
          all_goals with_reducible rfl
        (try simp only [Act.put, List.setIfInBounds_toArray, List.set_cons_zero, List.set_cons_succ])
        refine held_take 8 rfl (by kernel_rfl) (by kernel_rfl) (by kernel_rfl) (fun _ _ _ _ h => h) (by rfl) ?_ ?_ (by assumption) ?_
        rotate_left
        · (intro wx hSx; (try dsimp only at hSx); go_simp)
          all_goals with_reducible rfl
        (try simp only [Act.put, List.setIfInBounds_toArray, List.set_cons_zero, List.set_cons_succ])
        refine held_call 9 rfl (by kernel_rfl) (fun K hK => ?_)
        go_simp
        go_at_call 47
        refine HCC.out.mono ?_
        rintro e w5 ⟨rfl, hE5⟩
        have hE5' := hE.trans ((Ext.refl wr).drew.trans hE5)
        go_wp2_with fail
        refine hK.out _ _ ⟨hE5.cell hHeld.1, hE5.cell hHeld.2⟩ (fun hHeld => ?_)
        clear hK K
        (try simp only [Act.put, List.setIfInBounds_toArray, List.set_cons_zero, List.set_cons_succ])
        refine held_take 10 rfl (by kernel_rfl) (by kernel_rfl) (by kernel_rfl) (fun _ _ _ _ h => h) (by rfl) ?_ ?_ (by assumption) ?_
        rotate_left
        · (intro wx hSx; (try dsimp only at hSx); go_simp)
          all_goals with_reducible rfl
        (try simp only [Act.put, List.setIfInBounds_toArray, List.set_cons_zero, List.set_cons_succ])
        refine wpAnyH_done (by kernel_rfl) ?_ _
        go_wp2_with fail
        go_roundw
        case rel => exact ⟨h3, j, rfl, rfl, by rw [E3.out.1]; exact HRR.out, hE5'⟩
        case measure =>
          have := E3.out
          simp [intOf]
          omega
      · have HRR := hide (Bin.dn (G := G) (fun s t => by rw [HL.out.2.2.2.2.2]; exact HM.out s t) HB.out h1 h2 (fun hg => hrr (hr.2 (hGx.1 hg))))
        clear hr hGx
        go_wp2_with fail
        refine wp_region_held_drew (S := (fun w' => w'.cell? ⟨g, hh, none⟩ = some (.int .i64 x) ∧ w'.cell? ⟨g, a, none⟩ = some (.int .i64 y))) (by kernel_rfl) ⟨(Ext.refl wr).drew.cell cx, (Ext.refl wr).drew.cell cy⟩ (fun hHeld => ?_)
        refine held_take 0 rfl (by kernel_rfl) (by kernel_rfl) (by kernel_rfl) (fun _ _ _ _ h => h) (by rfl) ?_ ?_ (by assumption) ?_
        rotate_left
        · (intro wx hSx; (try dsimp only at hSx); go_simp)
          all_goals with_reducible rfl
        (try simp only [Act.put, List.setIfInBounds_toArray, List.set_cons_zero, List.set_cons_succ])
        refine held_take 1 rfl (by kernel_rfl) (by kernel_rfl) (by kernel_rfl) (fun _ _ _ _ h => h) (by rfl) ?_ ?_ (by assumption) ?_
        rotate_left
        · (intro wx hSx; (try dsimp only at hSx); go_simp)
          all_goals with_reducible rfl
        (try simp only [Act.put, List.setIfInBounds_toArray, List.set_cons_zero, List.set_cons_succ])
        refine held_take 2 rfl (by kernel_rfl) (by kernel_rfl) (by kernel_rfl) (fun _ _ _ _ h => h) (by rfl) ?_ ?_ (by assumption) ?_
        rotate_left
        · (intro wx hSx; (try dsimp only at hSx); go_simp)
          all_goals with_reducible rfl
        (try simp only [Act.put, List.setIfInBounds_toArray, List.set_cons_zero, List.set_cons_succ])
        refine held_take 3 rfl (by kernel_rfl) (by kernel_rfl) (by kernel_rfl) (fun _ _ _ _ h => h) (by rfl) ?_ ?_ (by assumption) ?_
        rotate_left
        · (intro wx hSx; (try dsimp only at hSx); go_simp)
          all_goals with_reducible rfl
        (try simp only [Act.put, List.setIfInBounds_toArray, List.set_cons_zero, List.set_cons_succ])
        refine held_take 4 rfl (by kernel_rfl) (by kernel_rfl) (by kernel_rfl) (fun _ _ _ _ h => h) (by rfl) ?_ ?_ (by assumption) ?_
        rotate_left
        · (intro wx hSx; (try dsimp only at hSx); go_simp)
          all_goals with_reducible rfl
        (try simp only [Act.put, List.setIfInBounds_toArray, List.set_cons_zero, List.set_cons_succ])
        refine held_take 5 rfl (by kernel_rfl) (by kernel_rfl) (by kernel_rfl) (fun _ _ _ _ h => h) (by rfl) ?_ ?_ (by assumption) ?_
        rotate_left
        · (intro wx hSx; (try dsimp only at hSx); go_simp)
          all_goals with_reducible rfl
        (try simp only [Act.put, List.setIfInBounds_toArray, List.set_cons_zero, List.set_cons_succ])
        refine held_take 6 rfl (by kernel_rfl) (by kernel_rfl) (by kernel_rfl) (fun _ _ _ _ h => h) (by rfl) ?_ ?_ (by assumption) ?_
        rotate_left
        · (intro wx hSx; (try dsimp only at hSx); go_simp)
          all_goals with_reducible rfl
        (try simp only [Act.put, List.setIfInBounds_toArray, List.set_cons_zero, List.set_cons_succ])
        refine held_take 7 rfl (by kernel_rfl) (by kernel_rfl) (by kernel_rfl) (fun _ _ _ _ h => h) (by rfl) ?_ ?_ (by assumption) ?_
        rotate_left
        · (intro wx hSx; (try dsimp only at hSx); go_simp)
          all_goals with_reducible rfl
        (try simp only [Act.put, List.setIfInBounds_toArray, List.set_cons_zero, List.set_cons_succ])
        refine held_take 8 rfl (by kernel_rfl) (by kernel_rfl) (by kernel_rfl) (fun _ _ _ _ h => h) (by rfl) ?_ ?_ (by assumption) ?_
        rotate_left
        · (intro wx hSx; (try dsimp only at hSx); go_simp)
          all_goals with_reducible rfl
        (try simp only [Act.put, List.setIfInBounds_toArray, List.set_cons_zero, List.set_cons_succ])
        refine held_call 9 rfl (by kernel_rfl) (fun K hK => ?_)
        go_simp
        go_at_call 47
        refine HCC.out.mono ?_
        rintro e w5 ⟨rfl, hE5⟩
        have hE5' := hE.trans ((Ext.refl wr).drew.trans hE5)
        go_wp2_with fail
        refine hK.out _ _ ⟨hE5.cell hHeld.1, hE5.cell hHeld.2⟩ (fun hHeld => ?_)
        clear hK K
        (try simp only [Act.put, List.setIfInBounds_toArray, List.set_cons_zero, List.set_cons_succ])
        refine held_take 10 rfl (by kernel_rfl) (by kernel_rfl) (by kernel_rfl) (fun _ _ _ _ h => h) (by rfl) ?_ ?_ (by assumption) ?_
        rotate_left
        · (intro wx hSx; (try dsimp only at hSx); go_simp)
          all_goals with_reducible rfl
        (try simp only [Act.put, List.setIfInBounds_toArray, List.set_cons_zero, List.set_cons_succ])
        refine wpAnyH_done (by kernel_rfl) ?_ _
        go_wp2_with fail
        go_roundw
        case rel => exact ⟨i, hh, rfl, rfl, HRR.out, hE5'⟩
        case measure =>
          have := E3.out
          simp [intOf]
          omega
    · obtain rfl : i = j := by omega
      have i2 : ¬ (i : Int) < (i : Int) := by omega
      have hR2 := h.ext hE
      have hZ : (R.take (i - m) ++ y :: R.drop (i - m)).Pairwise (LT K) := by
        obtain ⟨q1, q2, q3, q4, q5, q6⟩ := HL.out
        rw [q6, q5] at hB
        exact one_ahead HF.out.1 HF.out.2.1 (by omega) q3 hB
      have hst : SwpAt w0 g n c X (R.take (i - m)) (R.drop (i - m) ++ Y) y (.int .i64 (a : Nat)) wr := by
        refine ⟨[], R.take (i - m), by rw [HL.out.1]; simp, rfl, ?_⟩
        rw [HL.out.2.2.2.2.1] at hR2
        have e : X ++ ([] ++ y :: R.take (i - m)) ++ (R.drop (i - m) ++ Y) = X ++ y :: (R ++ Y) := by
          simp only [List.nil_append, List.append_assoc, List.cons_append]
          rw [← List.append_assoc (R.take (i - m)), List.take_append_drop]
        rw [e]
        exact hR2
      have W1 : IntKind.i64.wrap ((i : Int) - 1) = ((i - 1 : Nat) : Int) := wrap_sub (a := i) (b := 1) (by have := HL.out.2.1; omega) (by omega)
      obtain ⟨i1, ei1⟩ : ∃ i1, i1 = i - 1 := ⟨_, rfl⟩
      rw [← ei1] at W1
      have hin : i ≤ n := by omega
      have EI := hide (And.intro ei1 (And.intro hB1 hB3))
      have HZ := hide hZ
      clear hR2 hZ ei1 hB hB1 hB2 hB3 h hs hE
      go_wp2_with fail
      go_loopw [13] (fun v wr => SwpAt w0 g n c X (R.take (i - m)) (R.drop (i - m) ++ Y) y v wr) (fun v _ => i - (intOf v).toNat)
      case atStart => exact hst
      case round =>
        clear hst
        obtain ⟨P, S, rfl, hPS, hR⟩ := hrel
        obtain ⟨k, hk⟩ : ∃ k, k = X.length + P.length := ⟨_, rfl⟩
        rw [← hk]
        have hlPS : i - m = P.length + S.length := by
          have := congrArg List.length hPS
          rw [List.length_take, List.length_append] at this
          obtain ⟨q1, q2, q3, q4, q5, q6⟩ := HL.out
          obtain ⟨e1, e2, e3⟩ := EI.out
          omega
        cases S with
        | nil =>
          have hf : ∃ Z, Z.Pairwise (LT K) ∧ Z.Perm (y :: R) ∧ Row w0 wr g n c (X ++ Z ++ Y) := by
            refine ⟨_, HZ.out, ?_, ?_⟩
            · refine List.perm_middle.trans ?_
              rw [List.take_append_drop]
            · rw [hPS]
              simpa using hR
          have i3 : ¬ (k : Int) < (i1 : Int) := by
            obtain ⟨q1, q2, q3, q4, q5, q6⟩ := HL.out
            obtain ⟨e1, e2, e3⟩ := EI.out
            simp at hlPS
            omega
          have HF2 := hide hf
          clear hf hR hk
          go_wp2_with fail
          (try simp only [Exit.inBlock, Exit.then]); refine bodyPost_ret (results_none rfl _ _ _) rfl ?_
          exact ⟨rfl, by simpa using HF2.out⟩
        | cons z S =>
          have i3 : (k : Int) < (i1 : Int) := by
            obtain ⟨q1, q2, q3, q4, q5, q6⟩ := HL.out
            obtain ⟨e1, e2, e3⟩ := EI.out
            simp at hlPS
            omega
          have hkn : k + 1 < n := by
            obtain ⟨e1, e2, e3⟩ := EI.out
            omega
          have W2 : IntKind.i64.wrap ((k : Int) + 1) = ((k + 1 : Nat) : Int) := wrap_nat2 (a := k) (b := 1) (by omega)
          obtain ⟨k1, ek1⟩ : ∃ k1, k1 = k + 1 := ⟨_, rfl⟩
          rw [← ek1] at W2
          have i4 : (k : Int) < (n : Int) := by omega
          have i5 : (k1 : Int) < (n : Int) := by omega
          have hne : k ≠ k1 := by omega
          have hne' : k1 ≠ k := by omega
          have ck : wr.cell? ⟨g, k, none⟩ = some (.int .i64 y) := by
            rw [hR.cell (by omega), List.getD_eq_getElem?_getD, List.append_assoc, List.getElem?_append_right (by omega), show k - X.length = P.length by omega]
            simp
          have ck1 : wr.cell? ⟨g, k1, none⟩ = some (.int .i64 z) := by
            rw [hR.cell (by omega), List.getD_eq_getElem?_getD, List.append_assoc, List.getElem?_append_right (by omega), show k1 - X.length = P.length + 1 by omega, List.append_assoc, List.getElem?_append_right (by omega)]
            simp
          have dk := (Ext.refl wr).drew.cell ck
          have dk1 := (Ext.refl wr).drew.cell ck1
          have fk := hR.1.frozenAt k
          have fk1 := hR.1.frozenAt k1
          have hnext : ∀ w', Ext ((wr.setCell ⟨g, k, none⟩ (.int .i64 z)).setCell ⟨g, k1, none⟩ (.int .i64 y)) w' → SwpAt w0 g n c X (R.take (i - m)) (R.drop (i - m) ++ Y) y (.int .i64 (k1 : Nat)) w' := by
            intro w' hE
            refine ⟨P ++ [z], S, by simp; omega, by rw [hPS]; simp, ?_⟩
            have h2 := ((hR.set k z).set k1 y).ext hE
            have e : ((X ++ (P ++ y :: z :: S) ++ (R.drop (i - m) ++ Y)).set k z).set k1 y = X ++ ((P ++ [z]) ++ y :: S) ++ (R.drop (i - m) ++ Y) := by
              have l1 : k = (X ++ P).length := by rw [List.length_append]; omega
              have l2 : k1 = (X ++ P).length + 1 := by omega
              rw [show X ++ (P ++ y :: z :: S) ++ (R.drop (i - m) ++ Y) = (X ++ P) ++ y :: z :: (S ++ (R.drop (i - m) ++ Y)) by simp, l2, l1, set_two]
              simp
            rw [e] at h2
            exact h2
          have HN := hide (And.intro hnext (And.intro hk ek1))
          clear hnext hk ek1 hR hkn hlPS hPS
          go_wp2_with fail
          refine piv_begin 15 (fun w' => w'.cell? ⟨g, k, none⟩ = some (.int .i64 y) ∧ w'.cell? ⟨g, k1, none⟩ = some (.int .i64 z)) (by kernel_rfl) ⟨dk, dk1⟩ (fun hHeld => ?_)
          refine piv_take 0 rfl (by kernel_rfl) (by kernel_rfl) (by kernel_rfl) (by kernel_rfl) (by kernel_rfl) (fun _ _ _ _ h => h) (by rfl) ?_ ?_ (by assumption) ?_
          rotate_left
          · (intro wx hSx; (try dsimp only at hSx); go_simp)
            all_goals with_reducible rfl
          (try simp only [Act.put, List.setIfInBounds_toArray, List.set_cons_zero, List.set_cons_succ])
          refine piv_take 1 rfl (by kernel_rfl) (by kernel_rfl) (by kernel_rfl) (by kernel_rfl) (by kernel_rfl) (fun _ _ _ _ h => h) (by rfl) ?_ ?_ (by assumption) ?_
          rotate_left
          · (intro wx hSx; (try dsimp only at hSx); go_simp)
            all_goals with_reducible rfl
          (try simp only [Act.put, List.setIfInBounds_toArray, List.set_cons_zero, List.set_cons_succ])
          refine piv_take 5 rfl (by kernel_rfl) (by kernel_rfl) (by kernel_rfl) (by kernel_rfl) (by kernel_rfl) (fun _ _ _ _ h => h) (by rfl) ?_ ?_ (by assumption) ?_
          rotate_left
          · (intro wx hSx; (try dsimp only at hSx); go_simp)
            all_goals with_reducible rfl
          (try simp only [Act.put, List.setIfInBounds_toArray, List.set_cons_zero, List.set_cons_succ])
          refine piv_take 6 rfl (by kernel_rfl) (by kernel_rfl) (by kernel_rfl) (by kernel_rfl) (by kernel_rfl) (fun _ _ _ _ h => h) (by rfl) ?_ ?_ (by assumption) ?_
          rotate_left
          · (intro wx hSx; (try dsimp only at hSx); go_simp)
            all_goals with_reducible rfl
          (try simp only [Act.put, List.setIfInBounds_toArray, List.set_cons_zero, List.set_cons_succ])
          refine piv_take 7 rfl (by kernel_rfl) (by kernel_rfl) (by kernel_rfl) (by kernel_rfl) (by kernel_rfl) (fun _ _ _ _ h => h) (by rfl) ?_ ?_ (by assumption) ?_
          rotate_left
          · (intro wx hSx; (try dsimp only at hSx); go_simp)
            all_goals with_reducible rfl
          (try simp only [Act.put, List.setIfInBounds_toArray, List.set_cons_zero, List.set_cons_succ])
          refine piv_take 8 rfl (by kernel_rfl) (by kernel_rfl) (by kernel_rfl) (by kernel_rfl) (by kernel_rfl) (fun _ _ _ _ h => h) (by rfl) ?_ ?_ (by assumption) ?_
          rotate_left
          · (intro wx hSx; (try dsimp only at hSx); go_simp)
            all_goals with_reducible rfl
          (try simp only [Act.put, List.setIfInBounds_toArray, List.set_cons_zero, List.set_cons_succ])
          refine piv_take 9 rfl (by kernel_rfl) (by kernel_rfl) (by kernel_rfl) (by kernel_rfl) (by kernel_rfl) (fun _ _ _ _ h => h) (by rfl) ?_ ?_ (by assumption) ?_
          rotate_left
          · (intro wx hSx; (try dsimp only at hSx); go_simp)
            all_goals with_reducible rfl
          (try simp only [Act.put, List.setIfInBounds_toArray, List.set_cons_zero, List.set_cons_succ])
          refine piv_pure 2 rfl (by kernel_rfl) (by kernel_rfl) (by kernel_rfl) (by kernel_rfl) (fun _ _ _ _ h => h) (by rfl) ?_ ?_ (by assumption) ?_
          rotate_left
          · (intro wx _; go_simp)
            all_goals with_reducible rfl
          (try simp only [Act.put, List.setIfInBounds_toArray, List.set_cons_zero, List.set_cons_succ])
          refine piv_pure 3 rfl (by kernel_rfl) (by kernel_rfl) (by kernel_rfl) (by kernel_rfl) (fun _ _ _ _ h => h) (by rfl) ?_ ?_ (by assumption) ?_
          rotate_left
          · (intro wx _; go_simp)
            all_goals with_reducible rfl
          (try simp only [Act.put, List.setIfInBounds_toArray, List.set_cons_zero, List.set_cons_succ])
          refine piv_pure 4 rfl (by kernel_rfl) (by kernel_rfl) (by kernel_rfl) (by kernel_rfl) (fun _ _ _ _ h => h) (by rfl) ?_ ?_ (by assumption) ?_
          rotate_left
          · (intro wx _; go_simp)
            all_goals with_reducible rfl
          (try simp only [Act.put, List.setIfInBounds_toArray, List.set_cons_zero, List.set_cons_succ])
          refine piv_pure 10 rfl (by kernel_rfl) (by kernel_rfl) (by kernel_rfl) (by kernel_rfl) (fun _ _ _ _ h => h) (by rfl) ?_ ?_ (by assumption) ?_
          rotate_left
          · (intro wx _; go_simp)
            all_goals with_reducible rfl
          (try simp only [Act.put, List.setIfInBounds_toArray, List.set_cons_zero, List.set_cons_succ])
          refine piv_pure 11 rfl (by kernel_rfl) (by kernel_rfl) (by kernel_rfl) (by kernel_rfl) (fun _ _ _ _ h => h) (by rfl) ?_ ?_ (by assumption) ?_
          rotate_left
          · (intro wx _; go_simp)
            all_goals with_reducible rfl
          (try simp only [Act.put, List.setIfInBounds_toArray, List.set_cons_zero, List.set_cons_succ])
          refine piv_pure 12 rfl (by kernel_rfl) (by kernel_rfl) (by kernel_rfl) (by kernel_rfl) (fun _ _ _ _ h => h) (by rfl) ?_ ?_ (by assumption) ?_
          rotate_left
          · (intro wx _; go_simp)
            all_goals with_reducible rfl
          (try simp only [Act.put, List.setIfInBounds_toArray, List.set_cons_zero, List.set_cons_succ])
          refine piv_take 13 rfl (by kernel_rfl) (by kernel_rfl) (by kernel_rfl) (by kernel_rfl) (by kernel_rfl) (fun _ _ _ _ h => h) (by rfl) ?_ ?_ (by assumption) ?_
          rotate_left
          · (intro wx hSx; (try dsimp only at hSx); go_simp)
            all_goals with_reducible rfl
          (try simp only [Act.put, List.setIfInBounds_toArray, List.set_cons_zero, List.set_cons_succ])
          refine piv_pure 14 rfl (by kernel_rfl) (by kernel_rfl) (by kernel_rfl) (by kernel_rfl) (fun _ _ _ _ h => h) (by rfl) ?_ ?_ (by assumption) ?_
          rotate_left
          · (intro wx _; go_simp)
            all_goals with_reducible rfl
          (try simp only [Act.put, List.setIfInBounds_toArray, List.set_cons_zero, List.set_cons_succ])
          refine piv_late 15 rfl (by kernel_rfl) (by kernel_rfl) (fun K hK => ?_)
          go_simp
          refine hK.out _ _ ?_
          clear hK K
          (try simp only [Act.put, List.setIfInBounds_toArray, List.set_cons_zero, List.set_cons_succ])
          refine piv_late 16 rfl (by kernel_rfl) (by kernel_rfl) (fun K hK => ?_)
          go_simp
          refine hK.out _ _ ?_
          clear hK K
          (try simp only [Act.put, List.setIfInBounds_toArray, List.set_cons_zero, List.set_cons_succ])
          refine piv_late 17 rfl (by kernel_rfl) (by kernel_rfl) (fun K hK => ?_)
          go_simp
          refine hK.out _ _ ?_
          clear hK K
          (try simp only [Act.put, List.setIfInBounds_toArray, List.set_cons_zero, List.set_cons_succ])
          refine piv_done (by kernel_rfl) ?_ _
          go_wp2_with fail
          go_roundw
          case rel => exact HN.out.1 _ (Ext.refl _).drew
          case measure =>
            obtain ⟨_, e1, e2⟩ := HN.out
            obtain ⟨e3, e4, e5⟩ := EI.out
            simp [intOf]
            omega
end Go.Proofs.YtillhbbeghbfeaaDoor
