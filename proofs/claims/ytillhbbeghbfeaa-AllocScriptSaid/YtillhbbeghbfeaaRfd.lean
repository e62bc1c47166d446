/- The document's space: Firm. -/
import Derived.Test.YtillhbbeghbfeaaRfc
namespace Go.Proofs.Ytillhbbeghbfeaa
set_option linter.unusedVariables false
open Go.RowKit

/-- What is taken behind Firm, up to one; what is deferred. -/
def clI (a x : List Bool) (j : Nat) : List Bool := List.zipWith (fun a x => a && !x) (a.take j) (x.take j) ++ a.drop j
def zeX (x : List Bool) (j : Nat) : List Bool := List.replicate j false ++ x.drop j
def cnt (x : List Bool) (j : Nat) : Nat := (x.take j).countP id
section
variable {a x : List Bool} {j : Nat} {u v : Bool}
theorem clI_zero (a x : List Bool) : clI a x 0 = a := by simp [clI]
theorem zeX_zero (x : List Bool) : zeX x 0 = x := by simp [zeX]
theorem cnt_le (x : List Bool) (j : Nat) : cnt x j ≤ j := by
  unfold cnt
  have := List.countP_le_length (p := id) (l := x.take j)
  rw [List.length_take] at this
  omega
theorem zw_len {f : Bool → Bool → Bool} (hl : a.length = x.length) (hj : j ≤ a.length) : (List.zipWith f (a.take j) (x.take j)).length = j := by
  simp
  omega
theorem clI_get (hl : a.length = x.length) (ha : a[j]? = some u) : (clI a x j)[j]? = some u := by
  have hj := (List.getElem?_eq_some_iff.1 ha).1
  unfold clI
  rw [List.getElem?_append_right (by rw [zw_len hl (by omega)]; exact Nat.le_refl _), zw_len hl (by omega), List.getElem?_drop]
  simpa using ha
theorem clI_set (hl : a.length = x.length) (ha : a[j]? = some u) (hx : x[j]? = some v) : (clI a x j).set j (u && !v) = clI a x (j + 1) := by
  have hj := (List.getElem?_eq_some_iff.1 ha).1
  unfold clI
  rw [List.set_append_right _ _ (by rw [zw_len hl (by omega)]; exact Nat.le_refl _), zw_len hl (by omega), Nat.sub_self, drop_cons ha, List.set_cons_zero, List.take_add_one, List.take_add_one, ha, hx]
  rw [List.zipWith_append (by simp; omega)]
  simp
theorem clI_next (hl : a.length = x.length) (ha : a[j]? = some u) (hx : x[j]? = some false) : clI a x (j + 1) = clI a x j := by
  rw [← clI_set hl ha hx]
  have hg := clI_get hl ha
  have hg2 := (List.getElem?_eq_some_iff.1 hg).2
  rw [Bool.not_false, Bool.and_true, ← hg2, List.set_getElem_self]
theorem zeX_get (hx : x[j]? = some v) : (zeX x j)[j]? = some v := by
  unfold zeX
  rw [List.getElem?_append_right (by simp), List.length_replicate, List.getElem?_drop]
  simpa using hx
theorem zeX_set (hx : x[j]? = some v) : (zeX x j).set j false = zeX x (j + 1) := by
  unfold zeX
  rw [List.set_append_right _ _ (by simp), List.length_replicate, Nat.sub_self, drop_cons hx, List.set_cons_zero, List.replicate_succ']
  simp
theorem zeX_next (hx : x[j]? = some false) : zeX x (j + 1) = zeX x j := by
  rw [← zeX_set hx]
  have hg := zeX_get hx
  have hg2 := (List.getElem?_eq_some_iff.1 hg).2
  rw [← hg2, List.set_getElem_self]
theorem cnt_succ (hx : x[j]? = some v) : cnt x (j + 1) = cnt x j + if v = true then 1 else 0 := by
  unfold cnt
  rw [List.take_add_one, hx, List.countP_append]
  cases v <;> rfl
theorem clI_all (hl : a.length = x.length) : clI a x a.length = List.zipWith (fun a x => a && !x) a x := by
  unfold clI
  rw [List.take_of_length_le (Nat.le_refl _), List.take_of_length_le (by omega), List.drop_eq_nil_of_le (Nat.le_refl _), List.append_nil]
theorem zeX_all (x : List Bool) : zeX x x.length = List.replicate x.length false := by
  unfold zeX
  rw [List.drop_eq_nil_of_le (Nat.le_refl _), List.append_nil]
end
section
variable {w w' : World} {B g : Nat} {q : Ql} {G N M : Nat} {bi bb bx bz : List Bool}
theorem RefAt.lens (h : RefAt w B g q G N M bi bb bx bz) : bi.length = G * N + 1 ∧ bb.length = 2 + G * (1 + N / 4 + M) ∧ bx.length = G * N + 1 ∧ bz.length = 2 + G * (1 + N / 4 + M) := by
  refine ⟨?_, ?_, ?_, ?_⟩
  · have := h.r1.len; rwa [bl_len] at this
  · have := h.r2.len; rwa [bl_len] at this
  · have := h.r3.len; rwa [bl_len] at this
  · have := h.r4.len; rwa [bl_len] at this
theorem sec_small {G N M : Nat} (hm : mayG (G : Int) N M) : 2 + G * (1 + N / 4 + M) ≤ 842 ∧ G * N + 1 ≤ 257 := by
  have hmn := mayG_nat hm
  have h1 : G * (1 + N / 4 + M) ≤ 8 * 105 := Nat.mul_le_mul (by omega) (by omega)
  have h2 : G * N ≤ 8 * 32 := Nat.mul_le_mul (by omega) (by omega)
  omega
set_option maxRecDepth 100000 in
set_option maxHeartbeats 4000000 in
theorem ref_Firm (h : RefAt w B g q G N M bi bb bx bz) :
    Calls Try.prog 46 #[.pointer (some ⟨g, 0, none⟩)] w fun e w' => e = .returned (.int .i64 ((cnt bx bx.length + cnt bz bz.length : Nat) : Int)) ∧
      RefAt w' B g q G N M (List.zipWith (fun a x => a && !x) bi bx) (List.zipWith (fun a x => a && !x) bb bz) (List.replicate bx.length false) (List.replicate bz.length false) ∧ Turned [q.g1, q.g2, q.g3, q.g4] w w' := by
  obtain ⟨l1, l2, l3, l4⟩ := h.lens
  obtain ⟨s1, s2⟩ := sec_small h.may
  obtain ⟨ng1, ng2, ng3, ng4⟩ := h.nog
  have hsm := h.n13
  have hsm2 := h.n24
  obtain ⟨GN, hGN⟩ : ∃ GN, G * N + 1 = GN := ⟨_, rfl⟩
  obtain ⟨GM, hGM⟩ : ∃ GM, 2 + G * (1 + N / 4 + M) = GM := ⟨_, rfl⟩
  have hcl : ∀ w' bi bb bx bz, RefAt w' B g q G N M bi bb bx bz → w'.cell? ⟨g, 3, none⟩ = some (.slice (some ⟨q.g1, 0, none⟩) GN q.c1) ∧ w'.cell? ⟨g, 4, none⟩ = some (.slice (some ⟨q.g2, 0, none⟩) GM q.c2) ∧
      w'.cell? ⟨g, 5, none⟩ = some (.slice (some ⟨q.g3, 0, none⟩) GN q.c3) ∧ w'.cell? ⟨g, 6, none⟩ = some (.slice (some ⟨q.g4, 0, none⟩) GM q.c4) := by
    intro w' bi bb bx bz h'
    obtain ⟨_, _, _, c3, c4, c5, c6⟩ := h'.cells
    rw [hGN] at c3 c5
    rw [hGM] at c4 c6
    exact ⟨c3, c4, c5, c6⟩
  rw [hGN] at l1 l3 s2
  rw [hGM] at l2 l4 s1
  have HCL := hide hcl
  have HL := hide (And.intro l1 (And.intro l2 (And.intro l3 l4)))
  clear hcl
  have h0 : RefAt w B g q G N M (clI bi bx 0) bb (zeX bx 0) bz := by rw [clI_zero, zeX_zero]; exact h
  clear h hGN hGM
  go_enter Try.func46, Try.ntmps46
  go_wp2_with fail
  go_loopw [3, 4] (fun n i wr => ∃ j : Nat, j ≤ GN ∧ i = .int .i64 j ∧ n = .int .i64 (cnt bx j : Nat) ∧ RefAt wr B g q G N M (clI bi bx j) bb (zeX bx j) bz ∧ Turned [q.g1, q.g2, q.g3, q.g4] w wr) (fun _ i _ => GN - (intOf i).toNat)
  case atStart => exact ⟨0, by omega, rfl, rfl, h0, Turned.refl _ _⟩
  case round =>
    obtain ⟨j, hj, rfl, rfl, hR, hT⟩ := hrel
    obtain ⟨e3, e4, e5, e6⟩ := HCL.out _ _ _ _ _ hR
    by_cases hlt : j < GN
    · obtain ⟨u, hu⟩ : ∃ u, bi[j]? = some u := ⟨_, List.getElem?_eq_getElem (by omega)⟩
      obtain ⟨v, hv⟩ : ∃ v, bx[j]? = some v := ⟨_, List.getElem?_eq_getElem (by omega)⟩
      have hll : bi.length = bx.length := by omega
      have hcs := cnt_succ hv
      have hcb := cnt_le bx j
      obtain ⟨k1, k2, k3⟩ := own_cell hR.r3 (zeX_get hv)
      obtain ⟨m1, m2, m3⟩ := own_cell hR.r1 (clI_get hll hu)
      have i1 : (j : Int) < (GN : Int) := by omega
      cases v
      · have hn1 := clI_next hll hu hv
        have hn2 := zeX_next hv
        have HN := hide (And.intro hn1 (And.intro hn2 hcs))
        clear hn1 hn2 hcs hu hv
        go_wp2_with fail
        go_roundw
        case rel => exact ⟨j + 1, by omega, by go_num, by rw [HN.out.2.2]; rfl, by rw [HN.out.1, HN.out.2.1]; exact hR, hT⟩
        case measure => simp [intOf]; omega
      · have hn1 := clI_set hll hu hv
        rw [Bool.not_true, Bool.and_false] at hn1
        have hn2 := zeX_set hv
        have hP := (hR.put3 j false)
        have hP2 := hP.put1 j false
        rw [hn1, hn2] at hP2
        have HN := hide hcs
        have HP := hide hP2
        have n1 : (wr.setCell ⟨q.g3, j, none⟩ (.bool false)).cell? ⟨q.g1, j, none⟩ = some (.bool u) := (own_cell hP.r1 (clI_get hll hu)).1
        have n2 : (wr.setCell ⟨q.g3, j, none⟩ (.bool false)).frozen? ⟨q.g1, j, none⟩ = false := (own_cell hP.r1 (clI_get hll hu)).2.1
        obtain ⟨f3, f4, f5, f6⟩ := HCL.out _ _ _ _ _ hP
        obtain ⟨g3, g4, g5, g6⟩ := HCL.out _ _ _ _ _ hP2
        clear hn1 hn2 hcs hu hv hP hP2
        go_wp2_with fail
        go_region_held3 (fun w' => w'.cell? ⟨g, 3, none⟩ = some (.slice (some ⟨q.g1, 0, none⟩) GN q.c1) ∧ w'.cell? ⟨g, 5, none⟩ = some (.slice (some ⟨q.g3, 0, none⟩) GN q.c3))
          (first | go_keep | (exact ⟨f3, f5⟩) | (exact ⟨g3, g5⟩)) (fail)
        go_wp2_with fail
        go_roundw
        case rel => exact ⟨j + 1, by omega, by go_num, by rw [HN.out]; rfl, HP.out.ext ((Ext.refl _).drew), (hT.trans (((Turned.setCell wr q.g3 j (.bool false)).mono (by simp)).trans ((Turned.setCell _ q.g1 j (.bool false)).mono (by simp)))).trans (((Ext.refl _).drew).turned _)⟩
        case measure => simp [intOf]; omega
    · obtain rfl : j = GN := by omega
      have e1 : clI bi bx bi.length = List.zipWith (fun a x => a && !x) bi bx := clI_all (by omega)
      have e2 : zeX bx bx.length = List.replicate bx.length false := zeX_all bx
      rw [l1] at e1
      have e2' := e2
      rw [l3] at e2'
      rw [e1, e2', ← l3] at hR
      have hR0 : RefAt wr B g q G N M (List.zipWith (fun a x => a && !x) bi bx) (clI bb bz 0) (List.replicate bx.length false) (zeX bz 0) := by rw [clI_zero, zeX_zero]; exact hR
      have hcb := cnt_le bx bx.length
      rw [l3] at hcb
      have HC0 := hide (show cnt bx bx.length = cnt bx j from by rw [l3])
      generalize cnt bx j = C0 at *
      clear hR e1 e2 e2' h0
      go_wp2_with fail
      go_loopw [3, 5] (fun n i wr => ∃ j : Nat, j ≤ GM ∧ i = .int .i64 j ∧ n = .int .i64 ((C0 + cnt bz j : Nat) : Int) ∧ RefAt wr B g q G N M (List.zipWith (fun a x => a && !x) bi bx) (clI bb bz j) (List.replicate bx.length false) (zeX bz j) ∧ Turned [q.g1, q.g2, q.g3, q.g4] w wr) (fun _ i _ => GM - (intOf i).toNat)
      case atStart => exact ⟨0, by omega, rfl, rfl, hR0, hT⟩
      case round =>
        obtain ⟨y, hy, rfl, rfl, hR, hT⟩ := hrel
        have hcl : wr.cell? ⟨g, 4, none⟩ = some (.slice (some ⟨q.g2, 0, none⟩) GM q.c2) ∧ wr.cell? ⟨g, 6, none⟩ = some (.slice (some ⟨q.g4, 0, none⟩) GM q.c4) := ⟨(HCL.out _ _ _ _ _ hR).2.1, (HCL.out _ _ _ _ _ hR).2.2.2⟩
        obtain ⟨e4, e6⟩ := hcl
        by_cases hlt : y < GM
        · obtain ⟨u, hu⟩ : ∃ u, bb[y]? = some u := ⟨_, List.getElem?_eq_getElem (by omega)⟩
          obtain ⟨v, hv⟩ : ∃ v, bz[y]? = some v := ⟨_, List.getElem?_eq_getElem (by omega)⟩
          have hll : bb.length = bz.length := by omega
          have hcs := cnt_succ hv
          have hcb2 := cnt_le bz y
          obtain ⟨k1, k2, k3⟩ := own_cell hR.r4 (zeX_get hv)
          obtain ⟨m1, m2, m3⟩ := own_cell hR.r2 (clI_get hll hu)
          have i1 : (y : Int) < (GM : Int) := by omega
          cases v
          · have hn1 := clI_next hll hu hv
            have hn2 := zeX_next hv
            have HN := hide (And.intro hn1 (And.intro hn2 hcs))
            clear hn1 hn2 hcs hu hv
            go_wp2_with fail
            go_roundw
            case rel => exact ⟨y + 1, by omega, by go_num, by rw [HN.out.2.2]; go_num, by rw [HN.out.1, HN.out.2.1]; exact hR, hT⟩
            case measure => simp [intOf]; omega
          · have hn1 := clI_set hll hu hv
            rw [Bool.not_true, Bool.and_false] at hn1
            have hn2 := zeX_set hv
            have hP := (hR.put4 y false)
            have hP2 := hP.put2 y false
            rw [hn1, hn2] at hP2
            have HN := hide hcs
            have HP := hide hP2
            have n1 : (wr.setCell ⟨q.g4, y, none⟩ (.bool false)).cell? ⟨q.g2, y, none⟩ = some (.bool u) := (own_cell hP.r2 (clI_get hll hu)).1
            have n2 : (wr.setCell ⟨q.g4, y, none⟩ (.bool false)).frozen? ⟨q.g2, y, none⟩ = false := (own_cell hP.r2 (clI_get hll hu)).2.1
            have f4 := (HCL.out _ _ _ _ _ hP).2.1
            have f6 := (HCL.out _ _ _ _ _ hP).2.2.2
            have g4 := (HCL.out _ _ _ _ _ hP2).2.1
            have g6 := (HCL.out _ _ _ _ _ hP2).2.2.2
            clear hn1 hn2 hcs hu hv hP hP2
            go_wp2_with fail
            go_region_held3 (fun w' => w'.cell? ⟨g, 4, none⟩ = some (.slice (some ⟨q.g2, 0, none⟩) GM q.c2) ∧ w'.cell? ⟨g, 6, none⟩ = some (.slice (some ⟨q.g4, 0, none⟩) GM q.c4))
              (first | go_keep | (exact ⟨f4, f6⟩) | (exact ⟨g4, g6⟩)) (fail)
            go_wp2_with fail
            go_roundw
            case rel => exact ⟨y + 1, by omega, by go_num, by rw [HN.out]; go_num, HP.out.ext ((Ext.refl _).drew), (hT.trans (((Turned.setCell wr q.g4 y (.bool false)).mono (by simp)).trans ((Turned.setCell _ q.g2 y (.bool false)).mono (by simp)))).trans (((Ext.refl _).drew).turned _)⟩
            case measure => simp [intOf]; omega
        · obtain rfl : y = GM := by omega
          have e1 : clI bb bz bb.length = List.zipWith (fun a x => a && !x) bb bz := clI_all (by omega)
          have e2 : zeX bz bz.length = List.replicate bz.length false := zeX_all bz
          rw [l2] at e1
          rw [l4] at e2
          rw [e1, e2] at hR
          have HR := hide hR
          have HZ := hide l4
          clear e1 e2 hR
          go_wp2_with fail
          go_ret
          refine ⟨retI (by rw [HC0.out, HZ.out]), ?_, hT⟩
          rw [HZ.out]
          exact HR.out
end
end Go.Proofs.Ytillhbbeghbfeaa
