/- Words for AllocAll: what is free, the best group. -/
import Derived.Test.YtillhbbeghbfeaaLawG3
namespace Go.Proofs.Ytillhbbeghbfeaa
set_option linter.unusedVariables false
open Go.RowKit

theorem best_cases (near : Int) {each G : Nat} {t : List (List Nat)} (hl : t.length = G) (h0 : 0 < each) (h1 : each ≤ 96) :
    (bestF (scL near each t G) = -1 ∧ ∀ (k : Nat) (xs : List Nat), t[k]? = some xs → freeN each xs = 0) ∨ ∃ (k : Nat) (xs : List Nat), bestF (scL near each t G) = (k : Int) ∧ k < G ∧ t[k]? = some xs ∧ 0 < freeN each xs := by
  have hs : ∀ (k : Nat) (xs : List Nat), t[k]? = some xs → (scL near each t G).getD k 0 = scF (decide ((k : Int) = near)) (freeN each xs) each := fun k xs hk => by
    have := (List.getElem?_eq_some_iff.1 hk).1
    rw [scL_get _ _ _ (by omega)]
    unfold scOf
    rw [getD_row hk]
  rcases bestF_is (scL near each t G) with ⟨h2, h3⟩ | ⟨b, h2, h3, h4, _⟩
  · refine .inl ⟨h2, fun k xs hk => ?_⟩
    have hkl := (List.getElem?_eq_some_iff.1 hk).1
    rw [scL_len] at h3
    have := h3 k (by omega)
    rw [hs k xs hk, scF_nan _ h0 h1 (freeN_le _ _)] at this
    simpa using this
  · rw [scL_len] at h3
    obtain ⟨xs, hx⟩ : ∃ xs, t[b]? = some xs := ⟨_, List.getElem?_eq_getElem (by omega)⟩
    refine .inr ⟨b, xs, h2, h3, hx, ?_⟩
    rw [hs b xs hx, scF_nan _ h0 h1 (freeN_le _ _)] at h4
    have : ¬ freeN each xs = 0 := by simpa using h4
    omega
theorem sumF_zero {n : Nat} : ∀ {t : List (List Nat)}, (∀ (k : Nat) (xs : List Nat), t[k]? = some xs → freeN n xs = 0) → sumF n t t.length = 0
  | [], _ => rfl
  | x :: t, h => by
    have ih := sumF_zero (t := t) (fun k xs hk => h (k + 1) xs (by simpa using hk))
    have h1 := h 0 x rfl
    unfold sumF at *
    simp only [List.length_cons, List.take_succ_cons, List.map_cons, List.sum_cons]
    omega
theorem sumF_pos {n : Nat} : ∀ {t : List (List Nat)} {k : Nat} {xs : List Nat}, t[k]? = some xs → freeN n xs ≤ sumF n t t.length
  | [], k, xs, h => by simp at h
  | x :: t, 0, xs, h => by
    simp at h
    subst h
    unfold sumF
    simp only [List.length_cons, List.take_succ_cons, List.map_cons, List.sum_cons]
    omega
  | x :: t, k + 1, xs, h => by
    have ih := sumF_pos (n := n) (t := t) (k := k) (xs := xs) (by simpa using h)
    unfold sumF at *
    simp only [List.length_cons, List.take_succ_cons, List.map_cons, List.sum_cons]
    omega
/-- Bools that tell which inodes are taken. -/
def IsIn (G : Nat) (bs : List Bool) (tn : List (List Nat)) : Prop := ∀ k i xs, k < G → i < 8 → tn[k]? = some xs → bs[k * 8 + i + 1]? = some (hasB xs i)
theorem IsIn.put {G : Nat} {bs : List Bool} {tn : List (List Nat)} (h : IsIn G bs tn) (hl : bs.length = 8 * G + 1) {k i : Nat} {xs : List Nat} (hk : k < G) (hi : i < 8) (hx : tn[k]? = some xs) (hb : Bytes xs) (hxl : 1 ≤ xs.length) : IsIn G (bs.set (k * 8 + i + 1) true) (tn.set k (withB xs i true)) := by
  intro k' i' ys hk' hi' hy
  by_cases hkk : k = k'
  · subst hkk
    rw [List.getElem?_set_self (List.getElem?_eq_some_iff.1 hx).1] at hy
    cases hy
    rw [hasB_withB hb]
    by_cases hii : i' = i
    · subst hii
      rw [if_pos ⟨rfl, by omega⟩, List.getElem?_set_self (by omega)]
    · rw [if_neg (fun hh => hii hh.1), List.getElem?_set_ne (by omega)]
      exact h k i' xs hk hi' hx
  · rw [List.getElem?_set_ne hkk] at hy
    rw [List.getElem?_set_ne (by omega)]
    exact h k' i' ys hk' hi' hy
/-- Each number told is of a block that is taken. -/
def Avs (G : Nat) (all : List Nat) (tb : List (List Nat)) : Prop := ∀ v ∈ all, ∃ k i xs, k < G ∧ i < 16 ∧ v = posN k i ∧ tb[k]? = some xs ∧ hasB xs i = true
theorem Avs.put {G : Nat} {all : List Nat} {tb : List (List Nat)} (h : Avs G all tb) {k i : Nat} {xs : List Nat} (hk : k < G) (hi : i < 16) (hx : tb[k]? = some xs) (hb : Bytes xs) (hxl : 2 ≤ xs.length) : Avs G (all ++ [posN k i]) (tb.set k (withB xs i true)) := by
  intro v hv
  have hkl := (List.getElem?_eq_some_iff.1 hx).1
  rcases List.mem_append.1 hv with hv | hv
  · obtain ⟨k', i', ys, h1, h2, h3, h4, h5⟩ := h v hv
    by_cases hkk : k = k'
    · subst hkk
      rw [hx] at h4
      cases h4
      refine ⟨k, i', withB xs i true, h1, h2, h3, List.getElem?_set_self hkl, ?_⟩
      rw [hasB_withB hb]
      split
      · rfl
      · exact h5
    · exact ⟨k', i', ys, h1, h2, h3, by rw [List.getElem?_set_ne hkk]; exact h4, h5⟩
  · rw [List.mem_singleton] at hv
    subst hv
    exact ⟨k, i, withB xs i true, hk, hi, rfl, List.getElem?_set_self hkl, by rw [hasB_withB hb, if_pos ⟨rfl, by omega⟩]⟩
theorem firN_lt {xs : List Nat} {n : Nat} (h : 0 < freeN n xs) : firN n xs < n ∧ hasB xs (firN n xs) = false := by
  rcases firN_is h with ⟨h1, _⟩ | ⟨_, h2, h3, h4, _⟩
  · omega
  · rw [hasI_nat] at h4
    exact ⟨by omega, h4⟩
/-- One alone was given back: behind that it alone is free. -/
theorem back_one {G k i : Nat} {tb : List (List Nat)} {near : Int} (hl : tb.length = G) (hk : k < G) (hi : i < 16) (hw : ∀ xs ∈ tb, xs.length = 2) (hbt : ∀ xs ∈ tb, Bytes xs) (hf : ∀ (k : Nat) (xs : List Nat), tb[k]? = some xs → freeN 16 xs = 0) :
    ∃ xs, (firmT 16 tb ((List.replicate G (zr 16)).set k (withB (zr 16) i true)))[k]? = some xs ∧ bestF (scL near 16 (firmT 16 tb ((List.replicate G (zr 16)).set k (withB (zr 16) i true))) G) = (k : Int) ∧ FirstIs xs 0 16 (i : Int) := by
  have hbz : Bytes (zr 16) := Bytes.rep _
  have hrow : ∀ j (ys : List Nat), tb[j]? = some ys → (firmT 16 tb ((List.replicate G (zr 16)).set k (withB (zr 16) i true)))[j]? = some (firmR 16 ys (if j = k then withB (zr 16) i true else zr 16)) := by
    intro j ys hj
    have hjl := (List.getElem?_eq_some_iff.1 hj).1
    unfold firmT
    rw [List.getElem?_zipWith, hj]
    by_cases hjk : j = k
    · subst hjk
      rw [List.getElem?_set_self (by simp; omega), if_pos rfl]
    · rw [List.getElem?_set_ne (fun hh => hjk hh.symm), List.getElem?_replicate, if_pos (by omega), if_neg hjk]
  have hhas : ∀ j ys, tb[j]? = some ys → ∀ q, q < 16 → hasB (firmR 16 ys (if j = k then withB (zr 16) i true else zr 16)) q = !decide (j = k ∧ q = i) := by
    intro j ys hj q hq
    have hyl := hw ys (List.mem_of_getElem? hj)
    have hall : hasB ys q = true := by
      cases hh : hasB ys q
      · have := freeN_pos.2 ⟨q, hq, hh⟩
        rw [hf j ys hj] at this
        omega
      · rfl
    unfold firmR
    rw [hasB_clrB _ (hbt ys (List.mem_of_getElem? hj)), hall, Bool.true_and]
    congr 1
    rw [decide_eq_decide, mem_allB]
    by_cases hjk : j = k
    · rw [if_pos hjk, hasB_withB hbz, zr, hasB_zero]
      simp only [hjk, true_and]
      constructor
      · rintro ⟨⟨_, a⟩, _⟩
        split at a
        · rename_i h; exact h.1
        · cases a
      · intro a
        exact ⟨⟨hq, by rw [if_pos ⟨a, by rw [List.length_replicate]; omega⟩]⟩, by omega⟩
    · rw [if_neg hjk, zr, hasB_zero]
      simp [hjk]
  obtain ⟨xs, hx⟩ : ∃ xs, tb[k]? = some xs := ⟨_, List.getElem?_eq_getElem (by omega)⟩
  refine ⟨_, hrow k xs hx, ?_, ?_⟩
  · rcases best_cases near (each := 16) (G := G) (t := firmT 16 tb ((List.replicate G (zr 16)).set k (withB (zr 16) i true))) (by rw [firmT_len]; simp; omega) (by omega) (by omega) with ⟨_, h2⟩ | ⟨j, zs, h1, h2, h3, h4⟩
    · have h3 := h2 k _ (hrow k xs hx)
      have h4 := freeN_pos.2 ⟨i, hi, (by rw [hhas k xs hx i hi]; simp)⟩
      omega
    · obtain ⟨ys, hy⟩ : ∃ ys, tb[j]? = some ys := ⟨_, List.getElem?_eq_getElem (by omega)⟩
      rw [hrow j ys hy] at h3
      cases h3
      obtain ⟨q, hq, hh⟩ := freeN_pos.1 h4
      rw [hhas j ys hy q hq] at hh
      have : j = k ∧ q = i := by simpa using hh
      rw [h1, this.1]
  · refine .inr ⟨by omega, by omega, by omega, ?_, fun q q1 q2 q3 => ?_⟩
    · rw [hasI_nat, hhas k xs hx i hi]; simp
    · obtain ⟨m, rfl⟩ := Int.eq_ofNat_of_zero_le q2
      rw [hasI_nat, hhas k xs hx m (by omega)]
      simp
      omega
theorem mkB (kl kc : IntKind) (L C : Int) (n c : Nat) (hL : L = n) (hC : C = c) (hnc : n ≤ c) (hbytes : c ≤ 281474976710656) (w : World) :
    (Instr.makeSlice 49 (.int kl L) (.int kc C)).run Try.prog w = .ok (.slice (some ⟨w.heap.size, 0, none⟩) n c) (w.alloc (.cells (madeCells #[.bool false] c) 4)) :=
  run_mk 49 4 (.bool false) 1 Try.underlying49 info_bool rfl kl kc L C n c hL hC hnc (by omega) (by omega) w
end Go.Proofs.Ytillhbbeghbfeaa
