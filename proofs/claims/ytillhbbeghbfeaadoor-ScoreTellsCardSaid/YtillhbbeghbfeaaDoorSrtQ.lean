/- The stable merge's plain part: a search by halves, and the two rows that it cuts. -/
import Derived.Test.YtillhbbeghbfeaaDoorSrtP
namespace Go.Proofs.YtillhbbeghbfeaaDoor
set_option linter.unusedVariables false

/-- Where a search by halves stands: all below i are G, none from j on. -/
def Bin (G : Nat → Prop) (lo hi i j : Nat) : Prop := lo ≤ i ∧ i ≤ j ∧ j ≤ hi ∧ (∀ t, lo ≤ t → t < i → G t) ∧ (∀ t, j ≤ t → t < hi → ¬ G t)
theorem Bin.start {G : Nat → Prop} {lo hi : Nat} (h : lo ≤ hi) : Bin G lo hi lo hi := ⟨by omega, by omega, by omega, fun t h1 h2 => by omega, fun t h1 h2 => by omega⟩
theorem Bin.up {G : Nat → Prop} {lo hi i j h : Nat} (hM : ∀ s t, lo ≤ s → s < t → t < hi → G t → G s) (hB : Bin G lo hi i j) (h1 : i ≤ h) (h2 : h < j) (hG : G h) : Bin G lo hi (h + 1) j := by
  obtain ⟨b1, b2, b3, b4, b5⟩ := hB
  refine ⟨by omega, by omega, b3, fun t t1 t2 => ?_, b5⟩
  by_cases e : t = h
  · subst e; exact hG
  · exact hM t h t1 (by omega) (by omega) hG
theorem Bin.dn {G : Nat → Prop} {lo hi i j h : Nat} (hM : ∀ s t, lo ≤ s → s < t → t < hi → G t → G s) (hB : Bin G lo hi i j) (h1 : i ≤ h) (h2 : h < j) (hG : ¬ G h) : Bin G lo hi i h := by
  obtain ⟨b1, b2, b3, b4, b5⟩ := hB
  refine ⟨b1, by omega, by omega, b4, fun t t1 t2 => ?_⟩
  by_cases e : t = h
  · subst e; exact hG
  · exact fun hg => hG (hM h t (by omega) (by omega) t2 hg)
/-- Two sorted rows, one behind the other, each place of the first below each of the second. -/
structure Two (K : Int → Int) (L R : List Int) : Prop where
  sl : L.Pairwise (LT K)
  sr : R.Pairwise (LT K)
  lt : ∀ x ∈ L, ∀ y ∈ R, x < y
/-- The row's element at a place. -/
def dAt (zs : List Int) (t : Nat) : Int := zs.getD t 0
theorem dAt_mid {X L T : List Int} {s : Nat} (h : s < L.length) : L[s]? = some (dAt (X ++ (L ++ T)) (X.length + s)) := by
  unfold dAt
  rw [List.getD_eq_getElem?_getD, List.getElem?_append_right (by omega), show X.length + s - X.length = s by omega, List.getElem?_append_left h, List.getElem?_eq_getElem h]
  rfl
theorem dAt_memL {X L T : List Int} {t a : Nat} (ha : a = X.length) (h1 : a ≤ t) (h2 : t < a + L.length) : dAt (X ++ (L ++ T)) t ∈ L := by
  have := dAt_mid (X := X) (L := L) (T := T) (s := t - a) (by omega)
  rw [← ha, show a + (t - a) = t by omega] at this
  exact List.mem_iff_getElem?.2 ⟨_, this⟩
theorem dAt_sort {K : Int → Int} {X L T : List Int} {s t a : Nat} (ha : a = X.length) (hL : L.Pairwise (LT K)) (h1 : a ≤ s) (h2 : s < t) (h3 : t < a + L.length) : LT K (dAt (X ++ (L ++ T)) s) (dAt (X ++ (L ++ T)) t) := by
  have e1 := dAt_mid (X := X) (L := L) (T := T) (s := s - a) (by omega)
  have e2 := dAt_mid (X := X) (L := L) (T := T) (s := t - a) (by omega)
  rw [← ha, show a + (s - a) = s by omega] at e1
  rw [← ha, show a + (t - a) = t by omega] at e2
  obtain ⟨g1, g2⟩ := List.getElem?_eq_some_iff.1 e1
  obtain ⟨g3, g4⟩ := List.getElem?_eq_some_iff.1 e2
  rw [← g2, ← g4]
  exact List.pairwise_iff_getElem.1 hL _ _ g1 g3 (by omega)
theorem dAt_take {X L T : List Int} {s : Nat} {x : Int} (h : x ∈ L.take s) : ∃ t, t < s ∧ t < L.length ∧ x = dAt (X ++ (L ++ T)) (X.length + t) := by
  obtain ⟨j, hj⟩ := List.mem_iff_getElem?.1 h
  rw [List.getElem?_take] at hj
  split at hj
  · rename_i hjs
    obtain ⟨h1, _⟩ := List.getElem?_eq_some_iff.1 hj
    refine ⟨j, hjs, h1, ?_⟩
    have := dAt_mid (X := X) (L := L) (T := T) h1
    rw [this] at hj
    exact (Option.some.inj hj).symm
  · cases hj
theorem dAt_drop {X L T : List Int} {s : Nat} {x : Int} (h : x ∈ L.drop s) : ∃ t, s ≤ t ∧ t < L.length ∧ x = dAt (X ++ (L ++ T)) (X.length + t) := by
  obtain ⟨j, hj⟩ := List.mem_iff_getElem?.1 h
  rw [List.getElem?_drop] at hj
  obtain ⟨h1, _⟩ := List.getElem?_eq_some_iff.1 hj
  refine ⟨s + j, by omega, h1, ?_⟩
  have := dAt_mid (X := X) (L := L) (T := T) h1
  rw [this] at hj
  exact (Option.some.inj hj).symm
section
variable {K : Int → Int} {X L R Y : List Int} {a m b mid n q st en lo hi : Nat}
/-- The cut of the general case. -/
theorem cut_two (h : Two K L R) (ha : a = X.length) (hm : m = a + L.length) (hb : b = m + R.length) (hmid : mid = (a + b) / 2) (hn : n = mid + m) (hq : q + 1 = n) (hlen : 2 ≤ L.length) (hren : 2 ≤ R.length)
    (hlo : (mid < m ∧ lo = n - b ∧ hi = mid) ∨ (m ≤ mid ∧ lo = a ∧ hi = m))
    (hB : Bin (fun t => LT K (dAt (X ++ (L ++ (R ++ Y))) t) (dAt (X ++ (L ++ (R ++ Y))) (q - t))) lo hi st st) (hen : en = n - st) :
    a ≤ st ∧ st ≤ m ∧ m ≤ en ∧ en ≤ b ∧ st - a + (en - m) = mid - a ∧ (∀ x ∈ L.take (st - a), ∀ y ∈ R.drop (en - m), LT K x y) ∧ (∀ x ∈ R.take (en - m), ∀ y ∈ L.drop (st - a), LT K x y) := by
  obtain ⟨b1, b2, b3, b4, b5⟩ := hB
  have hst : a ≤ st := by omega
  have hsm : st ≤ m := by omega
  have hem : m ≤ en := by omega
  have heb : en ≤ b := by omega
  have hXL : X ++ (L ++ (R ++ Y)) = (X ++ L) ++ (R ++ Y) := by simp
  have hl : (X ++ L).length = m := by rw [List.length_append]; omega
  refine ⟨hst, hsm, hem, heb, by omega, fun x hx y hy => ?_, fun x hx y hy => ?_⟩
  · obtain ⟨s, s1, s2, rfl⟩ := dAt_take (X := X) (T := R ++ Y) hx
    obtain ⟨t, t1, t2, rfl⟩ := dAt_drop (X := X ++ L) (T := Y) hy
    rw [hl, ← hXL, ← ha]
    have hg := b4 (st - 1) (by omega) (by omega)
    dsimp only at hg
    rw [show q - (st - 1) = en by omega] at hg
    have h1 : a + s = st - 1 ∨ LT K (dAt (X ++ (L ++ (R ++ Y))) (a + s)) (dAt (X ++ (L ++ (R ++ Y))) (st - 1)) := by
      by_cases e : a + s = st - 1
      · exact Or.inl e
      · exact Or.inr (dAt_sort ha h.sl (by omega) (by omega) (by omega))
    have h2 : m + t = en ∨ LT K (dAt (X ++ (L ++ (R ++ Y))) en) (dAt (X ++ (L ++ (R ++ Y))) (m + t)) := by
      by_cases e : m + t = en
      · exact Or.inl e
      · rw [hXL]
        exact Or.inr (dAt_sort (a := m) hl.symm h.sr (by omega) (by omega) (by omega))
    have h3 : LT K (dAt (X ++ (L ++ (R ++ Y))) (a + s)) (dAt (X ++ (L ++ (R ++ Y))) en) := by
      rcases h1 with e | h1
      · rw [e]; exact hg
      · exact h1.trans hg
    rcases h2 with e | h2
    · rw [e]; exact h3
    · exact h3.trans h2
  · obtain ⟨s, s1, s2, rfl⟩ := dAt_take (X := X ++ L) (T := Y) hx
    obtain ⟨t, t1, t2, rfl⟩ := dAt_drop (X := X) (T := R ++ Y) hy
    rw [hl, ← hXL, ← ha]
    have hg := b5 st (by omega) (by omega)
    dsimp only at hg
    rw [show q - st = en - 1 by omega] at hg
    have hmL : dAt (X ++ (L ++ (R ++ Y))) st ∈ L := dAt_memL ha (by omega) (by omega)
    have hmR : dAt (X ++ (L ++ (R ++ Y))) (en - 1) ∈ R := by
      rw [hXL]
      exact dAt_memL (a := m) hl.symm (by omega) (by omega)
    have hg2 := LT.tot hg (Int.ne_of_lt (h.lt _ hmL _ hmR))
    have h1 : m + s = en - 1 ∨ LT K (dAt (X ++ (L ++ (R ++ Y))) (m + s)) (dAt (X ++ (L ++ (R ++ Y))) (en - 1)) := by
      by_cases e : m + s = en - 1
      · exact Or.inl e
      · rw [hXL]
        exact Or.inr (dAt_sort (a := m) hl.symm h.sr (by omega) (by omega) (by omega))
    have h2 : a + t = st ∨ LT K (dAt (X ++ (L ++ (R ++ Y))) st) (dAt (X ++ (L ++ (R ++ Y))) (a + t)) := by
      by_cases e : a + t = st
      · exact Or.inl e
      · exact Or.inr (dAt_sort ha h.sl (by omega) (by omega) (by omega))
    have h3 : LT K (dAt (X ++ (L ++ (R ++ Y))) (m + s)) (dAt (X ++ (L ++ (R ++ Y))) st) := by
      rcases h1 with e | h1
      · rw [e]; exact hg2
      · exact h1.trans hg2
    rcases h2 with e | h2
    · rw [e]; exact h3
    · exact h3.trans h2
/-- The general case's test is the lower the earlier. -/
theorem mono_two (h : Two K L R) (ha : a = X.length) (hm : m = a + L.length) (hb : b = m + R.length) (hmid : mid = (a + b) / 2) (hn : n = mid + m) (hq : q + 1 = n)
    (hlo : (mid < m ∧ lo = n - b ∧ hi = mid) ∨ (m ≤ mid ∧ lo = a ∧ hi = m)) (hlen : 2 ≤ L.length) (hren : 2 ≤ R.length) :
    ∀ s t, lo ≤ s → s < t → t < hi → LT K (dAt (X ++ (L ++ (R ++ Y))) t) (dAt (X ++ (L ++ (R ++ Y))) (q - t)) → LT K (dAt (X ++ (L ++ (R ++ Y))) s) (dAt (X ++ (L ++ (R ++ Y))) (q - s)) := by
  intro s t h1 h2 h3 hg
  have hXL : X ++ (L ++ (R ++ Y)) = (X ++ L) ++ (R ++ Y) := by simp
  have hl : (X ++ L).length = m := by rw [List.length_append]; omega
  have g1 := dAt_sort (X := X) (T := R ++ Y) (s := s) (t := t) ha h.sl (by omega) h2 (by omega)
  have g2 := dAt_sort (X := X ++ L) (T := Y) (s := q - t) (t := q - s) (a := m) hl.symm h.sr (by omega) (by omega) (by omega)
  rw [← hXL] at g2
  exact g1.trans (hg.trans g2)
end
/-- One element ahead of a sorted row: where the search ends, it belongs. -/
theorem one_ahead {K : Int → Int} {X R Y : List Int} {y : Int} {m b i : Nat} (hR : R.Pairwise (LT K)) (hlt : ∀ z ∈ R, y < z) (hm : m = X.length + 1) (hb : b = m + R.length) (hB : Bin (fun t => LT K (dAt (X ++ y :: (R ++ Y)) t) y) m b i i) :
    (R.take (i - m) ++ y :: R.drop (i - m)).Pairwise (LT K) := by
  obtain ⟨b1, b2, b3, b4, b5⟩ := hB
  have hXy : X ++ y :: (R ++ Y) = (X ++ [y]) ++ (R ++ Y) := by simp
  have hl : (X ++ [y]).length = m := by rw [List.length_append]; simpa using hm.symm
  refine ins_done (by rw [List.take_append_drop]; exact hR) (fun z hz => ?_) (fun z hz => ?_)
  · obtain ⟨t, t1, t2, rfl⟩ := dAt_take (X := X ++ [y]) (T := Y) hz
    rw [hl, ← hXy]
    exact b4 _ (by omega) (by omega)
  · obtain ⟨t, t1, t2, hz2⟩ := dAt_drop (X := X ++ [y]) (T := Y) hz
    have := b5 (m + t) (by omega) (by omega)
    rw [hl, ← hXy] at hz2
    dsimp only at this
    rw [← hz2] at this
    exact LT.tot this (Int.ne_of_gt (hlt z (List.mem_of_mem_drop hz)))
/-- One element behind a sorted row. -/
theorem one_behind {K : Int → Int} {X L T : List Int} {y : Int} {a m i : Nat} (hL : L.Pairwise (LT K)) (hlt : ∀ z ∈ L, z < y) (ha : a = X.length) (hm : m = a + L.length) (hB : Bin (fun t => LT K (dAt (X ++ (L ++ T)) t) y) a m i i) :
    (L.take (i - a) ++ y :: L.drop (i - a)).Pairwise (LT K) := by
  obtain ⟨b1, b2, b3, b4, b5⟩ := hB
  refine ins_done (by rw [List.take_append_drop]; exact hL) (fun z hz => ?_) (fun z hz => ?_)
  · obtain ⟨t, t1, t2, rfl⟩ := dAt_take (X := X) (T := T) hz
    rw [← ha]
    exact b4 _ (by omega) (by omega)
  · obtain ⟨t, t1, t2, hz2⟩ := dAt_drop (X := X) (T := T) hz
    have := b5 (a + t) (by omega) (by omega)
    rw [← ha] at hz2
    dsimp only at this
    rw [← hz2] at this
    exact LT.tot this (Int.ne_of_lt (hlt z (List.mem_of_mem_drop hz)))
theorem mono_one {K : Int → Int} {X L T : List Int} {y : Int} {a m : Nat} (hL : L.Pairwise (LT K)) (ha : a = X.length) (hm : m = a + L.length) :
    ∀ s t, a ≤ s → s < t → t < m → LT K (dAt (X ++ (L ++ T)) t) y → LT K (dAt (X ++ (L ++ T)) s) y :=
  fun s t h1 h2 h3 hg => (dAt_sort ha hL h1 h2 (by omega)).trans hg
theorem rot_mid {X L1 L2 R1 T : List Int} {a m b : Nat} (ha : a = (X ++ L1).length) (hm : m = a + L2.length) (hb : b = m + R1.length) : rot (X ++ (L1 ++ L2) ++ (R1 ++ T)) a m b = X ++ (L1 ++ R1) ++ (L2 ++ T) := by
  unfold rot
  have e1 : X ++ (L1 ++ L2) ++ (R1 ++ T) = (X ++ L1) ++ (L2 ++ (R1 ++ T)) := by simp
  rw [e1, ha, List.take_left, List.drop_left, show m - (X ++ L1).length = L2.length by omega, List.take_left]
  have e2 : (X ++ L1) ++ (L2 ++ (R1 ++ T)) = ((X ++ L1) ++ L2) ++ (R1 ++ T) := by simp
  have e3 : (X ++ L1) ++ (L2 ++ (R1 ++ T)) = (((X ++ L1) ++ L2) ++ R1) ++ T := by simp
  have d1 : ((X ++ L1) ++ (L2 ++ (R1 ++ T))).drop m = R1 ++ T := by
    rw [e2, List.drop_left' (by rw [List.length_append]; omega)]
  have d2 : ((X ++ L1) ++ (L2 ++ (R1 ++ T))).drop b = T := by
    rw [e3, List.drop_left' (by rw [List.length_append, List.length_append]; omega)]
  rw [d1, d2, show b - m = R1.length by omega, List.take_left]
  simp
end Go.Proofs.YtillhbbeghbfeaaDoor
