/- Rows under swaps: plain lists. -/
namespace Go.Proofs.YtillhbbeghbfeaaDoor
set_option linter.unusedVariables false

/-- Two places change their values. -/
def swp (zs : List Int) (i j : Nat) : List Int := (zs.set i (zs.getD j 0)).set j (zs.getD i 0)
theorem swp_len (zs : List Int) (i j : Nat) : (swp zs i j).length = zs.length := by simp [swp]
theorem swp_get {zs : List Int} {i j : Nat} (hi : i < zs.length) (hj : j < zs.length) (k : Nat) : (swp zs i j)[k]? = if k = j then zs[i]? else if k = i then zs[j]? else zs[k]? := by
  unfold swp
  rw [List.getElem?_set]
  by_cases h1 : j = k
  · subst h1
    rw [if_pos rfl, if_pos (by simpa using hj), if_pos rfl, List.getD_eq_getElem?_getD, List.getElem?_eq_getElem hi]
    rfl
  · rw [if_neg h1, if_neg (fun h => h1 h.symm), List.getElem?_set]
    by_cases h2 : i = k
    · subst h2
      rw [if_pos rfl, if_pos hi, if_pos rfl, List.getD_eq_getElem?_getD, List.getElem?_eq_getElem hj]
      rfl
    · rw [if_neg h2, if_neg (fun h => h2 h.symm)]
/-- k places from a on change with those from b on. -/
def sw (zs : List Int) (a b : Nat) : Nat → List Int
  | 0 => zs
  | k + 1 => swp (sw zs a b k) (a + k) (b + k)
theorem sw_len (zs : List Int) (a b : Nat) : ∀ k, (sw zs a b k).length = zs.length
  | 0 => rfl
  | k + 1 => by rw [sw, swp_len, sw_len]
theorem sw_get {zs : List Int} {a b : Nat} : ∀ {k : Nat}, a + k ≤ b → b + k ≤ zs.length → ∀ i, (sw zs a b k)[i]? = if a ≤ i ∧ i < a + k then zs[i + (b - a)]? else if b ≤ i ∧ i < b + k then zs[i - (b - a)]? else zs[i]? := by
  intro k
  induction k with
  | zero =>
    intro _ _ i
    rw [sw, if_neg (by omega), if_neg (by omega)]
  | succ k ih =>
    intro h1 h2 i
    have IH := ih (by omega) (by omega)
    rw [sw, swp_get (by rw [sw_len]; omega) (by rw [sw_len]; omega)]
    by_cases e1 : i = b + k
    · subst e1
      rw [if_pos rfl, IH, if_neg (by omega), if_neg (by omega), if_neg (by omega), if_pos (by omega)]
      congr 1
      omega
    · rw [if_neg e1]
      by_cases e2 : i = a + k
      · subst e2
        rw [if_pos rfl, IH, if_neg (by omega), if_neg (by omega), if_pos (by omega)]
        congr 1
        omega
      · rw [if_neg e2, IH]
        by_cases c1 : a ≤ i ∧ i < a + k
        · rw [if_pos c1, if_pos (by omega)]
        · rw [if_neg c1]
          by_cases c2 : b ≤ i ∧ i < b + k
          · rw [if_pos c2, if_neg (show ¬ (a ≤ i ∧ i < a + (k + 1)) by omega), if_pos (show b ≤ i ∧ i < b + (k + 1) by omega)]
          · rw [if_neg c2, if_neg (show ¬ (a ≤ i ∧ i < a + (k + 1)) by omega), if_neg (show ¬ (b ≤ i ∧ i < b + (k + 1)) by omega)]
/-- The places from a to m and those from m to b change sides. -/
def rot (zs : List Int) (a m b : Nat) : List Int := zs.take a ++ ((zs.drop m).take (b - m) ++ ((zs.drop a).take (m - a) ++ zs.drop b))
theorem rot_len {zs : List Int} {a m b : Nat} (h1 : a ≤ m) (h2 : m ≤ b) (h3 : b ≤ zs.length) : (rot zs a m b).length = zs.length := by
  simp only [rot, List.length_append, List.length_take, List.length_drop]
  omega
theorem rot_get {zs : List Int} {a m b : Nat} (h1 : a ≤ m) (h2 : m ≤ b) (h3 : b ≤ zs.length) (i : Nat) :
    (rot zs a m b)[i]? = if i < a then zs[i]? else if i < a + (b - m) then zs[i + (m - a)]? else if i < b then zs[i - (b - m)]? else zs[i]? := by
  unfold rot
  rw [List.getElem?_append]
  have l1 : (zs.take a).length = a := by rw [List.length_take]; omega
  have l2 : ((zs.drop m).take (b - m)).length = b - m := by rw [List.length_take, List.length_drop]; omega
  have l3 : ((zs.drop a).take (m - a)).length = m - a := by rw [List.length_take, List.length_drop]; omega
  rw [l1]
  by_cases c1 : i < a
  · rw [if_pos c1, if_pos c1, List.getElem?_take, if_pos c1]
  · rw [if_neg c1, if_neg c1, List.getElem?_append, l2]
    by_cases c2 : i < a + (b - m)
    · rw [if_pos (by omega), if_pos c2, List.getElem?_take, if_pos (by omega), List.getElem?_drop]
      congr 1
      omega
    · rw [if_neg (by omega), if_neg c2, List.getElem?_append, l3]
      by_cases c3 : i < b
      · rw [if_pos (by omega), if_pos c3, List.getElem?_take, if_pos (by omega), List.getElem?_drop]
        congr 1
        omega
      · rw [if_neg (by omega), if_neg c3, List.getElem?_drop]
        congr 1
        omega
theorem rot_more {zs : List Int} {m i j : Nat} (hi : i ≤ m) (hj : m + j ≤ zs.length) (h : j < i) : rot (sw zs (m - i) m j) (m - i + j) m (m + j) = rot zs (m - i) m (m + j) := by
  apply List.ext_getElem?
  intro k
  have g := sw_get (zs := zs) (a := m - i) (b := m) (k := j) (by omega) hj
  rw [rot_get (by omega) (by omega) (by rw [sw_len]; omega), rot_get (by omega) (by omega) hj]
  simp only [g]
  repeat' split
  all_goals first
    | rfl
    | (exfalso; omega)
    | (congr 1; omega)
theorem rot_less {zs : List Int} {m i j : Nat} (hi : i ≤ m) (hj : m + j ≤ zs.length) (h : i < j) : rot (sw zs (m - i) (m + j - i) i) (m - i) m (m + (j - i)) = rot zs (m - i) m (m + j) := by
  apply List.ext_getElem?
  intro k
  have g := sw_get (zs := zs) (a := m - i) (b := m + j - i) (k := i) (by omega) (by omega)
  rw [rot_get (by omega) (by omega) (by rw [sw_len]; omega), rot_get (by omega) (by omega) hj]
  simp only [g]
  repeat' split
  all_goals first
    | rfl
    | (exfalso; omega)
    | (congr 1; omega)
theorem rot_same {zs : List Int} {m i : Nat} (hi : i ≤ m) (hj : m + i ≤ zs.length) : sw zs (m - i) m i = rot zs (m - i) m (m + i) := by
  apply List.ext_getElem?
  intro k
  have g := sw_get (zs := zs) (a := m - i) (b := m) (k := i) (by omega) hj
  rw [rot_get (by omega) (by omega) hj, g]
  repeat' split
  all_goals first
    | rfl
    | (exfalso; omega)
    | (congr 1; omega)
end Go.Proofs.YtillhbbeghbfeaaDoor
