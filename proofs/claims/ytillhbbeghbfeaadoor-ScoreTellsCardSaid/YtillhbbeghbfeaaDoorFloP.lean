/- Floats of 64 bits: their order, as whole numbers tell it. Plain law: no program in sight. -/
import Derived.Laws.Cover2
namespace Go.Proofs.YtillhbbeghbfeaaDoor
set_option linter.unusedVariables false
open Ieee

/-- Rungs of one binade. -/
def fB : Nat := 4503599627370496
def fInf : Nat := 2047 * fB
def rungF (x : Nat) : Nat := x % 9223372036854775808
def negF (x : Nat) : Bool := x / 9223372036854775808 % 2 == 1
def nanF (x : Nat) : Bool := decide (fInf < rungF x)
/-- What a rung is worth, in units of the least one. -/
def vF (r : Nat) : Nat := if r < fB then r else (fB + r % fB) * 2 ^ (r / fB - 1)
def svF (x : Nat) : Int := if negF x = true then -(vF (rungF x) : Int) else (vF (rungF x) : Int)
theorem fB_pos : 0 < fB := by decide
theorem vF_top {r : Nat} (h : fB ≤ r) : fB * 2 ^ (r / fB - 1) ≤ vF r ∧ vF r < 2 * fB * 2 ^ (r / fB - 1) := by
  unfold vF
  rw [if_neg (by omega)]
  have h1 : r % fB < fB := Nat.mod_lt _ fB_pos
  have hp : 0 < 2 ^ (r / fB - 1) := Nat.two_pow_pos _
  exact ⟨Nat.mul_le_mul_right _ (by omega), Nat.mul_lt_mul_of_pos_right (by omega) hp⟩
theorem vF_mono {r s : Nat} (h : r < s) : vF r < vF s := by
  by_cases hr : r < fB
  · have e : vF r = r := by unfold vF; rw [if_pos hr]
    by_cases hs : s < fB
    · have e2 : vF s = s := by unfold vF; rw [if_pos hs]
      omega
    · have h1 := (vF_top (r := s) (by omega)).1
      have hp : 1 ≤ 2 ^ (s / fB - 1) := Nat.two_pow_pos _
      have h2 : fB * 1 ≤ fB * 2 ^ (s / fB - 1) := Nat.mul_le_mul_left _ hp
      omega
  · have hr' : fB ≤ r := by omega
    have hs' : fB ≤ s := by omega
    have hq : r / fB ≤ s / fB := Nat.div_le_div_right (by omega)
    have hq1 : 1 ≤ r / fB := (Nat.le_div_iff_mul_le fB_pos).2 (by omega)
    by_cases he : r / fB = s / fB
    · have hm : r % fB < s % fB := by
        have a := Nat.div_add_mod r fB
        have b := Nat.div_add_mod s fB
        rw [← he] at b
        omega
      unfold vF
      rw [if_neg hr, if_neg (by omega), he]
      exact Nat.mul_lt_mul_of_pos_right (by omega) (Nat.two_pow_pos _)
    · have h1 := (vF_top hr').2
      have h2 := (vF_top hs').1
      have h3 : 2 ^ (r / fB - 1 + 1) ≤ 2 ^ (s / fB - 1) := Nat.pow_le_pow_right (by omega) (by omega)
      rw [Nat.pow_succ] at h3
      have h4 : fB * (2 ^ (r / fB - 1) * 2) ≤ fB * 2 ^ (s / fB - 1) := Nat.mul_le_mul_left _ h3
      have h5 : 2 * fB * 2 ^ (r / fB - 1) = fB * (2 ^ (r / fB - 1) * 2) := by
        rw [Nat.mul_comm 2 fB, Nat.mul_assoc, Nat.mul_comm 2 (2 ^ _)]
      omega
theorem vF_inj {r s : Nat} (h : vF r = vF s) : r = s := by
  rcases Nat.lt_trichotomy r s with h1 | h1 | h1
  · have := vF_mono h1; omega
  · exact h1
  · have := vF_mono h1; omega
theorem vF_zero {r : Nat} : vF r = 0 ↔ r = 0 := by
  constructor
  · intro h
    exact vF_inj (h.trans (show 0 = vF 0 by decide))
  · rintro rfl; decide
theorem fmtB : double.binade = fB := by decide
theorem fmtI : double.infRung = fInf := by decide
theorem fmtS : double.signWeight = 9223372036854775808 := by decide
/-- A word that is no infinity and is a number. -/
theorem read_num {x : Nat} (h : rungF x < fInf) : ∃ m a : Nat, double.read x = .number (negF x) m (double.leastPlace + a) ∧ vF (rungF x) = m * 2 ^ a := by
  unfold Format.read
  rw [fmtB, fmtI, fmtS]
  by_cases hb : rungF x < fB
  · refine ⟨rungF x, 0, ?_, by unfold vF; rw [if_pos hb]; simp⟩
    show (if rungF x < fB then _ else _) = _
    rw [if_pos hb]
    simp
    exact ⟨rfl, rfl⟩
  · refine ⟨fB + rungF x % fB, rungF x / fB - 1, ?_, by unfold vF; rw [if_neg hb]⟩
    show (if rungF x < fB then _ else if rungF x < fInf then _ else _) = _
    rw [if_neg hb, if_pos h]
    rfl
theorem read_inf {x : Nat} (h : rungF x = fInf) : double.read x = .infinity (negF x) := by
  unfold Format.read
  rw [fmtB, fmtI, fmtS]
  show (if rungF x < fB then _ else if rungF x < fInf then _ else if rungF x = fInf then _ else _) = _
  rw [h, if_neg (by decide), if_neg (by decide), if_pos rfl]
  rfl
theorem read_nan {x : Nat} (h : nanF x = true) : ∃ s t, double.read x = .nan s t := by
  have h' : fInf < rungF x := of_decide_eq_true h
  unfold Format.read
  rw [fmtB, fmtI, fmtS]
  refine ⟨negF x, rungF x - fInf, ?_⟩
  have hb : fB < fInf := by decide
  show (if rungF x < fB then _ else if rungF x < fInf then _ else if rungF x = fInf then _ else _) = _
  rw [if_neg (by omega), if_neg (by omega), if_neg (by omega)]
  rfl
theorem signed_mul (s : Bool) (m u : Nat) : signed s m u = (if s = true then -((m * 2 ^ u : Nat) : Int) else ((m * 2 ^ u : Nat) : Int)) := by
  unfold signed
  rw [Nat.shiftLeft_eq]
theorem compare_scale (p q : Int) (c : Nat) (h : 0 < c) : compare (p * (c : Int)) (q * (c : Int)) = compare p q := by
  have hc : (0 : Int) < (c : Int) := by omega
  rcases Int.lt_trichotomy p q with h1 | h1 | h1
  · have h2 : p * (c : Int) < q * (c : Int) := Int.mul_lt_mul_of_pos_right h1 hc
    rw [Int.compare_eq_lt.2 h1, Int.compare_eq_lt.2 h2]
  · rw [h1]; simp
  · have h2 : q * (c : Int) < p * (c : Int) := Int.mul_lt_mul_of_pos_right h1 hc
    rw [Int.compare_eq_gt.2 h1, Int.compare_eq_gt.2 h2]
/-- The order of two words that are numbers. -/
theorem order_sv {x y : Nat} (hx : nanF x = false) (hy : nanF y = false) : double.order x y = some (compare (svF x) (svF y)) := by
  have hx' : rungF x ≤ fInf := by have := of_decide_eq_false hx; omega
  have hy' : rungF y ≤ fInf := by have := of_decide_eq_false hy; omega
  unfold Format.order
  rcases Nat.lt_or_eq_of_le hx' with h1 | h1
  · obtain ⟨m, a, e1, v1⟩ := read_num h1
    rcases Nat.lt_or_eq_of_le hy' with h2 | h2
    · obtain ⟨n, b, e2, v2⟩ := read_num h2
      rw [e1, e2]
      show some (compare (signed _ m _) (signed _ n _)) = _
      congr 1
      rw [signed_mul, signed_mul]
      generalize double.leastPlace = L
      have ha : (L + (a : Int) - min (L + (a : Int)) (L + (b : Int))).toNat = a - min a b := by omega
      have hb : (L + (b : Int) - min (L + (a : Int)) (L + (b : Int))).toNat = b - min a b := by omega
      rw [ha, hb]
      unfold svF
      rw [v1, v2]
      have pa : m * 2 ^ a = (m * 2 ^ (a - min a b)) * 2 ^ (min a b) := by rw [Nat.mul_assoc, ← Nat.pow_add]; congr 2; omega
      have pb : n * 2 ^ b = (n * 2 ^ (b - min a b)) * 2 ^ (min a b) := by rw [Nat.mul_assoc, ← Nat.pow_add]; congr 2; omega
      rw [pa, pb]
      have key := compare_scale (if negF x = true then -((m * 2 ^ (a - min a b) : Nat) : Int) else ((m * 2 ^ (a - min a b) : Nat) : Int)) (if negF y = true then -((n * 2 ^ (b - min a b) : Nat) : Int) else ((n * 2 ^ (b - min a b) : Nat) : Int)) (2 ^ (min a b)) (Nat.two_pow_pos _)
      rw [← key]
      congr 1
      · split <;> simp [Int.neg_mul, Int.natCast_mul]
      · split <;> simp [Int.neg_mul, Int.natCast_mul]
    · rw [e1, read_inf h2]
      show some (if negF y = true then Ordering.gt else Ordering.lt) = _
      have hlt := vF_mono (r := rungF x) (s := rungF y) (by omega)
      congr 1
      unfold svF
      cases negF y
      · symm; show compare _ _ = Ordering.lt; rw [Int.compare_eq_lt]; cases negF x <;> (try simp) <;> omega
      · symm; show compare _ _ = Ordering.gt; rw [Int.compare_eq_gt]; cases negF x <;> (try simp) <;> omega
  · rcases Nat.lt_or_eq_of_le hy' with h2 | h2
    · obtain ⟨n, b, e2, v2⟩ := read_num h2
      rw [e2, read_inf h1]
      show some (if negF x = true then Ordering.lt else Ordering.gt) = _
      have hlt := vF_mono (r := rungF y) (s := rungF x) (by omega)
      congr 1
      unfold svF
      cases negF x
      · symm; show compare _ _ = Ordering.gt; rw [Int.compare_eq_gt]; cases negF y <;> (try simp) <;> omega
      · symm; show compare _ _ = Ordering.lt; rw [Int.compare_eq_lt]; cases negF y <;> (try simp) <;> omega
    · rw [read_inf h1, read_inf h2]
      show some (compare (negF y).toNat (negF x).toNat) = _
      congr 1
      unfold svF
      rw [h1, h2]
      have hpos : 0 < vF fInf := vF_mono (r := 0) (by decide)
      generalize vF fInf = v at *
      cases negF x <;> cases negF y
      · simp
      · symm; show compare _ _ = Ordering.gt; rw [Int.compare_eq_gt]; simp; omega
      · symm; show compare _ _ = Ordering.lt; rw [Int.compare_eq_lt]; simp; omega
      · simp
theorem order_nanL {x y : Nat} (h : nanF x = true) : double.order x y = none := by
  obtain ⟨s, t, e⟩ := read_nan h
  unfold Format.order
  rw [e]
  cases double.read y <;> rfl
theorem order_nanR {x y : Nat} (h : nanF y = true) : double.order x y = none := by
  obtain ⟨s, t, e⟩ := read_nan h
  unfold Format.order
  rw [e]
  cases double.read x <;> rfl
/-- A number's place, a zero below zero ahead of one above. -/
def kF (x : Nat) : Int := 2 * svF x + (if negF x = true then 0 else 1)
/-- The place of any word: what is no number is ahead of all. -/
def KF (x : Nat) : Int := if nanF x = true then -2 * (vF 9223372036854775808 : Int) - 5 else kF x
theorem svF_neg {x : Nat} (h : svF x ≠ 0) : negF x = decide (svF x < 0) := by
  unfold svF at *
  cases hn : negF x
  · rw [hn] at h
    simp at h ⊢
  · rw [hn] at h
    simp at h ⊢
    omega
theorem svF_low (x : Nat) : -(vF 9223372036854775808 : Int) ≤ svF x := by
  have h := vF_mono (r := rungF x) (s := 9223372036854775808) (Nat.mod_lt _ (by decide))
  unfold svF
  split <;> omega
theorem kF_low (x : Nat) : -2 * (vF 9223372036854775808 : Int) ≤ kF x := by
  have := svF_low x
  unfold kF
  split <;> omega
/-- The order of two numbers: by their worth, zeros by their signs. -/
theorem below_kF (x y : Nat) : (if svF x = 0 ∧ svF y = 0 then negF x && !negF y else decide (svF x < svF y)) = decide (kF x < kF y) := by
  unfold kF
  by_cases h : svF x = 0 ∧ svF y = 0
  · rw [if_pos h, h.1, h.2]
    cases negF x <;> cases negF y <;> rfl
  · rw [if_neg h]
    rcases Int.lt_trichotomy (svF x) (svF y) with h1 | h1 | h1
    · rw [decide_eq_true h1]
      symm
      rw [decide_eq_true_iff]
      split <;> split <;> omega
    · have hx : svF x ≠ 0 := fun e => h ⟨e, by rw [← h1]; exact e⟩
      have e1 := svF_neg hx
      have e2 := svF_neg (x := y) (by rw [← h1]; exact hx)
      rw [e1, e2, h1]
      simp
    · rw [decide_eq_false (by omega)]
      symm
      rw [decide_eq_false_iff_not]
      split <;> split <;> omega
/-- Does one word stand ahead of another one: as the program asks. -/
def lessF (x y : Nat) : Bool := if (nanF x || nanF y) = true then nanF x && !nanF y else (if svF x = 0 ∧ svF y = 0 then negF x && !negF y else decide (svF x < svF y))
theorem lessF_KF (x y : Nat) : lessF x y = decide (KF x < KF y) := by
  unfold lessF KF
  have hx := kF_low x
  have hy := kF_low y
  rw [below_kF]
  cases nanF x <;> cases nanF y <;> simp <;> omega
theorem eq_sv {x y : Nat} (hx : nanF x = false) (hy : nanF y = false) : (double.order x y == some .eq) = decide (svF x = svF y) := by
  rw [order_sv hx hy, Bool.eq_iff_iff]
  simp
theorem lt_sv {x y : Nat} (hx : nanF x = false) (hy : nanF y = false) : (double.order x y == some .lt) = decide (svF x < svF y) := by
  rw [order_sv hx hy, Bool.eq_iff_iff]
  simp [Int.compare_eq_lt]
theorem ne_self (x : Nat) : (double.order x x != some .eq) = nanF x := by
  cases h : nanF x
  · rw [bne, eq_sv h h, decide_eq_true rfl]; rfl
  · rw [order_nanL h]; rfl
theorem svF_zero {x : Nat} : svF x = 0 ↔ rungF x = 0 := by
  rw [← vF_zero]
  unfold svF
  split <;> omega
/-- What is held within two others: as the program answers. -/
def clampF (q x lo hi : Nat) : Nat := if (nanF x || nanF lo || nanF hi || lessF hi lo) = true then q else if lessF x lo = true then lo else if lessF hi x = true then hi else x
theorem clampF_law {q x lo hi : Nat} (hq : nanF q = true) :
    (if (nanF x || nanF lo || nanF hi || lessF hi lo) = true then nanF (clampF q x lo hi) = true
     else lessF (clampF q x lo hi) lo = false ∧ lessF hi (clampF q x lo hi) = false ∧
       ((lessF x lo = false ∧ lessF hi x = false) → clampF q x lo hi = x) ∧ clampF q (clampF q x lo hi) lo hi = clampF q x lo hi) := by
  by_cases h : (nanF x || nanF lo || nanF hi || lessF hi lo) = true
  · rw [if_pos h]
    unfold clampF
    rw [if_pos h]
    exact hq
  · rw [if_neg h]
    have hb : (nanF x || nanF lo || nanF hi || lessF hi lo) = false := by simpa using h
    simp only [Bool.or_eq_false_iff] at hb
    obtain ⟨⟨⟨n1, n2⟩, n3⟩, n4⟩ := hb
    have hirr : ∀ z, lessF z z = false := fun z => by rw [lessF_KF]; simp
    by_cases h1 : lessF x lo = true
    · have e : clampF q x lo hi = lo := by unfold clampF; rw [if_neg h, if_pos h1]
      rw [e]
      refine ⟨hirr _, n4, ?_, ?_⟩
      · rintro ⟨h2, _⟩; rw [h1] at h2; cases h2
      · unfold clampF; rw [n2, n3, n4, hirr]; rfl
    · by_cases h2 : lessF hi x = true
      · have e : clampF q x lo hi = hi := by unfold clampF; rw [if_neg h, if_neg h1, if_pos h2]
        rw [e]
        refine ⟨n4, hirr _, ?_, ?_⟩
        · rintro ⟨_, h3⟩; rw [h2] at h3; cases h3
        · unfold clampF; rw [n2, n3, n4, hirr]; rfl
      · have e : clampF q x lo hi = x := by unfold clampF; rw [if_neg h, if_neg h1, if_neg h2]
        rw [e]
        exact ⟨by simpa using h1, by simpa using h2, fun _ => rfl, e⟩
theorem signbit_and (x : Nat) : x &&& 9223372036854775808 = if negF x = true then 9223372036854775808 else 0 := by
  have ht : x.testBit 63 = negF x := by
    rw [Nat.testBit_eq_decide_div_mod_eq]
    unfold negF
    rw [Bool.eq_iff_iff]
    simp
  have e : (9223372036854775808 : Nat) = 2 ^ 63 := by decide
  apply Nat.eq_of_testBit_eq
  intro i
  rw [Nat.testBit_and]
  by_cases hi : i = 63
  · subst hi
    rw [ht, e, Nat.testBit_two_pow_self]
    cases negF x
    · simp
    · rw [if_pos rfl, Nat.testBit_two_pow_self]; rfl
  · rw [e, Nat.testBit_two_pow_of_ne (by omega)]
    cases negF x
    · simp
    · rw [if_pos rfl, Nat.testBit_two_pow_of_ne (by omega)]; simp
end Go.Proofs.YtillhbbeghbfeaaDoor
