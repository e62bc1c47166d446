/- Sums and quotients of whole numbers as floats of 64 bits. Plain law. -/
import Derived.Test.YtillhbbeghbfeaaDoorFloR
namespace Go.Proofs.YtillhbbeghbfeaaDoor
set_option linter.unusedVariables false
open Ieee

/-- The float of a whole number. -/
def wF (n : Nat) : Nat := double.nearest false n 0
theorem word_pos (r : Nat) : double.word false r = r := rfl
theorem wF_rnd {p : Nat} (hp : p = 1074) (n : Nat) : wF n = rndF (n * 2 ^ p) := by
  have := nearest_rnd false n p
  rw [show (-1074 : Int) + (p : Int) = 0 by omega, word_pos] at this
  exact this
theorem rndF_le (N : Nat) : rndF N ≤ fInf := Nat.min_le_right _ _
theorem fInf_eq : fInf = 9218868437227405312 := by decide
theorem rung_small {r : Nat} (h : r ≤ fInf) : rungF r = r := by
  unfold rungF
  rw [fInf_eq] at h
  exact Nat.mod_eq_of_lt (by omega)
theorem neg_small {r : Nat} (h : r ≤ fInf) : negF r = false := by
  unfold negF
  rw [fInf_eq] at h
  rw [Nat.div_eq_of_lt (by omega)]
  rfl
theorem nan_small {r : Nat} (h : r ≤ fInf) : nanF r = false := by
  unfold nanF
  rw [rung_small h]
  simpa using h
theorem sv_small {r : Nat} (h : r ≤ fInf) : svF r = (vF r : Int) := by
  unfold svF
  rw [neg_small h, rung_small h]
  rfl
theorem lt_small {r : Nat} (h : r ≤ fInf) : r < 18446744073709551616 := by rw [fInf_eq] at h; omega
theorem p74 : ∃ p, p = 1074 := ⟨_, rfl⟩
theorem wF_le (n : Nat) : wF n ≤ fInf := by
  obtain ⟨p, hp⟩ := p74
  rw [wF_rnd hp]
  exact rndF_le _
theorem wF_val {p : Nat} (hp : p = 1074) {n : Nat} (h : n < 9007199254740992) : vF (wF n) = n * 2 ^ p := by
  rw [wF_rnd hp]
  exact rndF_exact h (by omega)
theorem wF_mono {a b : Nat} (h : a ≤ b) : wF a ≤ wF b := by
  obtain ⟨p, hp⟩ := p74
  rw [wF_rnd hp, wF_rnd hp]
  exact rndF_mono (Nat.mul_le_mul_right _ h)
theorem vF_inf : vF fInf = fB * 2 ^ (fInf / fB - 1) := by
  unfold vF
  rw [if_neg (by decide)]
  have e1 : fInf % fB = 0 := by decide
  rw [e1, Nat.add_zero]
theorem e2046 : fInf / fB - 1 = 2046 := by decide
theorem fB_eq : fB = 4503599627370496 := rfl
/-- A number below the greatest. -/
theorem below_inf {r : Nat} (h : r ≤ fInf) (hv : vF r < fB * 2 ^ (fInf / fB - 1)) : r < fInf := by
  rcases Nat.lt_or_eq_of_le h with h1 | h1
  · exact h1
  · rw [h1, vF_inf] at hv; omega
theorem wF_lt {n : Nat} (h : n < 9007199254740992) : wF n < fInf := by
  obtain ⟨p, hp⟩ := p74
  refine below_inf (wF_le n) ?_
  rw [wF_val hp h, e2046]
  obtain ⟨q, hq⟩ : ∃ q, q = 2046 := ⟨_, rfl⟩
  rw [← hq]
  have h0 : n < 2 ^ 53 := by rw [p53, fB_eq]; omega
  refine Nat.lt_of_lt_of_le (Nat.mul_lt_mul_of_pos_right h0 (Nat.two_pow_pos _)) ?_
  rw [← p52, ← Nat.pow_add, ← Nat.pow_add]
  exact Nat.pow_le_pow_right (by decide) (by omega)
theorem floatOf_nat (n : Nat) : floatOfInt .f64 (n : Int) = wF n := by
  show double.nearest (decide ((n : Int) < 0)) (n : Int).natAbs 0 = _
  have e1 : decide ((n : Int) < 0) = false := decide_eq_false (by omega)
  rw [e1, Int.natAbs_natCast, wF]
theorem floatOf_neg (n k : Nat) (hk : k = n + 1) : floatOfInt .f64 (-((n : Int) + 1)) = double.word true (wF k) := by
  show double.nearest (decide (-((n : Int) + 1) < 0)) (-((n : Int) + 1)).natAbs 0 = _
  have e1 : decide (-((n : Int) + 1) < 0) = true := decide_eq_true (by omega)
  have e2 : (-((n : Int) + 1)).natAbs = k := by omega
  obtain ⟨p, hp⟩ := p74
  rw [e1, e2, wF_rnd hp]
  have := nearest_rnd true k p
  rw [show (-1074 : Int) + (p : Int) = 0 by omega] at this
  exact this
/-- A sum of two numbers above zero. -/
theorem add_pos {x y : Nat} (hx : x < fInf) (hy : y < fInf) : double.add x y = some (rndF (vF x + vF y)) := by
  obtain ⟨m, a, e1, v1⟩ := read_num (x := x) (by rw [rung_small (Nat.le_of_lt hx)]; exact hx)
  obtain ⟨n, b, e2, v2⟩ := read_num (x := y) (by rw [rung_small (Nat.le_of_lt hy)]; exact hy)
  rw [rung_small (Nat.le_of_lt hx)] at v1
  rw [rung_small (Nat.le_of_lt hy)] at v2
  rw [neg_small (Nat.le_of_lt hx)] at e1
  rw [neg_small (Nat.le_of_lt hy)] at e2
  unfold Format.add
  rw [e1, e2, leastD]
  have hmin : min (-1074 + (a : Int)) (-1074 + (b : Int)) = -1074 + ((min a b : Nat) : Int) := by omega
  have ha : (-1074 + (a : Int) - (-1074 + ((min a b : Nat) : Int))).toNat = a - min a b := by omega
  have hb : (-1074 + (b : Int) - (-1074 + ((min a b : Nat) : Int))).toNat = b - min a b := by omega
  simp only [Datum.sum, hmin, ha, hb, signed, Option.map_some, Bool.false_eq_true, if_false, Nat.shiftLeft_eq]
  have ht : ((m * 2 ^ (a - min a b) : Nat) : Int) + ((n * 2 ^ (b - min a b) : Nat) : Int) = ((m * 2 ^ (a - min a b) + n * 2 ^ (b - min a b) : Nat) : Int) := by simp
  rw [ht, Int.natAbs_natCast]
  have hsgn : (if ((m * 2 ^ (a - min a b) + n * 2 ^ (b - min a b) : Nat) : Int) = 0 then (false && false) else decide (((m * 2 ^ (a - min a b) + n * 2 ^ (b - min a b) : Nat) : Int) < 0)) = false := by
    split
    · rfl
    · exact decide_eq_false (by omega)
  rw [hsgn]
  show some (double.nearest _ _ _) = _
  rw [nearest_rnd, word_pos, Nat.add_mul, Nat.mul_assoc, Nat.mul_assoc, ← Nat.pow_add, ← Nat.pow_add, show a - min a b + min a b = a by omega, show b - min a b + min a b = b by omega, v1, v2]
theorem add_wF {a b : Nat} (h : a + b < 9007199254740992) : double.add (wF a) (wF b) = some (wF (a + b)) := by
  obtain ⟨p, hp⟩ := p74
  rw [add_pos (wF_lt (by omega)) (wF_lt (by omega)), wF_val hp (by omega), wF_val hp (by omega), ← Nat.add_mul, wF_rnd hp]
theorem log2_lt {a : Nat} (h0 : a ≠ 0) (h : a < 9007199254740992) : a.log2 ≤ 52 := by
  have h1 := (log2_bounds h0).1
  have : 2 ^ a.log2 < 2 ^ 53 := Nat.lt_of_le_of_lt h1 (by omega)
  have := (Nat.pow_lt_pow_iff_right (by omega : 1 < 2)).1 this
  omega
/-- How a whole number is read. -/
theorem read_wF {a : Nat} (h0 : a ≠ 0) (h : a < 9007199254740992) : ∃ m, double.read (wF a) = .number false m (-1074 + ((1022 + a.log2 : Nat) : Int)) ∧ fB ≤ m ∧ m < 2 * fB ∧ m * 2 ^ a.log2 = a * fB := by
  have hx := wF_lt h
  obtain ⟨p, hp⟩ := p74
  have hv := wF_val hp h
  have hr := rung_small (Nat.le_of_lt hx)
  have hB : fB ≤ wF a := by
    have ha1 : 1 ≤ a := Nat.pos_of_ne_zero h0
    have h1 : fB ≤ a * 2 ^ p := by
      rw [← p52]
      refine Nat.le_trans (Nat.pow_le_pow_right (by decide) (show 52 ≤ p by omega)) ?_
      exact Nat.le_mul_of_pos_left _ ha1
    rcases Nat.lt_or_ge (wF a) fB with h2 | h2
    · have : vF (wF a) = wF a := by unfold vF; rw [if_pos h2]
      rw [this] at hv
      rw [← hv] at h1
      exact h1
    · exact h2
  have hm1 : wF a % fB < fB := Nat.mod_lt _ fB_pos
  have hread : double.read (wF a) = .number false (fB + wF a % fB) (-1074 + ((wF a / fB - 1 : Nat) : Int)) := by
    unfold Format.read
    rw [fmtB, fmtI, fmtS]
    have e1 : (wF a / 9223372036854775808 % 2 == 1) = false := neg_small (Nat.le_of_lt hx)
    have e2 : wF a % 9223372036854775808 = wF a := hr
    rw [e1, e2]
    show (if wF a < fB then _ else if wF a < fInf then _ else _) = _
    rw [if_neg (by omega), if_pos hx, leastD]
  have hvv : (fB + wF a % fB) * 2 ^ (wF a / fB - 1) = a * 2 ^ p := by
    rw [← hv]
    unfold vF
    rw [if_neg (by omega)]
  have hlog : wF a / fB - 1 = 1022 + a.log2 := by
    have hm0 : fB + wF a % fB ≠ 0 := by have := fB_pos; omega
    have l1 := log2_shift hm0 (wF a / fB - 1)
    have l2 := log2_shift h0 p
    rw [hvv, l2] at l1
    have l3 : (fB + wF a % fB).log2 = 52 := by
      rw [Nat.log2_eq_iff hm0]
      refine ⟨by rw [p52]; omega, by rw [show 52 + 1 = 53 by rfl, p53]; omega⟩
    omega
  refine ⟨fB + wF a % fB, by rw [hread, hlog], by omega, by omega, ?_⟩
  obtain ⟨q, hq⟩ : ∃ q, q = 1022 := ⟨_, rfl⟩
  rw [hlog, show 1022 + a.log2 = a.log2 + q by omega, Nat.pow_add, ← Nat.mul_assoc] at hvv
  have e : a * 2 ^ p = a * fB * 2 ^ q := by
    rw [Nat.mul_assoc, ← p52, ← Nat.pow_add, show 52 + q = p by omega]
  rw [e] at hvv
  exact Nat.eq_of_mul_eq_mul_right (Nat.two_pow_pos q) hvv
/-- The digits of a quotient, and one more that tells of a rest. -/
def qF (m n : Nat) : Nat := 2 * (m * 2 ^ 54 / n) + (m * 2 ^ 54 % n != 0).toNat
theorem qF_lo {m n T : Nat} (hn : 0 < n) (h : T * n ≤ m * 2 ^ 54) : 2 * T ≤ qF m n := by
  unfold qF
  have := (Nat.le_div_iff_mul_le hn).2 h
  omega
theorem qF_hi {m n T : Nat} (hn : 0 < n) (h : m * 2 ^ 54 ≤ T * n) : qF m n ≤ 2 * T := by
  unfold qF
  by_cases e : m * 2 ^ 54 % n = 0
  · rw [e]
    have : m * 2 ^ 54 / n ≤ T := Nat.div_le_of_le_mul (by rw [Nat.mul_comm n T]; exact h)
    show 2 * (m * 2 ^ 54 / n) + 0 ≤ 2 * T
    rw [Nat.add_zero]
    exact Nat.mul_le_mul_left 2 this
  · have h1 : m * 2 ^ 54 / n < T := by
      rw [Nat.div_lt_iff_lt_mul hn]
      rcases Nat.lt_or_eq_of_le h with hl | he
      · exact hl
      · rw [he, Nat.mul_mod_left] at e; exact absurd rfl e
    have h2 : (m * 2 ^ 54 % n != 0).toNat ≤ 1 := by cases (m * 2 ^ 54 % n != 0) <;> decide
    omega
/-- A quotient of whole numbers. -/
theorem div_wF {a b : Nat} (ha : a ≠ 0) (hb : b ≠ 0) (ha2 : a < 9007199254740992) (hb2 : b < 9007199254740992) :
    ∃ m n, fB ≤ m ∧ m < 2 * fB ∧ m * 2 ^ a.log2 = a * fB ∧ fB ≤ n ∧ n < 2 * fB ∧ n * 2 ^ b.log2 = b * fB ∧ double.div (wF a) (wF b) = some (rndF (qF m n * 2 ^ (1019 + a.log2 - b.log2))) := by
  obtain ⟨m, e1, m1, m2, m3⟩ := read_wF ha ha2
  obtain ⟨n, e2, n1, n2, n3⟩ := read_wF hb hb2
  refine ⟨m, n, m1, m2, m3, n1, n2, n3, ?_⟩
  have hlb := log2_lt hb hb2
  have hn0 : n ≠ 0 := by have := fB_pos; omega
  have l1 : m.log2 = 52 := by
    rw [Nat.log2_eq_iff (by have := fB_pos; omega)]
    exact ⟨by rw [p52]; exact m1, by rw [show 52 + 1 = 53 by rfl, p53]; exact m2⟩
  have l2 : n.log2 = 52 := by
    rw [Nat.log2_eq_iff hn0]
    exact ⟨by rw [p52]; exact n1, by rw [show 52 + 1 = 53 by rfl, p53]; exact n2⟩
  unfold Format.div
  rw [e1, e2]
  have hfb : double.fractionBits + 2 = 54 := rfl
  simp only [Datum.quotient, hfb, if_neg hn0, l1, l2, Option.map_some, Nat.shiftLeft_eq]
  show some (double.nearest (false ^^ false) (qF m n) _) = _
  have hp : (-1074 + ((1022 + a.log2 : Nat) : Int) - (-1074 + ((1022 + b.log2 : Nat) : Int)) - ((54 + 52 - 52 : Nat) : Int) - 1) = -1074 + ((1019 + a.log2 - b.log2 : Nat) : Int) := by omega
  rw [hp]
  show some (double.nearest false (qF m n) _) = _
  rw [nearest_rnd, word_pos]
theorem pow_shift (L c e : Nat) : L * 2 ^ c * 2 ^ e = L * 2 ^ (c + e) := by rw [Nat.mul_assoc, ← Nat.pow_add]
/-- A quotient lies where its bounds do. -/
theorem div_bounds {p : Nat} (hp : p = 1074) {a b s : Nat} (ha : a ≠ 0) (hb : b ≠ 0) (ha2 : a < 9007199254740992) (hb2 : b < 9007199254740992) (hs : a.log2 + s ≤ b.log2 + 54) :
    ∃ Q, double.div (wF a) (wF b) = some (rndF Q) ∧ (∀ L, L * b ≤ a * 2 ^ s → L * 2 ^ (p - s) ≤ Q) ∧ (∀ H, a * 2 ^ s ≤ H * b → Q ≤ H * 2 ^ (p - s)) := by
  obtain ⟨m, n, m1, m2, m3, n1, n2, n3, hd⟩ := div_wF ha hb ha2 hb2
  have hlb := log2_lt hb hb2
  have hla := log2_lt ha ha2
  obtain ⟨c, hc⟩ : ∃ c, c = b.log2 + 54 - a.log2 - s := ⟨_, rfl⟩
  have hn : 0 < n := by have := fB_pos; omega
  have hB := fB_pos
  -- both sides in one measure
  have key : ∀ L, (L * b ≤ a * 2 ^ s ↔ L * 2 ^ c * n ≤ m * 2 ^ 54) ∧ (a * 2 ^ s ≤ L * b ↔ m * 2 ^ 54 ≤ L * 2 ^ c * n) := by
    intro L
    have e1 : L * b * fB = L * n * 2 ^ b.log2 := by rw [Nat.mul_assoc, ← n3, Nat.mul_assoc]
    have e2 : a * 2 ^ s * fB = m * 2 ^ (a.log2 + s) := by
      rw [Nat.mul_right_comm, ← m3, pow_shift]
    have e3 : L * n * 2 ^ b.log2 * 2 ^ 54 = L * 2 ^ c * n * 2 ^ (a.log2 + s) := by
      rw [pow_shift, show b.log2 + 54 = c + (a.log2 + s) by omega, Nat.pow_add]
      rw [Nat.mul_right_comm L (2 ^ c) n, Nat.mul_assoc (L * n)]
    have e4 : m * 2 ^ (a.log2 + s) * 2 ^ 54 = m * 2 ^ 54 * 2 ^ (a.log2 + s) := Nat.mul_right_comm _ _ _
    have p1 : 0 < 2 ^ (a.log2 + s) := Nat.two_pow_pos _
    have p2 : (0 : Nat) < 2 ^ 54 := Nat.two_pow_pos _
    constructor
    · rw [← Nat.mul_le_mul_right_iff hB, e1, e2, ← Nat.mul_le_mul_right_iff p2, e3, e4, Nat.mul_le_mul_right_iff p1]
    · rw [← Nat.mul_le_mul_right_iff hB, e1, e2, ← Nat.mul_le_mul_right_iff p2, e3, e4, Nat.mul_le_mul_right_iff p1]
  have hexp : ∀ L, 2 * (L * 2 ^ c) * 2 ^ (1019 + a.log2 - b.log2) = L * 2 ^ (p - s) := by
    intro L
    rw [show 2 * (L * 2 ^ c) = L * 2 ^ (c + 1) by rw [Nat.pow_succ]; rw [Nat.mul_comm, Nat.mul_assoc], pow_shift]
    rw [show c + 1 + (1019 + a.log2 - b.log2) = p - s by omega]
  refine ⟨_, hd, fun L h => ?_, fun H h => ?_⟩
  · rw [← hexp L]
    exact Nat.mul_le_mul_right _ (qF_lo hn ((key L).1.1 h))
  · rw [← hexp H]
    exact Nat.mul_le_mul_right _ (qF_hi hn ((key H).2.1 h))
/-- The mean of some whole numbers lies between the least and the greatest. -/
theorem mean_bounds {S n lo hi : Nat} (hn : n ≠ 0) (hn2 : n < 9007199254740992) (hS2 : S < 9007199254740992) (h1 : lo * n ≤ S) (h2 : S ≤ hi * n) :
    ∃ r, double.div (wF S) (wF n) = some r ∧ r ≤ fInf ∧ wF lo ≤ r ∧ r ≤ wF hi := by
  by_cases h0 : S = 0
  · subst h0
    have hlo : lo = 0 := by
      rcases Nat.eq_zero_or_pos lo with h | h
      · exact h
      · have : 1 * 1 ≤ lo * n := Nat.mul_le_mul h (by omega)
        omega
    subst hlo
    obtain ⟨m, e, m1, m2, m3⟩ := read_wF hn hn2
    have hm0 : m ≠ 0 := by have := fB_pos; omega
    have e0 : wF 0 = 0 := by
      obtain ⟨p, hp⟩ := p74
      rw [wF_rnd hp, Nat.zero_mul, rndF_zero]
    have hd : double.div (wF 0) (wF n) = some 0 := by
      unfold Format.div
      rw [e0, e]
      have hr : double.read 0 = .number false 0 (-1074) := by decide
      rw [hr]
      simp only [Datum.quotient, if_neg hm0, Option.map_some]
      have : (2 * (0 <<< (double.fractionBits + 2 + m.log2 - Nat.log2 0) / m) + ((0 <<< (double.fractionBits + 2 + m.log2 - Nat.log2 0)) % m != 0).toNat) = 0 := by simp
      rw [this]
      show some (double.nearest _ 0 _) = _
      unfold Format.nearest
      rw [if_pos rfl]
      rfl
    exact ⟨0, hd, by rw [fInf_eq]; omega, by rw [e0]; omega, Nat.zero_le _⟩
  · have hll := log2_lt h0 hS2
    obtain ⟨p, hp⟩ := p74
    obtain ⟨Q, hd, q1, q2⟩ := div_bounds hp (s := 0) h0 hn hS2 hn2 (by omega)
    refine ⟨_, hd, rndF_le _, ?_, ?_⟩
    all_goals rw [wF_rnd hp]; refine rndF_mono ?_
    · exact q1 lo (by rwa [Nat.pow_zero, Nat.mul_one])
    · exact q2 hi (by rwa [Nat.pow_zero, Nat.mul_one])
end Go.Proofs.YtillhbbeghbfeaaDoor
