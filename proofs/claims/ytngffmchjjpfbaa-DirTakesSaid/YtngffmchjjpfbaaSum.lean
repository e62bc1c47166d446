/- Sums tell one byte: plain mathematics. -/
import Derived.Test.YtngffmchjjpfbaaSeal
namespace Go.Proofs.Ytngffmchjjpfbaa

theorem x32_inj_right {a b b' : Nat} (hb : b < 4294967296) (hb' : b' < 4294967296) (h : x32 a b = x32 a b') : b = b' := by
  have h1 : (BitVec.ofNat 32 a ^^^ BitVec.ofNat 32 b) = (BitVec.ofNat 32 a ^^^ BitVec.ofNat 32 b') := BitVec.eq_of_toNat_eq h
  have h2 : BitVec.ofNat 32 b = BitVec.ofNat 32 b' := by
    have := congrArg (BitVec.ofNat 32 a ^^^ ·) h1
    simpa [← BitVec.xor_assoc] using this
  have := congrArg BitVec.toNat h2
  simp only [BitVec.toNat_ofNat] at this
  omega
theorem x32_comm (a b : Nat) : x32 a b = x32 b a := by unfold x32; rw [BitVec.xor_comm]
theorem x32_inj_left {a a' b : Nat} (ha : a < 4294967296) (ha' : a' < 4294967296) (h : x32 a b = x32 a' b) : a = a' := by
  rw [x32_comm a, x32_comm a'] at h
  exact x32_inj_right ha ha' h
theorem mul_inj {a b c d : Nat} (hcd : c * d % 4294967296 = 1) (ha : a < 4294967296) (hb : b < 4294967296) (h : a * c % 4294967296 = b * c % 4294967296) : a = b := by
  have key : ∀ x, x < 4294967296 → (x * c % 4294967296) * d % 4294967296 = x := by
    intro x hx
    rw [Nat.mod_mul_mod, Nat.mul_assoc, ← Nat.mul_mod_mod, hcd, Nat.mul_one, Nat.mod_eq_of_lt hx]
  rw [← key a ha, ← key b hb, h]
theorem stp_inj_x {s x x' : Nat} (hx : x < 4294967296) (hx' : x' < 4294967296) (h : stp s x = stp s x') : x = x' :=
  x32_inj_right hx hx' (mul_inj (c := 16777619) (d := 899433627) (by decide) (x32_lt _ _) (x32_lt _ _) h)
theorem stp_inj_s {s s' x : Nat} (hs : s < 4294967296) (hs' : s' < 4294967296) (h : stp s x = stp s' x) : s = s' :=
  x32_inj_left hs hs' (mul_inj (c := 16777619) (d := 899433627) (by decide) (x32_lt _ _) (x32_lt _ _) h)
theorem fold_inj (v : List Nat) : ∀ {s s' : Nat}, s < 4294967296 → s' < 4294967296 → v.foldl stp s = v.foldl stp s' → s = s' := by
  induction v with
  | nil => intro s s' _ _ h; exact h
  | cons x v ih => intro s s' hs hs' h; exact stp_inj_s hs hs' (ih (stp_lt _ _) (stp_lt _ _) h)
theorem fold_lt (v : List Nat) : ∀ {s : Nat}, s < 4294967296 → v.foldl stp s < 4294967296 := by
  induction v with
  | nil => intro s hs; exact hs
  | cons x v ih => intro s _; exact ih (stp_lt _ _)
/-- A number changed by itself shifted down tells it. -/
theorem shift_inj {s t k : Nat} (hk : 0 < k) (hs : s < 4294967296) (ht : t < 4294967296) (h : s ^^^ (s >>> k) = t ^^^ (t >>> k)) : s = t := by
  have top : ∀ i, 32 ≤ i → s.testBit i = t.testBit i := by
    intro i hi
    have hp : 2 ^ 32 ≤ 2 ^ i := Nat.pow_le_pow_right (by omega) hi
    rw [Nat.testBit_lt_two_pow (by omega), Nat.testBit_lt_two_pow (by omega)]
  have key : ∀ n i, 32 ≤ i + n → s.testBit i = t.testBit i := by
    intro n
    induction n with
    | zero => intro i hi; exact top i (by omega)
    | succ n ih =>
      intro i hi
      have hb := congrArg (·.testBit i) h
      simp only [Nat.testBit_xor, Nat.testBit_shiftRight] at hb
      rw [ih (k + i) (by omega)] at hb
      exact Bool.xor_right_inj.1 (by rw [Bool.xor_comm, hb, Bool.xor_comm])
  exact Nat.eq_of_testBit_eq fun i => key 32 i (by omega)
theorem x32_nat {a b : Nat} (ha : a < 4294967296) (hb : b < 4294967296) : x32 a b = a ^^^ b := by
  unfold x32
  rw [BitVec.toNat_xor, BitVec.toNat_ofNat, BitVec.toNat_ofNat, Nat.mod_eq_of_lt ha, Nat.mod_eq_of_lt hb]
theorem fin_inj {s t : Nat} (hs : s < 4294967296) (ht : t < 4294967296) (h : fin s = fin t) : s = t := by
  unfold fin at h
  simp only at h
  have l1 : x32 s (s / 32768) * 2246822507 % 4294967296 < 4294967296 := Nat.mod_lt _ (by omega)
  have l2 : x32 t (t / 32768) * 2246822507 % 4294967296 < 4294967296 := Nat.mod_lt _ (by omega)
  rw [x32_nat l1 (by omega), x32_nat l2 (by omega)] at h
  have h1 := shift_inj (k := 13) (by omega) l1 l2 (by simpa [Nat.shiftRight_eq_div_pow] using h)
  have h2 := mul_inj (c := 2246822507) (d := 2781581891) (by decide) (x32_lt _ _) (x32_lt _ _) h1
  rw [x32_nat hs (by omega), x32_nat ht (by omega)] at h2
  exact shift_inj (k := 15) (by omega) hs ht (by simpa [Nat.shiftRight_eq_div_pow] using h2)
/-- Lists that differ in one byte have different sums. -/
theorem sum_one {u v : List Nat} {x x' : Nat} (hx : x < 256) (hx' : x' < 256) (h : sumN (u ++ x :: v) = sumN (u ++ x' :: v)) : x = x' := by
  unfold sumN at h
  have h1 := fin_inj (fold_lt _ (by omega)) (fold_lt _ (by omega)) h
  rw [List.foldl_append, List.foldl_append] at h1
  exact stp_inj_x (by omega) (by omega) (fold_inj v (stp_lt _ _) (stp_lt _ _) h1)
theorem be4_inj {s t : Nat} (hs : s < 4294967296) (ht : t < 4294967296) (h : be4 s = be4 t) : s = t := by
  simp only [be4, List.cons.injEq, and_true] at h
  omega
theorem set_split {α : Type} (l : List α) (p : Nat) (y : α) (hp : p < l.length) : l.set p y = l.take p ++ y :: l.drop (p + 1) := by
  rw [List.set_eq_take_append_cons_drop, if_pos hp]
theorem self_split {α : Type} (l : List α) (p : Nat) (x : α) (hp : l[p]? = some x) : l = l.take p ++ x :: l.drop (p + 1) := by
  conv => lhs; rw [← List.take_append_drop p l, drop_cons hp]
theorem kind_split {b : List Nat} (hk : 0 < kindOf b) : b = b.take 124 ++ be4 (sumN (b.take 124)) ∧ b.length = 128 := by
  have hl := kind_len hk
  have hs := kind_seal (k := kindOf b) rfl hk
  refine ⟨?_, hl⟩
  have hbl := bodyOf_len hl
  have hp : padTo 123 (bodyOf b) = bodyOf b := by unfold padTo; rw [hbl]; simp
  have e : b.take 124 = kindOf b :: bodyOf b := by
    conv => lhs; rw [← hs]
    unfold sealOf
    rw [hp, List.take_append_of_le_length (by simp [hbl]), List.take_of_length_le (by simp [hbl])]
  rw [e]
  conv => lhs; rw [← hs]
  unfold sealOf
  rw [hp]
/-- A sealed sector with one byte another one is none. -/
theorem kind_flip {b : List Nat} {p x y : Nat} (hb : Bytes b) (hk : 0 < kindOf b) (hx : b[p]? = some x) (hy : y < 256) (hne : x ≠ y) : kindOf (b.set p y) = 0 := by
  rcases Nat.eq_zero_or_pos (kindOf (b.set p y)) with h0 | h0
  · exact h0
  · exfalso
    obtain ⟨e1, hl⟩ := kind_split hk
    obtain ⟨e2, _⟩ := kind_split h0
    have hp : p < b.length := (List.getElem?_eq_some_iff.1 hx).1
    have hxb := hb.get hx
    by_cases h124 : p < 124
    · have ht : (b.set p y).take 124 = (b.take 124).set p y := by rw [List.take_set]
      rw [ht] at e2
      have d1 : b.drop 124 = be4 (sumN (b.take 124)) := by
        conv => lhs; rw [e1]
        rw [List.drop_append_of_le_length (by simp; omega), List.drop_of_length_le (by simp; omega), List.nil_append]
      have d2 : (b.set p y).drop 124 = be4 (sumN ((b.take 124).set p y)) := by
        conv => lhs; rw [e2]
        rw [List.drop_append_of_le_length (by simp; omega), List.drop_of_length_le (by simp; omega), List.nil_append]
      rw [List.drop_set_of_lt h124, d1] at d2
      have hs := be4_inj (sumN_lt _) (sumN_lt _) d2
      have hx' : (b.take 124)[p]? = some x := by rw [List.getElem?_take, if_pos h124]; exact hx
      rw [set_split _ p y (by simp; omega)] at hs
      conv at hs => lhs; rw [self_split _ p x hx']
      exact hne (sum_one hxb hy hs)
    · have ht : (b.set p y).take 124 = b.take 124 := by
        rw [List.take_set, List.set_eq_of_length_le (by simp; omega)]
      rw [ht, ← e1] at e2
      have : (b.set p y)[p]? = some y := by simp [hp]
      rw [e2, hx] at this
      injection this with this
      exact hne this
def x8 (a b : Nat) : Nat := (BitVec.ofNat 8 a ^^^ BitVec.ofNat 8 b).toNat
theorem x8_lt (a b : Nat) : x8 a b < 256 := (BitVec.ofNat 8 a ^^^ BitVec.ofNat 8 b).isLt
theorem bits_x8 (a b : Nat) : bits .xor .u8 (a : Int) (b : Int) = ((x8 a b : Nat) : Int) := by
  have h := x8_lt a b
  show IntKind.u8.wrap ((BitVec.ofInt 8 (a : Int) ^^^ BitVec.ofInt 8 (b : Int)).toNat : Int) = _
  rw [BitVec.ofInt_natCast, BitVec.ofInt_natCast, IntKind.wrap_u8]
  unfold x8 at *
  omega
theorem x8_ne {a b : Nat} (ha : a < 256) (hb : b < 256) : x8 a b = a ↔ b = 0 := by
  unfold x8
  constructor
  · intro h
    have h1 : BitVec.ofNat 8 a ^^^ BitVec.ofNat 8 b = BitVec.ofNat 8 a := BitVec.eq_of_toNat_eq (by rw [h]; simp; omega)
    have h2 := congrArg (BitVec.ofNat 8 a ^^^ ·) h1
    simp only [← BitVec.xor_assoc, BitVec.xor_self, BitVec.zero_xor] at h2
    have := congrArg BitVec.toNat h2
    simp at this
    omega
  · rintro rfl
    simp
    omega
theorem flip_bit {x p : Nat} (hx : x < 256) : ∃ y, y < 256 ∧ x ≠ y ∧ bits .xor .u8 (x : Int) (2 ^ (p % 8) % 256) = ((y : Nat) : Int) := by
  have hp : p % 8 < 8 := Nat.mod_lt _ (by omega)
  have hpow : 2 ^ (p % 8) < 256 := Nat.lt_of_lt_of_le (Nat.pow_lt_pow_right (by omega) hp) (by omega)
  have hpos : 0 < 2 ^ (p % 8) := Nat.two_pow_pos _
  refine ⟨x8 x (2 ^ (p % 8)), x8_lt _ _, fun h => ?_, ?_⟩
  · have := (x8_ne hx hpow).1 h.symm
    omega
  · have e : ((2 : Int) ^ (p % 8) % 256) = ((2 ^ (p % 8) : Nat) : Int) := by
      have h1 : ((2 : Int) ^ (p % 8)) = ((2 ^ (p % 8) : Nat) : Int) := by rw [Int.natCast_pow]; rfl
      rw [h1]
      omega
    rw [e, bits_x8]
end Go.Proofs.Ytngffmchjjpfbaa
