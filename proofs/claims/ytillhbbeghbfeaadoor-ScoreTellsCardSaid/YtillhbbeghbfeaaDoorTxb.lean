/- The statement ScoreTexts: the walk. -/
import Derived.Test.YtillhbbeghbfeaaDoorTxa
import Derived.Deep.DeepCutAuto
namespace Go.Proofs.YtillhbbeghbfeaaDoor
set_option linter.unusedVariables false
set_option linter.unusedSimpArgs false
open Go.RowKit
open Ieee

theorem xor_63 {x : Nat} (h : x < 9223372036854775808) : x ^^^ 9223372036854775808 = 9223372036854775808 + x := by
  have e : (9223372036854775808 : Nat) = 2 ^ 63 := by decide
  rw [e] at h ⊢
  apply Nat.eq_of_testBit_eq
  intro j
  rw [Nat.testBit_xor]
  rcases Nat.lt_trichotomy j 63 with hj | hj | hj
  · rw [Nat.testBit_two_pow_of_ne (by omega), Nat.testBit_two_pow_add_gt hj]
    simp
  · subst hj
    rw [Nat.testBit_two_pow_self, Nat.testBit_two_pow_add_eq]
    simp
  · rw [Nat.testBit_two_pow_of_ne (by omega)]
    have h1 : x.testBit j = false := Nat.testBit_lt_two_pow (Nat.lt_of_lt_of_le h (Nat.pow_le_pow_right (by omega) (by omega)))
    have h2 : (2 ^ 63 + x).testBit j = false := by
      refine Nat.testBit_lt_two_pow (Nat.lt_of_lt_of_le (m := 2 ^ 64) ?_ (Nat.pow_le_pow_right (by omega) (by omega)))
      have : (2 : Nat) ^ 64 = 2 ^ 63 + 2 ^ 63 := by decide
      omega
    rw [h1, h2]
    simp
theorem or_63 {x : Nat} (h : x < 9223372036854775808) : bits BinOp.or IntKind.u64 (x : Int) 9223372036854775808 = ((9223372036854775808 + x : Nat) : Int) := by
  unfold bits
  show IntKind.u64.wrap (((BitVec.ofInt 64 (x : Int)) ||| (BitVec.ofInt 64 9223372036854775808)).toNat : Int) = _
  have ha : (BitVec.ofInt 64 (x : Int)).toNat = x := by
    rw [BitVec.toNat_ofInt]
    omega
  have hc : (BitVec.ofInt 64 9223372036854775808).toNat = 9223372036854775808 := by decide
  rw [BitVec.toNat_or, ha, hc]
  have e : (9223372036854775808 : Nat) = 2 ^ 63 := by decide
  have ho : x ||| 9223372036854775808 = 9223372036854775808 + x := by
    rw [Nat.or_comm, e]
    have := Nat.two_pow_add_eq_or_of_lt (i := 63) (b := x) (by rw [← e]; exact h) 1
    rw [Nat.mul_one] at this
    exact this.symm
  rw [ho]
  simp [IntKind.wrap, IntKind.bits, IntKind.signed]
  omega
theorem run_negF {x : Nat} (h : x < 9223372036854775808) (w : World) : (Op.unary UnOp.neg (Value.float .f64 x)).run Tryd.prog w = Result.ok (Value.float .f64 (9223372036854775808 + x)) w := by
  rw [← xor_63 h]
  rfl
theorem f_CopysignM (n : Nat) (hn : n < 9007199254740992) (w : World) : Calls Tryd.prog 19 #[.float .f64 (wF n), .float .f64 13830554455654793216] w fun e w' => e = .returned (.float .f64 (9223372036854775808 + wF n)) ∧ w = w' := by
  have hlt := wF_lt hn
  have hi := fInf_eq
  have h := run_bits (wF n)
  have h1 := run_bits 13830554455654793216
  have b1 := andNot_63 (wF n) (by omega)
  rw [rung_small (Nat.le_of_lt hlt)] at b1
  have b2 : bits BinOp.and IntKind.u64 13830554455654793216 9223372036854775808 = 9223372036854775808 := by decide +kernel
  have b3 := or_63 (x := wF n) (by omega)
  have h4 := run_from ((9223372036854775808 + wF n : Nat) : Int)
  rw [Int.toNat_natCast] at h4
  generalize (9223372036854775808 + wF n : Nat) = z at *
  clear hlt hi
  go_enter Tryd.func19, Tryd.ntmps19
  go_wp2_with fail
  go_ret
  exact ⟨rfl, rfl⟩
theorem txt_0 : txtF 0 = ⟨#[43, 48]⟩ := by
  have h0 : (0 : Nat) < fInf := by decide
  have hi : intF 0 = 0 := by
    unfold intF
    have : vF 0 = 0 := by decide
    rw [this, Nat.zero_div]
  have hd : Lib.itoa ((0 : Nat) : Int) = [48] := by
    show (if ((0 : Nat) : Int) < 0 then _ else Lib.decDigits _) = _
    rw [if_neg (by omega), Lib.decDigits, dif_pos (by decide)]
    rfl
  rw [txt_pos h0 hi (by omega), hd]
  rfl
theorem txt_inf : txtF 9218868437227405312 = ⟨#[43, 105, 110, 102]⟩ := by
  have h1 : nanF 9218868437227405312 = false := by decide
  have h2 : rungF 9218868437227405312 = fInf := by decide
  have h3 : negF 9218868437227405312 = false := by decide
  unfold txtF
  rw [h1, if_neg (by decide), if_pos h2, h3]
  rfl
set_option maxRecDepth 100000 in
set_option maxHeartbeats 4000000 in
theorem law_ScoreTexts (w : World) (htab : TabW w) (a : Int) (a1 : -9223372036854775808 ≤ a) (a2 : a ≤ 9223372036854775807) (b : Int) (b1 : -9223372036854775808 ≤ b) (b2 : b ≤ 9223372036854775807) :
    Calls Tryd.prog 4 #[.int .i64 a, .int .i64 b] w fun e w' => e = .returned (.bool true) ∧ Ext w w' := by
  have L1 := fun w => Low a 1000000 1000000 w rfl (by omega) (by omega)
  have L2 := fun w => Low b 1000 1000 w rfl (by omega) (by omega)
  have hf := low_lt a (n := 1000000) (by omega)
  have hg := low_lt b (n := 1000) (by omega)
  generalize low a 1000000 = n at *
  generalize low b 1000 = part at *
  obtain ⟨y, x, hd, hadd, hx, hix⟩ := part_is (n := n) (part := part) hf (by omega)
  have cn := floatOf_nat n
  have cp := floatOf_nat part
  have R1 := run_div (x := wF part) (y := 4652007308841189376) (r := y) (by rw [← wF_1000]; exact hd) 24
  have R2 : ∀ w : World, (binOp BinOp.add 24 (.float .f64 (wF n)) (.float .f64 y)).run Tryd.prog w = .ok (.float .f64 x) w := fun w => run_float_arith w .add 24 .f64 _ _ _ hadd
  have HX := hide (And.intro hx (And.intro hix hf))
  have hpn := hide (wF_lt (n := n) (by omega))
  have hpi := hide (intF_wF (n := n) (by omega))
  have HT := hide htab
  clear hf hg hd hadd hx hix htab a1 a2 b1 b2
  go_enter Tryd.func4, Tryd.ntmps4
  go_upto_region 3 with (first
    | (go_at_call 11; with_reducible refine (L1 _).mono ?_; rintro e w4 ⟨rfl, rfl⟩)
    | (go_at_call 11; with_reducible refine (L2 _).mono ?_; rintro e w4 ⟨rfl, rfl⟩))
  go_upto_if 18 with fail
  go_cut [5] from 18 to 20 (fun s wx => ∃ z : Nat, s = .float .f64 z ∧ z < fInf ∧ intF z = n ∧ wx = w)
  case first =>
    by_cases hp : part = 999
    · have e1 : ((part : Int) == 999) = true := by simp; omega
      clear hp
      go_wp2_with fail
      go_meet
      case rel => exact ⟨_, rfl, hpn.out, hpi.out, rfl⟩
    · have e1 : ((part : Int) == 999) = false := by simp; omega
      clear hp
      go_wp2_with fail
      go_meet
      case rel => exact ⟨_, rfl, HX.out.1, HX.out.2.1, rfl⟩
  case rest =>
  obtain ⟨z, rfl, hz, hzi, hww⟩ := hcut
  subst hww
  have hi := fInf_eq
  obtain ⟨T, hT⟩ : ∃ T : ByteArray, T = ⟨(Lib.itoa (n : Int)).toArray⟩ := ⟨_, rfl⟩
  have hn53 : n < 9007199254740992 := by have := HX.out.2.2; omega
  have hsz := itoa_size hn53
  have hT2 : T.size ≤ 16 := by rw [hT]; simpa [ByteArray.size] using hsz
  have HI0 : Calls Tryd.prog 18 #[.int .i64 n] wc fun e w' => e = .returned (.string ⟨(Lib.itoa (n : Int)).toArray⟩) ∧ Ext wc w' := by
    refine (Tryd.strconv_Itoa (n : Int) (by omega) (by omega) wc HT.out).mono ?_
    rintro e w' ⟨h1, q1, q2, h2⟩
    exact ⟨h1, by rw [h2]; exact ext_grow _ _ _⟩
  have HI := hide HI0
  clear HI0
  rw [← hT] at HI
  have tp := fun w ht => f_TextW z (by omega) w ht
  rw [txt_pos hz hzi hn53, ← hT] at tp
  have tn := fun w ht => f_TextW (9223372036854775808 + z) (by omega) w ht
  rw [txt_neg hz hzi hn53, ← hT] at tn
  have hwl := hpn.out
  have tc := fun w ht => f_TextW (9223372036854775808 + wF n) (by omega) w ht
  rw [txt_neg hpn.out hpi.out hn53, ← hT] at tc
  have t0 := fun w ht => f_TextW 0 (by omega) w ht
  rw [txt_0] at t0
  have ti := fun w ht => f_TextW 9218868437227405312 (by omega) w ht
  rw [txt_inf] at ti
  have NZ := run_negF (x := z) (by omega)
  have MZ : ∀ w : World, (binOp BinOp.mul 24 (.float .f64 z) (.float .f64 0)).run Tryd.prog w = .ok (.float .f64 0) w := fun w => run_float_arith w .mul 24 .f64 _ _ _ (mul_zero_pos hz)
  have DZ := run_div (x := 4607182418800017408) (y := 0) (r := 9218868437227405312) (by decide +kernel) 24
  have CM := f_CopysignM n hn53
  have HH := hide (And.intro tp (And.intro tn (And.intro tc (And.intro t0 (And.intro ti CM)))))
  have z1 : (⟨#[43]⟩ : ByteArray).size = 1 := rfl
  have z2 : (⟨#[45]⟩ : ByteArray).size = 1 := rfl
  have hap1 : ¬ 9223372036854775807 < (⟨#[43]⟩ : ByteArray).size + T.size := by omega
  have hap2 : ¬ 9223372036854775807 < (⟨#[45]⟩ : ByteArray).size + T.size := by omega
  have hap3 : ¬ 9223372036854775807 < 1 + T.size := by omega
  clear tp tn tc t0 ti CM hi hT hn53 hsz hwl hz hzi R1 R2 L1 L2 HX cp
  generalize (9223372036854775808 + z : Nat) = z' at *
  generalize (9223372036854775808 + wF n : Nat) = zc at *
  go_wp2_with (go_at_call 18; refine (HI.out).mono ?_; rintro e w5 ⟨rfl, hE5⟩)
  refine (HH.out.1 _ (HT.out.ext hE5)).mono ?_
  rintro e w6 ⟨rfl, hE6⟩
  have hE6' := hE5.trans hE6
  go_wp2_with fail
  refine (HH.out.2.1 _ (HT.out.ext hE6')).mono ?_
  rintro e w7 ⟨rfl, hE7⟩
  have hE7' := hE6'.trans hE7
  go_wp2_with (go_at_call 19; refine (HH.out.2.2.2.2.2 _).mono ?_; rintro e w9 ⟨rfl, rfl⟩)
  refine (HH.out.2.2.1 _ (HT.out.ext hE7')).mono ?_
  rintro e w8 ⟨rfl, hE8⟩
  have hE8' := hE7'.trans hE8
  go_wp2_with fail
  refine (HH.out.2.2.2.1 _ (HT.out.ext hE8')).mono ?_
  rintro e w9 ⟨rfl, hE9⟩
  have hE9' := hE8'.trans hE9
  go_wp2_with fail
  refine (HH.out.2.2.2.2.1 _ (HT.out.ext hE9')).mono ?_
  rintro e w10 ⟨rfl, hE10⟩
  have hE10' := hE9'.trans hE10
  go_wp2_with (go_at_call 17; refine (law1_awake _).mono ?_; rintro e w11 ⟨rfl, hE11⟩)
  go_ret
  exact ⟨rfl, hE10'.trans hE11⟩
end Go.Proofs.YtillhbbeghbfeaaDoor
