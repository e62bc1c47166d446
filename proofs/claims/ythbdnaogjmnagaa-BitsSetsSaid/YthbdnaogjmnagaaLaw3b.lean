/- The other statements on sets of small numbers. -/
import Derived.Test.YthbdnaogjmnagaaLaw3
import Derived.Test.YthbdnaogjmnagaaApart
namespace Go.Proofs.Ythbdnaogjmnagaa
set_option linter.unusedVariables false
open Go.RowKit

def lows (is : List Int) (n : Nat) : List Int := is.map fun x => ((low x n : Nat) : Int)
theorem mem_lows {is : List Int} {n : Nat} {x : Int} (h : x ∈ lows is n) (hn : 0 < n) : 0 ≤ x ∧ x < n := by
  obtain ⟨y, _, rfl⟩ := List.mem_map.1 h
  have := low_lt y hn
  omega

def anyT (ns : List Int) (i : Int) (k : Nat) : Bool := decide (i ∈ ns.take k)
theorem anyT_succ {ns : List Int} {k : Nat} {x : Int} (h : ns[k]? = some x) (i : Int) : anyT ns i (k + 1) = (anyT ns i k || (x == i)) := by
  unfold anyT
  rw [take_succ_of h, Bool.eq_iff_iff, decide_eq_true_iff, Bool.or_eq_true, decide_eq_true_iff, beq_iff_eq, List.mem_append, List.mem_singleton]
  exact ⟨fun h => h.imp id Eq.symm, fun h => h.imp id Eq.symm⟩
theorem filtR_less (g : Nat → Bool) (q N : Nat) : (filtR g N).length ≤ (filtR (fun k => if k = q then false else g k) N).length + (if q < N then 1 else 0) := by
  induction N with
  | zero => simp [filtR_zero]
  | succ N ih =>
    rw [filtR_succ, filtR_succ]
    by_cases hq : N = q
    · subst hq
      simp only [if_true, Bool.false_eq_true, if_false, Nat.lt_irrefl, Nat.lt_succ_self] at *
      split
      · simp only [List.length_append, List.length_cons, List.length_nil]; omega
      · omega
    · simp only [if_neg hq]
      have : (if q < N + 1 then 1 else 0) = (if q < N then 1 else 0) := by
        by_cases h : q < N
        · rw [if_pos h, if_pos (by omega)]
        · rw [if_neg h, if_neg (by omega)]
      rw [this]
      split
      · simp only [List.length_append, List.length_cons, List.length_nil]; omega
      · exact ih
theorem count_less {xs : List Nat} (hb : Bytes xs) (q N : Nat) : (allB xs N).length ≤ (allB (withB xs q false) N).length + 1 := by
  rw [allB_filtR, allB_filtR]
  have e : filtR (hasB (withB xs q false)) N = filtR (fun k => if k = q then false else hasB xs k) N := by
    refine filtR_congr (fun k _ => ?_)
    rw [hasB_withB hb]
    by_cases hk : k = q
    · subst hk
      rw [if_pos rfl]
      split
      · rfl
      · rename_i h
        exact hasB_far (by omega)
    · rw [if_neg (fun h => hk h.1), if_neg hk]
  rw [e]
  have := filtR_less (hasB xs) q N
  split at this <;> omega
theorem with_back {xs : List Nat} (hb : Bytes xs) (q : Nat) : withB (withB xs q false) q (hasB xs q) = xs := by
  apply hasB_ext ((hb.withB _ _).withB _ _) hb (by rw [withB_len, withB_len])
  intro k _
  rw [hasB_withB (hb.withB _ _), hasB_withB hb, withB_len]
  by_cases hk : k = q ∧ q / 8 < xs.length
  · rw [if_pos hk, hk.1]
  · rw [if_neg hk, if_neg hk]
theorem with_off {xs : List Nat} (hb : Bytes xs) (q : Nat) : hasB (withB xs q false) q = false := by
  rw [hasB_withB hb]
  split
  · rfl
  · rename_i h
    exact hasB_far (by omega)

set_option maxRecDepth 100000 in
set_option maxHeartbeats 2000000 in
theorem law_BitsSets (w : World) (A : Option Addr) (n c : Nat) (is : List Int) (h : Sl w A n c (is.map (Value.int .i64))) (_hw : ∀ x ∈ is, (Lit.int .i64 x).wf = true) (z : Int) (_z1 : -9223372036854775808 ≤ z) (_z2 : z ≤ 9223372036854775807) :
    Calls Try.prog 7 #[.slice A n c, .int .i64 z] w fun e w' => e = .returned (.bool true) ∧ Ext w w' := by
  have hS : Sl w A n c (i64s is) := h
  have hl : is.length = n := by have := hS.len; rwa [i64s_len] at this
  have hm : n ≤ 9223372036854775807 := Nat.le_trans h.nc h.cm
  have HL := hide hl
  clear h _hw _z1 _z2 hl
  by_cases l1 : (20 : Int) < n
  · go_enter Try.func7, Try.ntmps7
    go_wp2_with (go_at_call 34; refine (law3_awake _).mono ?_; rintro e w2 ⟨rfl, hE2⟩)
    go_ret
    exact ⟨rfl, hE2⟩
  go_enter Try.func7, Try.ntmps7
  go_wp2
  go_loopw [5, 6] (fun v i wr => ∃ (k c1 : Nat) (A1 : Option Addr), k ≤ n ∧ v = .slice A1 k c1 ∧ i = .int .i64 k ∧ Own wr w.heap.size 3 A1 k c1 (i64s (lows (is.take k) 200)) ∧ Ext w wr) (fun _ i _ => n - (intOf i).toNat)
  case atStart => exact ⟨0, 0, none, by omega, rfl, rfl, Own.nilS _ _ _, Ext.refl _⟩
  case round =>
    obtain ⟨k, c1, A1, hk, rfl, rfl, hO, hE⟩ := hrel
    have hsz := hE.size
    by_cases hlt : k < n
    · obtain ⟨b, o, x, rfl, hx, hc0⟩ := hS.atI hlt
      have hc := hE.cell hc0
      have hi1 : (k : Int) < (n : Int) := by omega
      have hst : lows (is.take (k + 1)) 200 = lows (is.take k) 200 ++ [((low x 200 : Nat) : Int)] := by rw [take_succ_of hx.out]; simp [lows]
      have HS := hide hst
      clear hst hc0
      go_wp2_with fail
      refine (Low x _ 200 _ rfl (by omega) (by omega)).mono ?_
      rintro e w1 ⟨rfl, rfl⟩
      generalize low x 200 = y at *
      go_wp2_with (at_builtin; refine appI rfl (.tmp 22) (.tmp 28) rfl w.heap.size _ k c1 _ rfl (hO.ext ((Ext.refl _).alloc _)) _ 1 1 _ rfl (Sl.lit wr _ 3 1 rfl (by omega) (by simp [Value.oneCell'])) (by omega) (by simp; omega) ?_; intro A2 c2 w2 hO2 hG2)
      go_roundw
      case rel => exact ⟨k + 1, c2, A2, by omega, rfl, by go_num, by rw [HS.out, i64s_append]; exact hO2, (hE.alloc _).grown hG2 (fun q hq => (hO.block q hq).1)⟩
      case measure => simp [intOf]; omega
    · obtain rfl : k = n := by omega
      rw [List.take_of_length_le (by rw [HL.out]; omega)] at hO
      have hns : ∀ i ∈ lows is 200, i ≤ 9223372036854775807 := fun i hi => by have := mem_lows hi (by omega); omega
      have HNS := hide hns
      clear hns
      have bb := Bytes.ofB 200 (lows is 200)
      have lb := ofB_len 200 (lows is 200)
      have hh := hasB_ofB 200 (lows is 200)
      have hok : ∀ i ∈ lows is 200, 0 ≤ i ∧ i < 200 := fun i hi => by have := mem_lows hi (by omega); omega
      have hany : ∀ i : Nat, i < 200 → hasB (ofB 200 (lows is 200)) i = anyT (lows is 200) i k := by
        intro i hi
        rw [hh]
        unfold anyT
        rw [List.take_of_length_le (by simp [lows, HL.out])]
        simp [hi]
      have cOf := bits_Of 200 200 rfl _ _ _ _ _ hO.sl HNS.out (by omega)
      simp only [show (200 + 7) / 8 = 25 from rfl] at cOf lb
      have hlen := hO.len
      rw [i64s_len] at hlen
      generalize ofB 200 (lows is 200) = bs at *
      generalize lows is 200 = ns at *
      have HANY := hide hany
      have LB := hide lb
      have LN := hide hlen
      clear hh hok HNS hany lb hlen HL
      go_wp2_with fail
      refine cOf.mono ?_
      clear cOf
      rintro e w2 ⟨A2, c2, rfl, hO2, hE2⟩
      have hN2 := hO.ext hE2
      have hEE := hE.trans hE2
      have hm20 : k ≤ 20 := by omega
      clear hE hE2 hO hS hk hlt l1
      go_wp2
      go_loop [8] (fun i => ∃ a : Nat, a ≤ 200 ∧ i = .int .i64 a) (fun i => 200 - (intOf i).toNat)
      case atStart => exact ⟨0, by omega, rfl⟩
      case round =>
        obtain ⟨a, ha, rfl⟩ := hrel
        by_cases hlt : a < 200
        · go_wp2
          go_loop [9, 10] (fun v j => ∃ q : Nat, q ≤ k ∧ j = .int .i64 q ∧ v = .bool (anyT ns a q)) (fun _ j => k - (intOf j).toNat)
          case atStart => exact ⟨0, by omega, rfl, rfl⟩
          case round =>
            obtain ⟨q, hq, rfl, rfl⟩ := hrel
            by_cases hlt2 : q < k
            · obtain ⟨b, o, x, rfl, hx, hc⟩ := hN2.sl.atI hlt2
              have hs := anyT_succ hx.out a
              have hi1 : (q : Int) < (k : Int) := by omega
              have HS := hide hs
              clear hs
              rcases e1 : anyT ns (a : Int) q with _ | _
              · rw [e1, Bool.false_or] at HS
                go_wp2
                go_round
                case rel => exact ⟨q + 1, by omega, by go_num, by rw [HS.out]⟩
                case measure => simp [intOf]; omega
              · rw [e1, Bool.true_or] at HS
                go_wp2
                go_round
                case rel => exact ⟨q + 1, by omega, by go_num, by rw [HS.out]⟩
                case measure => simp [intOf]; omega
            · obtain rfl : q = k := by omega
              have he := HANY.out a hlt
              have HE := hide he
              clear he
              go_wp2_with fail
              refine (bits_Has _ _ _ _ _ _ hO2.sl bb (by omega)).mono ?_
              rintro e w3 ⟨rfl, rfl⟩
              rw [hasI_nat, HE.out]
              generalize anyT ns (a : Int) q = v at *
              go_wp2
              go_round
              case rel => exact ⟨a + 1, by omega, by go_num⟩
              case measure => simp [intOf]; omega
        · have HLS := hide (count_less bb)
          have HWB := hide (with_back bb)
          have HWO := hide (with_off bb)
          clear HANY LN
          go_wp2_with fail
          refine (Low z _ 200 _ rfl (by omega) (by omega)).mono ?_
          rintro e w3 ⟨rfl, rfl⟩
          have hq := low_lt z (n := 200) (by omega)
          generalize low z 200 = q at *
          have T1 := hide (HLS.out q 200)
          have T2 := hide (HWB.out q)
          have T3 := hide (HWO.out q)
          clear HLS HWB HWO
          go_wp2_with fail
          refine (bits_With _ _ _ _ _ _ _ hO2.sl bb (by omega) (by omega)).mono ?_
          rintro e w3 ⟨A3, c3, rfl, hO3, hE3⟩
          rw [if_pos (by omega), Int.toNat_natCast] at hO3
          have bc := bb.withB q false
          generalize withB bs q false = cs at *
          go_wp2_with fail
          refine (bits_Has _ _ _ _ _ _ hO3.sl bc (by omega)).mono ?_
          rintro e w4 ⟨rfl, rfl⟩
          rw [hasI_nat, T3.out]
          go_wp2_with fail
          refine (bits_Count _ _ _ _ 200 _ hO3.sl bc (by omega) (by omega)).mono ?_
          rintro e w4 ⟨rfl, hE4⟩
          rw [show (200 : Int).toNat = 200 from rfl]
          have hbd := allB_len cs 200
          generalize (allB cs 200).length = x1 at *
          go_wp2_with fail
          refine (bits_Count _ _ _ _ 200 _ (hO2.ext (hE3.trans hE4)).sl bb (by omega) (by omega)).mono ?_
          rintro e w5 ⟨rfl, hE5⟩
          rw [show (200 : Int).toNat = 200 from rfl]
          have t1 : decide ((((allB bs 200).length : Nat) : Int) ≤ (x1 : Int) + 1) = true := by have := T1.out; simp; omega
          go_wp2_with fail
          refine (bits_All _ _ _ _ 200 _ (hO2.ext (hE3.trans (hE4.trans hE5))).sl bb (by omega) (by omega)).mono ?_
          rintro e w6 ⟨A6, m6, c6, rfl, hO6, hE6⟩
          have hl6 := hO6.len
          rw [i64s_len, nI_len, show (200 : Int).toNat = 200 from rfl] at hl6
          subst hl6
          go_wp2_with fail
          refine (bits_Count _ _ _ _ 200 _ (hO2.ext (hE3.trans (hE4.trans (hE5.trans hE6)))).sl bb (by omega) (by omega)).mono ?_
          rintro e w7 ⟨rfl, hE7⟩
          rw [show (200 : Int).toNat = 200 from rfl]
          clear t1 hbd T1
          have hF7 := hE3.trans (hE4.trans (hE5.trans (hE6.trans hE7)))
          go_wp2_with fail
          refine (bits_Has _ _ _ _ _ _ (hO2.ext hF7).sl bb (by omega)).mono ?_
          rintro e w8 ⟨rfl, rfl⟩
          rw [hasI_nat]
          generalize hasB bs q = v at *
          go_wp2_with fail
          refine (bits_With _ _ _ _ _ _ _ (hO3.ext (hE4.trans (hE5.trans (hE6.trans hE7)))).sl bc (by omega) (by omega)).mono ?_
          rintro e w8 ⟨A8, c8, rfl, hO8, hE8⟩
          rw [if_pos (by omega), Int.toNat_natCast, T2.out] at hO8
          go_wp2_with fail
          refine (SameBytes _ _ _ _ _ _ bs bs _ hO8.sl (hO2.ext (hF7.trans hE8)).sl bb bb).mono ?_
          rintro e w9 ⟨rfl, j9⟩
          have hE9 := drewExt j9
          clear j9
          rw [decide_eq_true rfl]
          go_wp2_with fail
          refine (law3_awake _).mono ?_
          rintro e w10 ⟨rfl, hE10⟩
          go_wp2
          go_ret
          exact ⟨rfl, hEE.trans (hF7.trans (hE8.trans (hE9.trans hE10)))⟩
end Go.Proofs.Ythbdnaogjmnagaa
