/- The last statement on sets of small numbers: any order. -/
import Derived.Test.YthbdnaogjmnagaaLaw3
import Derived.Test.YthbdnaogjmnagaaApart
namespace Go.Proofs.Ythbdnaogjmnagaa
set_option linter.unusedVariables false
open Go.RowKit

/-- A bit of any number, as it is asked for. -/
def bitT (x : Int) (k : Nat) : Bool := bits .and .i64 (x / 2 ^ k) 1 == 1
theorem bitT_zero (x : Int) (k : Nat) : (bits .and .i64 (x / 2 ^ k) 1 == 0) = !bitT x k := by
  unfold bitT
  rw [and1_64, Bool.eq_iff_iff, beq_iff_eq, Bool.not_eq_true', beq_eq_false_iff_ne]
  omega
/-- Behind k rounds: the numbers below k (turned) are as they are told, the others as they were. -/
def Done (f g : Nat → Bool) (t k : Nat) (xs : List Nat) : Prop := xs.length = 8 ∧ Bytes xs ∧ ∀ i, i < 64 → hasB xs i = if (i < 60 ∧ (i + 60 - t) % 60 < k) then f i else g i
theorem Done.start (f g : Nat → Bool) (t : Nat) {xs : List Nat} (hl : xs.length = 8) (hb : Bytes xs) (h : ∀ i, i < 64 → hasB xs i = g i) : Done f g t 0 xs :=
  ⟨hl, hb, fun i hi => by rw [if_neg (by omega)]; exact h i hi⟩
theorem Done.with {f g : Nat → Bool} {t k : Nat} {xs : List Nat} (h : Done f g t k xs) (ht : t < 60) (hk : k < 60) : Done f g t (k + 1) (withB xs ((k + t) % 60) (f ((k + t) % 60))) := by
  obtain ⟨h1, h2, h3⟩ := h
  refine ⟨by rw [withB_len]; exact h1, h2.withB _ _, fun i hi => ?_⟩
  rw [hasB_withB h2, h3 i hi]
  by_cases hi2 : i = (k + t) % 60
  · rw [if_pos ⟨hi2, by omega⟩, if_pos (by omega), hi2]
  · rw [if_neg (fun h => hi2 h.1)]
    by_cases hc : i < 60 ∧ (i + 60 - t) % 60 < k
    · rw [if_pos hc, if_pos (by omega)]
    · rw [if_neg hc, if_neg (by omega)]
theorem Done.keep {f g : Nat → Bool} {t k : Nat} {xs : List Nat} (h : Done f g t k xs) (ht : t < 60) (hk : k < 60) (he : f ((k + t) % 60) = g ((k + t) % 60)) : Done f g t (k + 1) xs := by
  obtain ⟨h1, h2, h3⟩ := h
  refine ⟨h1, h2, fun i hi => ?_⟩
  rw [h3 i hi]
  by_cases hi2 : i = (k + t) % 60
  · rw [if_neg (by omega), if_pos (by omega), hi2, he]
  · by_cases hc : i < 60 ∧ (i + 60 - t) % 60 < k
    · rw [if_pos hc, if_pos (by omega)]
    · rw [if_neg hc, if_neg (by omega)]
theorem Done.end {f g : Nat → Bool} {t : Nat} {xs : List Nat} (h : Done f g t 60 xs) : ∀ i, i < 64 → hasB xs i = if i < 60 then f i else g i := by
  intro i hi
  rw [h.2.2 i hi]
  by_cases hc : i < 60
  · rw [if_pos ⟨hc, by omega⟩, if_pos hc]
  · rw [if_neg (fun h => hc h.1), if_neg hc]
def offT (x y : Int) (i : Nat) : Bool := bitT x i && !bitT y i
def onT (x : Int) (i : Nat) : Bool := if i < 60 then bitT x i else false
theorem Done.next {x y : Int} {t : Nat} {xs : List Nat} (u : Nat) (h : Done (bitT x) (fun _ => false) t 60 xs) : Done (offT x y) (onT x) u 0 xs :=
  Done.start _ _ u h.1 h.2.1 (fun i hi => by rw [h.end i hi]; rfl)
theorem off_of {x y : Int} {i : Nat} (h : bitT y i = true) : offT x y i = false := by unfold offT; rw [h]; simp
theorem off_keep {x y : Int} {i : Nat} (hi : i < 60) (h : bitT y i = false) : offT x y i = onT x i := by unfold offT onT; rw [h, if_pos hi]; simp
theorem done_first {x y : Int} {xs : List Nat} (h : Done (offT x y) (onT x) 0 60 xs) {r : Nat} (hr : r ≤ 60) (h1 : ∀ i, i < r → offT x y i = true) (h2 : r < 60 → offT x y r = false) : FirstIs xs 0 61 r := by
  refine .inr ⟨by omega, by omega, by omega, ?_, fun i i1 i2 i3 => ?_⟩
  · rw [hasI_nat, h.end r (by omega)]
    split
    · exact h2 (by assumption)
    · unfold onT; rw [if_neg (by assumption)]
  · obtain ⟨k, rfl⟩ := Int.eq_ofNat_of_zero_le i2
    rw [hasI_nat, h.end k (by omega), if_pos (by omega)]
    exact h1 k (by omega)
theorem done_same {x y : Int} {t : Nat} {xs ys : List Nat} (h : Done (offT x y) (onT x) 0 60 xs) (k : Done (offT x y) (onT x) t 60 ys) : ys = xs := by
  refine hasB_ext k.2.1 h.2.1 (by rw [h.1, k.1]) (fun i hi => ?_)
  have := k.1
  rw [h.end i (by omega), k.end i (by omega)]
theorem done_all {x y : Int} {xs : List Nat} (h : Done (offT x y) (onT x) 0 60 xs) : allB xs 64 = allB xs 60 := by
  rw [allB_filtR, allB_filtR]
  refine filtR_cut (by omega) (fun k h1 h2 => ?_)
  rw [h.end k h2, if_neg (by omega)]
  unfold onT
  rw [if_neg (by omega)]

set_option maxRecDepth 100000 in
set_option maxHeartbeats 4000000 in
theorem law_BitsOrders (w : World) (x : Int) (x1 : -9223372036854775808 ≤ x) (x2 : x ≤ 9223372036854775807) (y : Int) (y1 : -9223372036854775808 ≤ y) (y2 : y ≤ 9223372036854775807) (z : Int) (_z1 : -9223372036854775808 ≤ z) (_z2 : z ≤ 9223372036854775807) :
    Calls Try.prog 8 #[.int .i64 x, .int .i64 y, .int .i64 z] w fun e w' => e = .returned (.bool true) ∧ Ext w w' := by
  clear _z1 _z2
  go_enter Try.func8, Try.ntmps8
  go_wp2_with fail
  refine (Low z _ 60 _ rfl (by omega) (by omega)).mono ?_
  rintro e w1 ⟨rfl, rfl⟩
  have ht := low_lt z (n := 60) (by omega)
  generalize low z 60 = t at *
  have hmk := fun w1 => mk8 .i64 .i64 8 8 8 8 rfl rfl (by omega) (by omega) w1
  go_wp2
  go_region
  all_goals
    have hOa : Own ((w.alloc (.cells (madeCells #[.int .u8 0] 8) 5)).alloc (.cells (madeCells #[.int .u8 0] 8) 5)).drew w.heap.size 5 (some ⟨w.heap.size, 0, none⟩) 8 8 (by8 (List.replicate 8 0)) := by
      rw [← by8_rep]
      exact (Own.mk (Nat.le_refl _) _ _ (by omega) rfl).ext (((Ext.refl _).alloc _).drew)
    have hOb : Own ((w.alloc (.cells (madeCells #[.int .u8 0] 8) 5)).alloc (.cells (madeCells #[.int .u8 0] 8) 5)).drew w.heap.size 5 (some ⟨w.heap.size + 1, 0, none⟩) 8 8 (by8 (List.replicate 8 0)) := by
      rw [← by8_rep]
      have := (Own.mk (w := w.alloc (.cells (madeCells #[.int .u8 0] 8) 5)) (B := w.heap.size) (e := 5) (by simp) (.int .u8 0) 8 (by omega) rfl).ext ((Ext.refl _).drew)
      simpa using this
    have hE0 : Ext w ((w.alloc (.cells (madeCells #[.int .u8 0] 8) 5)).alloc (.cells (madeCells #[.int .u8 0] 8) 5)).drew := (((Ext.refl w).alloc _).alloc _).drew
    generalize ((w.alloc (.cells (madeCells #[.int .u8 0] 8) 5)).alloc (.cells (madeCells #[.int .u8 0] 8) 5)).drew = w0 at *
    clear hmk
    go_wp2
    go_loopw [7, 8, 9] (fun a b i wr => ∃ (q c1 c2 : Nat) (A1 A2 : Option Addr) (xa xb : List Nat), q ≤ 60 ∧ a = .slice A1 8 c1 ∧ b = .slice A2 8 c2 ∧ i = .int .i64 q ∧
      Own wr w.heap.size 5 A1 8 c1 (by8 xa) ∧ Own wr w.heap.size 5 A2 8 c2 (by8 xb) ∧ Hid (Done (bitT x) (fun _ => false) 0 q xa) ∧ Hid (Done (bitT x) (fun _ => false) t q xb) ∧ Ext w wr) (fun _ _ i _ => 60 - (intOf i).toNat)
    case atStart =>
      have st : ∀ t, Done (bitT x) (fun _ => false) t 0 (List.replicate 8 0) := fun t => Done.start _ _ t rfl (Bytes.rep _) (fun i _ => hasB_zero _ _)
      first
      | exact ⟨0, _, _, _, _, _, _, by omega, rfl, rfl, rfl, hOa, hOb, st 0, st t, hE0⟩
      | exact ⟨0, _, _, _, _, _, _, by omega, rfl, rfl, rfl, hOb, hOa, st 0, st t, hE0⟩
    case round =>
      obtain ⟨q, c1, c2, A1, A2, xa, xb, hq, rfl, rfl, rfl, hO1, hO2, hD1, hD2, hE⟩ := hrel
      have hsz := hE.size
      by_cases hlt : q < 60
      · have dA := hD1.out.with (by omega) hlt
        have dB := hD2.out.with ht hlt
        simp only [Nat.add_zero, Nat.mod_eq_of_lt hlt] at dA
        have DA := hide dA
        have DB := hide dB
        clear dA dB
        go_wp2_with fail
        refine (bits_With _ _ _ _ _ _ _ hO1.sl hD1.out.2.1 (by omega) (by omega)).mono ?_
        rintro e w3 ⟨A3, c3, rfl, hO3, hE3⟩
        rw [if_pos (by omega), Int.toNat_natCast] at hO3
        go_wp2_with fail
        refine (bits_With _ _ _ _ _ _ _ (hO2.ext hE3).sl hD2.out.2.1 (by omega) (by omega)).mono ?_
        rintro e w4 ⟨A4, c4, rfl, hO4, hE4⟩
        rw [if_pos (by omega), show ((((q : Int) + (t : Int)) % 60)).toNat = (q + t) % 60 from by omega] at hO4
        go_wp2
        go_roundw
        case rel => exact ⟨q + 1, c3, c4, A3, A4, _, _, by omega, rfl, rfl, by go_num, (hO3.ext hE4).low hsz, hO4.low (by have := hE3.size; omega), DA, DB, hE.trans (hE3.trans hE4)⟩
        case measure => simp [intOf]; omega
      · obtain rfl : q = 60 := by omega
        have D1 := hide (hD1.out.next (y := y) 0)
        have D2 := hide (hD2.out.next (y := y) t)
        clear hD1 hD2 hOa hOb hE0 hlt hq
        go_wp2
        go_loopw [7, 8, 11] (fun a b i wr => ∃ (q c1 c2 : Nat) (A1 A2 : Option Addr) (xa xb : List Nat), q ≤ 60 ∧ a = .slice A1 8 c1 ∧ b = .slice A2 8 c2 ∧ i = .int .i64 q ∧
          Own wr w.heap.size 5 A1 8 c1 (by8 xa) ∧ Own wr w.heap.size 5 A2 8 c2 (by8 xb) ∧ Hid (Done (offT x y) (onT x) 0 q xa) ∧ Hid (Done (offT x y) (onT x) t q xb) ∧ Ext w wr) (fun _ _ i _ => 60 - (intOf i).toNat)
        case atStart => exact ⟨0, _, _, _, _, _, _, by omega, rfl, rfl, rfl, hO1, hO2, D1, D2, hE⟩
        case round =>
          clear D1 D2 hO1 hO2 hE hsz xa xb
          obtain ⟨q, c1, c2, A1, A2, xa, xb, hq, rfl, rfl, rfl, hO1, hO2, hD1, hD2, hE⟩ := hrel
          have hsz := hE.size
          by_cases hlt : q < 60
          · rcases ea : bitT y q with _ | _ <;> rcases eb : bitT y ((q + t) % 60) with _ | _
            · have T1 : (bits .and .i64 (y / 2 ^ q) 1 == 1) = false := ea
              have T2 : (bits .and .i64 (y / 2 ^ ((q + t) % 60)) 1 == 1) = false := eb
              have dA := hD1.out.keep (by omega) (by omega) (off_keep (by omega) (by simpa [Nat.mod_eq_of_lt hlt] using ea))
              have dB := hD2.out.keep (by omega) (by omega) (off_keep (by omega) eb)
              have DA := hide dA
              have DB := hide dB
              clear dA dB ea eb
              go_wp2
              go_roundw
              case rel => first | exact ⟨q + 1, c1, c2, A1, A2, xa, xb, by omega, rfl, rfl, by go_num, hO1, hO2, DA, DB, hE⟩ | ((repeat apply Exists.intro); exact ⟨⟨q + 1, c1, c2, A1, A2, xa, xb, by omega, rfl, rfl, by go_num, hO1, hO2, DA, DB, hE⟩, rfl⟩)
              case measure => simp [intOf]; omega
            · have T1 : (bits .and .i64 (y / 2 ^ q) 1 == 1) = false := ea
              have T2 : (bits .and .i64 (y / 2 ^ ((q + t) % 60)) 1 == 1) = true := eb
              have dA := hD1.out.keep (by omega) (by omega) (off_keep (by omega) (by simpa [Nat.mod_eq_of_lt hlt] using ea))
              have dB := hD2.out.with (by omega) (by omega)
              rw [off_of eb] at dB
              have DA := hide dA
              have DB := hide dB
              clear dA dB ea eb
              go_wp2_with fail
              refine (bits_With _ _ _ _ _ false _ hO2.sl hD2.out.2.1 (by omega) (by omega)).mono ?_
              rintro e w4 ⟨A4, c4, rfl, hO4, hE4⟩
              rw [if_pos (by omega), show ((((q : Int) + (t : Int)) % 60)).toNat = (q + t) % 60 from by omega] at hO4
              go_wp2
              go_roundw
              case rel => first | exact ⟨q + 1, c1, c4, A1, A4, xa, _, by omega, rfl, rfl, by go_num, hO1.ext hE4, hO4.low hsz, DA, DB, hE.trans hE4⟩ | ((repeat apply Exists.intro); exact ⟨⟨q + 1, c1, c4, A1, A4, xa, _, by omega, rfl, rfl, by go_num, hO1.ext hE4, hO4.low hsz, DA, DB, hE.trans hE4⟩, rfl⟩)
              case measure => simp [intOf]; omega
            · have T1 : (bits .and .i64 (y / 2 ^ q) 1 == 1) = true := ea
              have T2 : (bits .and .i64 (y / 2 ^ ((q + t) % 60)) 1 == 1) = false := eb
              have dA := hD1.out.with (by omega) (by omega)
              have dB := hD2.out.keep (by omega) (by omega) (off_keep (by omega) eb)
              simp only [Nat.add_zero, Nat.mod_eq_of_lt hlt] at dA
              rw [off_of ea] at dA
              have DA := hide dA
              have DB := hide dB
              clear dA dB ea eb
              go_wp2_with fail
              refine (bits_With _ _ _ _ _ false _ hO1.sl hD1.out.2.1 (by omega) (by omega)).mono ?_
              rintro e w3 ⟨A3, c3, rfl, hO3, hE3⟩
              rw [if_pos (by omega), Int.toNat_natCast] at hO3
              go_wp2
              go_roundw
              case rel => first | exact ⟨q + 1, c3, c2, A3, A2, _, xb, by omega, rfl, rfl, by go_num, hO3.low hsz, hO2.ext hE3, DA, DB, hE.trans hE3⟩ | ((repeat apply Exists.intro); exact ⟨⟨q + 1, c3, c2, A3, A2, _, xb, by omega, rfl, rfl, by go_num, hO3.low hsz, hO2.ext hE3, DA, DB, hE.trans hE3⟩, rfl⟩)
              case measure => simp [intOf]; omega
            · have T1 : (bits .and .i64 (y / 2 ^ q) 1 == 1) = true := ea
              have T2 : (bits .and .i64 (y / 2 ^ ((q + t) % 60)) 1 == 1) = true := eb
              have dA := hD1.out.with (by omega) (by omega)
              have dB := hD2.out.with (by omega) (by omega)
              simp only [Nat.add_zero, Nat.mod_eq_of_lt hlt] at dA
              rw [off_of ea] at dA
              rw [off_of eb] at dB
              have DA := hide dA
              have DB := hide dB
              clear dA dB ea eb
              go_wp2_with fail
              refine (bits_With _ _ _ _ _ false _ hO1.sl hD1.out.2.1 (by omega) (by omega)).mono ?_
              rintro e w3 ⟨A3, c3, rfl, hO3, hE3⟩
              rw [if_pos (by omega), Int.toNat_natCast] at hO3
              go_wp2_with fail
              refine (bits_With _ _ _ _ _ false _ (hO2.ext hE3).sl hD2.out.2.1 (by omega) (by omega)).mono ?_
              rintro e w4 ⟨A4, c4, rfl, hO4, hE4⟩
              rw [if_pos (by omega), show ((((q : Int) + (t : Int)) % 60)).toNat = (q + t) % 60 from by omega] at hO4
              go_wp2
              go_roundw
              case rel => first | exact ⟨q + 1, c3, c4, A3, A4, _, _, by omega, rfl, rfl, by go_num, (hO3.ext hE4).low hsz, hO4.low (by have := hE3.size; omega), DA, DB, hE.trans (hE3.trans hE4)⟩ | ((repeat apply Exists.intro); exact ⟨⟨q + 1, c3, c4, A3, A4, _, _, by omega, rfl, rfl, by go_num, (hO3.ext hE4).low hsz, hO4.low (by have := hE3.size; omega), DA, DB, hE.trans (hE3.trans hE4)⟩, rfl⟩)
              case measure => simp [intOf]; omega
          · obtain rfl : q = 60 := by omega
            obtain rfl : xb = xa := done_same hD1.out hD2.out
            have HB := hide hD1.out.2.1
            have HD := hD1
            clear hD1 hD2 hlt hq
            go_wp2
            go_loop [13] (fun i => ∃ r : Nat, r ≤ 60 ∧ i = .int .i64 r ∧ Hid (∀ k, k < r → offT x y k = true)) (fun i => 60 - (intOf i).toNat)
            case atStart => exact ⟨0, by omega, rfl, fun k hk => by omega⟩
            case round =>
              obtain ⟨r, hr, rfl, hp⟩ := hrel
              by_cases hlt : r < 60
              · rcases ex : bitT x r with _ | _
                · have T1 : (bits .and .i64 (x / 2 ^ r) 1 == 1) = false := ex
                  have HN : r < 60 → offT x y r = false := fun _ => by unfold offT; rw [ex]; rfl
                  have HN' := hide HN
                  clear ex HN
                  go_wp2_with fail
                  refine (SameBytes _ _ _ _ _ _ xb xb _ hO1.sl hO2.sl HB.out HB.out).mono ?_
                  rintro e w5 ⟨rfl, j5⟩
                  have hE5 := drewExt j5
                  clear j5
                  rw [decide_eq_true rfl]
                  go_wp2_with fail
                  refine (bits_First_is _ _ _ _ _ _ _ (hO1.ext hE5).sl HB.out (by omega) (by omega) (done_first HD.out hr hp.out HN'.out)).mono ?_
                  rintro e w6 ⟨rfl, rfl⟩
                  go_wp2_with fail
                  refine (bits_Count _ _ _ _ 60 _ (hO1.ext hE5).sl HB.out (by omega) (by omega)).mono ?_
                  rintro e w6 ⟨rfl, hE6⟩
                  rw [show (60 : Int).toNat = 60 from rfl]
                  go_wp2_with fail
                  refine (bits_All _ _ _ _ 64 _ (hO1.ext (hE5.trans hE6)).sl HB.out (by omega) (by omega)).mono ?_
                  rintro e w7 ⟨A7, m7, c7, rfl, hO7, hE7⟩
                  have hl7 := hO7.len
                  rw [i64s_len, nI_len, show (64 : Int).toNat = 64 from rfl, done_all HD.out] at hl7
                  subst hl7
                  go_wp2_with fail
                  refine (law3_awake _).mono ?_
                  rintro e w8 ⟨rfl, hE8⟩
                  go_wp2
                  go_ret
                  exact ⟨rfl, hE.trans (hE5.trans (hE6.trans (hE7.trans hE8)))⟩
                · have T1 : (bits .and .i64 (x / 2 ^ r) 1 == 1) = true := ex
                  rcases ey : bitT y r with _ | _
                  · have T2 : (bits .and .i64 (y / 2 ^ r) 1 == 0) = true := by rw [bitT_zero, ey]; rfl
                    have HS : Hid (offT x y r = true) := by unfold Hid offT; rw [ex, ey]; rfl
                    clear ex ey
                    go_wp2
                    go_round
                    case rel => exact ⟨r + 1, by omega, by go_num, fun k hk => by
                      by_cases hkr : k = r
                      · subst hkr; exact HS.out
                      · exact hp.out k (by omega)⟩
                    case measure => simp [intOf]; omega
                  · have T2 : (bits .and .i64 (y / 2 ^ r) 1 == 0) = false := by rw [bitT_zero, ey]; rfl
                    have HN : r < 60 → offT x y r = false := fun _ => off_of ey
                    have HN' := hide HN
                    clear ex ey HN
                    go_wp2_with fail
                    refine (SameBytes _ _ _ _ _ _ xb xb _ hO1.sl hO2.sl HB.out HB.out).mono ?_
                    rintro e w5 ⟨rfl, j5⟩
                    have hE5 := drewExt j5
                    clear j5
                    rw [decide_eq_true rfl]
                    go_wp2_with fail
                    refine (bits_First_is _ _ _ _ _ _ _ (hO1.ext hE5).sl HB.out (by omega) (by omega) (done_first HD.out hr hp.out HN'.out)).mono ?_
                    rintro e w6 ⟨rfl, rfl⟩
                    go_wp2_with fail
                    refine (bits_Count _ _ _ _ 60 _ (hO1.ext hE5).sl HB.out (by omega) (by omega)).mono ?_
                    rintro e w6 ⟨rfl, hE6⟩
                    rw [show (60 : Int).toNat = 60 from rfl]
                    go_wp2_with fail
                    refine (bits_All _ _ _ _ 64 _ (hO1.ext (hE5.trans hE6)).sl HB.out (by omega) (by omega)).mono ?_
                    rintro e w7 ⟨A7, m7, c7, rfl, hO7, hE7⟩
                    have hl7 := hO7.len
                    rw [i64s_len, nI_len, show (64 : Int).toNat = 64 from rfl, done_all HD.out] at hl7
                    subst hl7
                    go_wp2_with fail
                    refine (law3_awake _).mono ?_
                    rintro e w8 ⟨rfl, hE8⟩
                    go_wp2
                    go_ret
                    exact ⟨rfl, hE.trans (hE5.trans (hE6.trans (hE7.trans hE8)))⟩
              · have HN : r < 60 → offT x y r = false := fun h => absurd h hlt
                have HN' := hide HN
                clear HN
                go_wp2_with fail
                refine (SameBytes _ _ _ _ _ _ xb xb _ hO1.sl hO2.sl HB.out HB.out).mono ?_
                rintro e w5 ⟨rfl, j5⟩
                have hE5 := drewExt j5
                clear j5
                rw [decide_eq_true rfl]
                go_wp2_with fail
                refine (bits_First_is _ _ _ _ _ _ _ (hO1.ext hE5).sl HB.out (by omega) (by omega) (done_first HD.out hr hp.out HN'.out)).mono ?_
                rintro e w6 ⟨rfl, rfl⟩
                go_wp2_with fail
                refine (bits_Count _ _ _ _ 60 _ (hO1.ext hE5).sl HB.out (by omega) (by omega)).mono ?_
                rintro e w6 ⟨rfl, hE6⟩
                rw [show (60 : Int).toNat = 60 from rfl]
                go_wp2_with fail
                refine (bits_All _ _ _ _ 64 _ (hO1.ext (hE5.trans hE6)).sl HB.out (by omega) (by omega)).mono ?_
                rintro e w7 ⟨A7, m7, c7, rfl, hO7, hE7⟩
                have hl7 := hO7.len
                rw [i64s_len, nI_len, show (64 : Int).toNat = 64 from rfl, done_all HD.out] at hl7
                subst hl7
                go_wp2_with fail
                refine (law3_awake _).mono ?_
                rintro e w8 ⟨rfl, hE8⟩
                go_wp2
                go_ret
                exact ⟨rfl, hE.trans (hE5.trans (hE6.trans (hE7.trans hE8)))⟩
end Go.Proofs.Ythbdnaogjmnagaa
