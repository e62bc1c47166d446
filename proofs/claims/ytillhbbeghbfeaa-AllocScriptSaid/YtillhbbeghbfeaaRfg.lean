/- The document's space: the best group. (Written by gen_rfg.py.) -/
import Derived.Test.YtillhbbeghbfeaaRfa
namespace Go.Proofs.Ytillhbbeghbfeaa
set_option linter.unusedVariables false
open Go.RowKit

def IsI (G N : Nat) (bi : List Bool) (t : List (List Nat)) : Prop := ∀ k i, k < G → i < N → bi[posI N k i]? = some (hasB (t.getD k []) i)
def IsB (G N M : Nat) (bb : List Bool) (t : List (List Nat)) : Prop := ∀ k i, k < G → i < M → bb[posB N M k i]? = some (hasB (t.getD k []) i)
theorem nan_cutG (t : Nat) : nanF (t % 2 * 2 ^ 63 + 0x7ff0000000000000 + 1 + t / 2 % (2 ^ 52 - 1)) = true ∧ t % 2 * 2 ^ 63 + 0x7ff0000000000000 + 1 + t / 2 % (2 ^ 52 - 1) < 18446744073709551616 := by
  have e52 : 2 ^ 52 - 1 = 4503599627370495 := by decide
  have e63 : 2 ^ 63 = 9223372036854775808 := by decide
  have h := Nat.mod_lt (t / 2) (show 0 < 2 ^ 52 - 1 by decide)
  generalize t / 2 % (2 ^ 52 - 1) = r at *
  rw [e52] at h
  rw [e63]
  unfold nanF rungF fInf fB
  simp only [decide_eq_true_eq]
  rcases Nat.mod_two_eq_zero_or_one t with h2 | h2 <;> rw [h2] <;> omega
theorem run_mulN (t : TypeId) (w : World) : ∃ q, (binOp BinOp.mul t (.float .f64 9221120237041090561) (.float .f64 4611686018427387904)).run Try.prog w = .ok (.float .f64 q) w.drew ∧ nanF q = true ∧ q < 18446744073709551616 := by
  have h1 : FloatKind.f64.format.mul 9221120237041090561 4611686018427387904 = none := by decide +kernel
  refine ⟨_, ?_, (nan_cutG (w.tape w.drawn (Question.nanBits .f64 9221120237041090561 4611686018427387904))).1, (nan_cutG (w.tape w.drawn (Question.nanBits .f64 9221120237041090561 4611686018427387904))).2⟩
  simp [binOp, Op.floatArith, h1, Question.forced, Question.cut]
theorem ref1_ShareN (f t : Nat) (h0 : 0 < t) (h1 : t ≤ 96) (h2 : f ≤ t) (w : World) : Calls Try.prog 48 #[.int .i64 (f : Int), .int .i64 (t : Int)] w fun e w' => e = .returned (.float .f64 (shF f t)) ∧ w = w' := by
  have hq := run_float_arith (P := Try.prog) w .quo 71 .f64 (wF f) (wF t) _ (sh_facts h0 h1 h2).1
  have w1 := wF_of f
  have w2 := wF_of t
  clear h0 h1 h2
  go_enter Try.func48, Try.ntmps48
  go_wp2_with fail
  go_ret
  exact ⟨rfl, rfl⟩
theorem sh_zero {f t : Nat} (h0 : 0 < t) (h1 : t ≤ 96) (h2 : f ≤ t) : (FloatKind.f64.format.order (shF f t) 0 == some Ordering.eq) = decide (f = 0) := by
  obtain ⟨a1, a2, a3, a4, a5, a6⟩ := sh_facts h0 h1 h2
  rw [eq0 (low_num a3), decide_eq_decide, svF_zero]
  have hr : rungF (shF f t) = shF f t := by unfold rungF; omega
  rw [hr]
  constructor
  · intro h
    by_cases hf : f = 0
    · exact hf
    · have := (a6 (by omega)).1; omega
  · exact a5
/-- Words that stand where the scores stand. -/
def Like (near : Int) (each : Nat) (t : List (List Nat)) (ys : List Nat) : Prop := ∀ i, i < ys.length → KF (ys.getD i 0) = KF (scOf near each t i)
theorem Like.snoc {near : Int} {each : Nat} {t : List (List Nat)} {ys : List Nat} {y : Nat} (h : Like near each t ys) (hy : KF y = KF (scOf near each t ys.length)) : Like near each t (ys ++ [y]) := by
  intro i hi
  rw [List.length_append, List.length_singleton] at hi
  by_cases hl : i < ys.length
  · rw [List.getD_eq_getElem?_getD, List.getElem?_append_left hl, ← List.getD_eq_getElem?_getD]
    exact h i hl
  · have e : i = ys.length := by omega
    subst e
    rw [List.getD_eq_getElem?_getD, List.getElem?_append_right (Nat.le_refl _), Nat.sub_self]
    exact hy
theorem Like.best {near : Int} {each G : Nat} {t : List (List Nat)} {ys : List Nat} (h : Like near each t ys) (hl : ys.length = G) : bestF ys = bestF (scL near each t G) := by
  refine bestF_congr (by rw [hl, scL_len]) (fun i hi => ?_)
  rw [h i hi, scL_get _ _ _ (by omega)]
theorem KF_nans {x y : Nat} (hx : nanF x = true) (hy : nanF y = true) : KF x = KF y := by rw [KF_nan.1 hx, KF_nan.1 hy]
section
variable {w w' : World} {B g : Nat} {q : Ql} {G N M : Nat} {bi bb bx bz : List Bool}
set_option maxRecDepth 100000 in
set_option maxHeartbeats 4000000 in
theorem ref_Group_ino (h : RefAt w B g q G N M bi bb bx bz) (near : Int) {t : List (List Nat)} (hx : IsI G N bi t) :
    Calls Try.prog 17 #[.pointer (some ⟨g, 0, none⟩), .int .i64 near, .bool true] w fun e w' => e = .returned (.int .i64 (bestF (scL near N t G))) ∧ Ext w w' := by
  have hm := mayG_nat h.may
  obtain ⟨c0, c1, c2, _, _, _, _⟩ := h.cells
  have HF := hide (fun w' (hE : Ext w w') k (hk : k < G) => ref_free_ino (h.ext hE) hk (xs := t.getD k []) (fun i hi => hx k i hk hi))
  have E1 : 0 < N := by omega
  have E2 : N ≤ 96 := by omega
  clear h hx
  go_enter Try.func17, Try.ntmps17
  go_wp2_with fail
  go_loopw [8, 9] (fun v i wr => ∃ (k : Nat) (A1 : Option Addr) (d1 : Nat) (ys : List Nat), k ≤ G ∧ i = .int .i64 k ∧ v = .slice A1 k d1 ∧ Own wr w.heap.size 71 A1 k d1 (fl ys) ∧ Words ys ∧ Hid (Like near N t ys) ∧ Ext w wr) (fun _ i _ => G - (intOf i).toNat)
  case atStart => exact ⟨0, none, 0, [], by omega, rfl, rfl, Own.nilS _ _ _, Words.nil, (fun i hi => by cases hi), Ext.refl _⟩
  case round =>
    obtain ⟨k, A1, d1, ys, hk, rfl, rfl, hO, hW, hLk, hE⟩ := hrel
    have hsz := hE.size
    have hyl := hO.len
    rw [fl_len] at hyl
    have d0' := hE.cell c0
    by_cases hlt : k < G
    · have hq := freeN_le N (t.getD k [])
      obtain ⟨f, hf⟩ : ∃ f, freeN N (t.getD k []) = f := ⟨_, rfl⟩
      have hfr := HF.out wr hE k hlt
      rw [hf] at hfr hq
      have hfr2 : Calls Try.prog 47 #[.pointer (some ⟨g, 0, none⟩), .int .i64 (k : Int), .bool true] wr fun e w' => ∃ A c, e = .returned (.slice A f c) ∧ Ext wr w' := hfr.mono (by rintro e w' ⟨A, n, c, h1, h2, h3, h4⟩; subst h2; exact ⟨A, c, h1, h4⟩)
      have HFR := hide hfr2
      have hso : KF (scOf near N t ys.length) = KF (scF (decide ((k : Int) = near)) f N) := by rw [hyl]; unfold scOf; rw [hf]
      have HSO := hide hso
      have hbd := fun b => scF_lt b (f := f) (t := N) E1 E2 hq
      have HBD := hide hbd
      have HSH := hide (fun w => ref1_ShareN f N E1 E2 hq w)
      have hz := sh_zero E1 E2 hq
      have hml := sh_facts E1 E2 hq
      have HMF := hide (fun w4 => run_float_arith (P := Try.prog) w4 .mul 71 .f64 (shF f N) 4611686018427387904 _ hml.2.1)
      clear hfr hfr2 hso hbd hf hml
      by_cases hf0 : f = 0
      · rw [decide_eq_true hf0] at hz
        by_cases hn : (k : Int) = near
        · subst hn
          have HY : scF true f N = 9221120237041090561 := by unfold scF; rw [if_pos hf0]
          have HYH := hide HY
          clear HY hf0
          go_wp2_with (first
            | (go_at_call 47; with_reducible refine HFR.out.mono ?_; rintro e w4 ⟨A4, c4, rfl, hE4⟩; obtain ⟨qq, hqq, hqn, hql⟩ := run_mulN 71 w4; have hX4 := hE.trans hE4; have hs4 := hX4.size; have hO5 := (hO.ext hE4).ext (((Ext.refl w4).drew).alloc (.cells #[.float .f64 qq] 71)))
            | (go_at_call 48; with_reducible refine (HSH.out _).mono ?_; rintro e w' ⟨rfl, rfl⟩)
            | (go_at_call 38; with_reducible refine (f_NaN _).mono ?_; rintro e w' ⟨rfl, rfl⟩)
            | (at_builtin; refine appF rfl (.tmp 46) (.tmp 48) rfl w.heap.size _ k d1 _ rfl hO5 _ 1 1 _ rfl (Sl.lit2 w4.drew #[.float .f64 qq] 71 1 rfl (by omega) (by simp [Value.oneCell']) _ (by first | rfl | simp)) (by omega) (by simp; omega) ?_; intro A6 c6 w6 hO6 hG6))
          go_roundw
          case rel => exact ⟨k + 1, A6, c6, ys ++ [qq], by omega, by go_num, rfl, by rw [fl_append]; exact hO6, hW.append (Words.one hql), hLk.out.snoc (by rw [HSO.out]; simp only [decide_true]; rw [HYH.out]; exact KF_nans hqn (by decide +kernel)), ((hX4.drew).alloc _).grown hG6 (fun q hq => (hO.block q hq).1)⟩
          case measure => simp [intOf]; omega
        · have HY : scF (decide ((k : Int) = near)) f N = 9221120237041090561 := by unfold scF; rw [if_pos hf0]
          have HYH := hide HY
          clear HY hf0
          go_wp2_with (first
            | (go_at_call 47; with_reducible refine HFR.out.mono ?_; rintro e w4 ⟨A4, c4, rfl, hE4⟩; have hX4 := hE.trans hE4; have hs4 := hX4.size; have hO5 := (hO.ext hE4).ext ((Ext.refl w4).alloc (.cells #[.float .f64 9221120237041090561] 71)))
            | (go_at_call 48; with_reducible refine (HSH.out _).mono ?_; rintro e w' ⟨rfl, rfl⟩)
            | (go_at_call 38; with_reducible refine (f_NaN _).mono ?_; rintro e w' ⟨rfl, rfl⟩)
            | (at_builtin; refine appF rfl (.tmp 46) (.tmp 48) rfl w.heap.size _ k d1 _ rfl hO5 _ 1 1 _ rfl (Sl.lit2 w4 #[.float .f64 9221120237041090561] 71 1 rfl (by omega) (by simp [Value.oneCell']) _ (by first | rfl | simp)) (by omega) (by simp; omega) ?_; intro A6 c6 w6 hO6 hG6))
          go_roundw
          case rel => exact ⟨k + 1, A6, c6, ys ++ [9221120237041090561], by omega, by go_num, rfl, by rw [fl_append]; exact hO6, hW.append (Words.one (by decide)), hLk.out.snoc (by rw [HSO.out, HYH.out]), (hX4.alloc _).grown hG6 (fun q hq => (hO.block q hq).1)⟩
          case measure => simp [intOf]; omega
      · rw [decide_eq_false hf0] at hz
        by_cases hn : (k : Int) = near
        · subst hn
          have HY : scF true f N = dbF (shF f N) := by unfold scF; rw [if_neg hf0, if_pos rfl]
          have hyb := HBD.out true
          rw [HY] at hyb
          have HYH := hide HY
          clear HY hf0
          go_wp2_with (first
            | (go_at_call 47; with_reducible refine HFR.out.mono ?_; rintro e w4 ⟨A4, c4, rfl, hE4⟩; have hmul4 := HMF.out w4; have hX4 := hE.trans hE4; have hs4 := hX4.size; have hO5 := (hO.ext hE4).ext ((Ext.refl w4).alloc (.cells #[.float .f64 (dbF (shF f N))] 71)))
            | (go_at_call 48; with_reducible refine (HSH.out _).mono ?_; rintro e w' ⟨rfl, rfl⟩)
            | (at_builtin; refine appF rfl (.tmp 46) (.tmp 48) rfl w.heap.size _ k d1 _ rfl hO5 _ 1 1 _ rfl (Sl.lit2 w4 #[.float .f64 (dbF (shF f N))] 71 1 rfl (by omega) (by simp [Value.oneCell']) _ (by first | rfl | simp)) (by omega) (by simp; omega) ?_; intro A6 c6 w6 hO6 hG6))
          go_roundw
          case rel => exact ⟨k + 1, A6, c6, ys ++ [dbF (shF f N)], by omega, by go_num, rfl, by rw [fl_append]; exact hO6, hW.append (Words.one hyb), hLk.out.snoc (by rw [HSO.out]; simp only [decide_true]; rw [HYH.out]), (hX4.alloc _).grown hG6 (fun q hq => (hO.block q hq).1)⟩
          case measure => simp [intOf]; omega
        · have HY : scF (decide ((k : Int) = near)) f N = shF f N := by unfold scF; rw [if_neg hf0, if_neg (by simpa using hn)]
          have hyb := HBD.out (decide ((k : Int) = near))
          rw [HY] at hyb
          have HYH := hide HY
          clear HY hf0
          go_wp2_with (first
            | (go_at_call 47; with_reducible refine HFR.out.mono ?_; rintro e w4 ⟨A4, c4, rfl, hE4⟩; have hX4 := hE.trans hE4; have hs4 := hX4.size; have hO5 := (hO.ext hE4).ext ((Ext.refl w4).alloc (.cells #[.float .f64 (shF f N)] 71)))
            | (go_at_call 48; with_reducible refine (HSH.out _).mono ?_; rintro e w' ⟨rfl, rfl⟩)
            | (at_builtin; refine appF rfl (.tmp 46) (.tmp 48) rfl w.heap.size _ k d1 _ rfl hO5 _ 1 1 _ rfl (Sl.lit2 w4 #[.float .f64 (shF f N)] 71 1 rfl (by omega) (by simp [Value.oneCell']) _ (by first | rfl | simp)) (by omega) (by simp; omega) ?_; intro A6 c6 w6 hO6 hG6))
          go_roundw
          case rel => exact ⟨k + 1, A6, c6, ys ++ [shF f N], by omega, by go_num, rfl, by rw [fl_append]; exact hO6, hW.append (Words.one hyb), hLk.out.snoc (by rw [HSO.out, HYH.out]), (hX4.alloc _).grown hG6 (fun q hq => (hO.block q hq).1)⟩
          case measure => simp [intOf]; omega
    · obtain rfl : k = G := by omega
      have hbe := hLk.out.best hyl
      have hB := ref1_Best A1 k d1 ys wr hO.sl hW
      rw [hbe] at hB
      have HB := hide hB
      clear hbe hB
      go_wp2_with (go_at_call 49; with_reducible refine HB.out.mono ?_; rintro e w5 ⟨rfl, hE5⟩)
      go_ret
      exact ⟨rfl, hE.trans hE5⟩
set_option maxRecDepth 100000 in
set_option maxHeartbeats 4000000 in
theorem ref_Group_blk (h : RefAt w B g q G N M bi bb bx bz) (near : Int) {t : List (List Nat)} (hx : IsB G N M bb t) :
    Calls Try.prog 17 #[.pointer (some ⟨g, 0, none⟩), .int .i64 near, .bool false] w fun e w' => e = .returned (.int .i64 (bestF (scL near M t G))) ∧ Ext w w' := by
  have hm := mayG_nat h.may
  obtain ⟨c0, c1, c2, _, _, _, _⟩ := h.cells
  have HF := hide (fun w' (hE : Ext w w') k (hk : k < G) => ref_free_blk (h.ext hE) hk (xs := t.getD k []) (fun i hi => hx k i hk hi))
  have E1 : 0 < M := by omega
  have E2 : M ≤ 96 := by omega
  clear h hx
  go_enter Try.func17, Try.ntmps17
  go_wp2_with fail
  go_loopw [8, 9] (fun v i wr => ∃ (k : Nat) (A1 : Option Addr) (d1 : Nat) (ys : List Nat), k ≤ G ∧ i = .int .i64 k ∧ v = .slice A1 k d1 ∧ Own wr w.heap.size 71 A1 k d1 (fl ys) ∧ Words ys ∧ Hid (Like near M t ys) ∧ Ext w wr) (fun _ i _ => G - (intOf i).toNat)
  case atStart => exact ⟨0, none, 0, [], by omega, rfl, rfl, Own.nilS _ _ _, Words.nil, (fun i hi => by cases hi), Ext.refl _⟩
  case round =>
    obtain ⟨k, A1, d1, ys, hk, rfl, rfl, hO, hW, hLk, hE⟩ := hrel
    have hsz := hE.size
    have hyl := hO.len
    rw [fl_len] at hyl
    have d0' := hE.cell c0
    by_cases hlt : k < G
    · have hq := freeN_le M (t.getD k [])
      obtain ⟨f, hf⟩ : ∃ f, freeN M (t.getD k []) = f := ⟨_, rfl⟩
      have hfr := HF.out wr hE k hlt
      rw [hf] at hfr hq
      have hfr2 : Calls Try.prog 47 #[.pointer (some ⟨g, 0, none⟩), .int .i64 (k : Int), .bool false] wr fun e w' => ∃ A c, e = .returned (.slice A f c) ∧ Ext wr w' := hfr.mono (by rintro e w' ⟨A, n, c, h1, h2, h3, h4⟩; subst h2; exact ⟨A, c, h1, h4⟩)
      have HFR := hide hfr2
      have hso : KF (scOf near M t ys.length) = KF (scF (decide ((k : Int) = near)) f M) := by rw [hyl]; unfold scOf; rw [hf]
      have HSO := hide hso
      have hbd := fun b => scF_lt b (f := f) (t := M) E1 E2 hq
      have HBD := hide hbd
      have HSH := hide (fun w => ref1_ShareN f M E1 E2 hq w)
      have hz := sh_zero E1 E2 hq
      have hml := sh_facts E1 E2 hq
      have HMF := hide (fun w4 => run_float_arith (P := Try.prog) w4 .mul 71 .f64 (shF f M) 4611686018427387904 _ hml.2.1)
      clear hfr hfr2 hso hbd hf hml
      by_cases hf0 : f = 0
      · rw [decide_eq_true hf0] at hz
        by_cases hn : (k : Int) = near
        · subst hn
          have HY : scF true f M = 9221120237041090561 := by unfold scF; rw [if_pos hf0]
          have HYH := hide HY
          clear HY hf0
          go_wp2_with (first
            | (go_at_call 47; with_reducible refine HFR.out.mono ?_; rintro e w4 ⟨A4, c4, rfl, hE4⟩; obtain ⟨qq, hqq, hqn, hql⟩ := run_mulN 71 w4; have hX4 := hE.trans hE4; have hs4 := hX4.size; have hO5 := (hO.ext hE4).ext (((Ext.refl w4).drew).alloc (.cells #[.float .f64 qq] 71)))
            | (go_at_call 48; with_reducible refine (HSH.out _).mono ?_; rintro e w' ⟨rfl, rfl⟩)
            | (go_at_call 38; with_reducible refine (f_NaN _).mono ?_; rintro e w' ⟨rfl, rfl⟩)
            | (at_builtin; refine appF rfl (.tmp 46) (.tmp 48) rfl w.heap.size _ k d1 _ rfl hO5 _ 1 1 _ rfl (Sl.lit2 w4.drew #[.float .f64 qq] 71 1 rfl (by omega) (by simp [Value.oneCell']) _ (by first | rfl | simp)) (by omega) (by simp; omega) ?_; intro A6 c6 w6 hO6 hG6))
          go_roundw
          case rel => exact ⟨k + 1, A6, c6, ys ++ [qq], by omega, by go_num, rfl, by rw [fl_append]; exact hO6, hW.append (Words.one hql), hLk.out.snoc (by rw [HSO.out]; simp only [decide_true]; rw [HYH.out]; exact KF_nans hqn (by decide +kernel)), ((hX4.drew).alloc _).grown hG6 (fun q hq => (hO.block q hq).1)⟩
          case measure => simp [intOf]; omega
        · have HY : scF (decide ((k : Int) = near)) f M = 9221120237041090561 := by unfold scF; rw [if_pos hf0]
          have HYH := hide HY
          clear HY hf0
          go_wp2_with (first
            | (go_at_call 47; with_reducible refine HFR.out.mono ?_; rintro e w4 ⟨A4, c4, rfl, hE4⟩; have hX4 := hE.trans hE4; have hs4 := hX4.size; have hO5 := (hO.ext hE4).ext ((Ext.refl w4).alloc (.cells #[.float .f64 9221120237041090561] 71)))
            | (go_at_call 48; with_reducible refine (HSH.out _).mono ?_; rintro e w' ⟨rfl, rfl⟩)
            | (go_at_call 38; with_reducible refine (f_NaN _).mono ?_; rintro e w' ⟨rfl, rfl⟩)
            | (at_builtin; refine appF rfl (.tmp 46) (.tmp 48) rfl w.heap.size _ k d1 _ rfl hO5 _ 1 1 _ rfl (Sl.lit2 w4 #[.float .f64 9221120237041090561] 71 1 rfl (by omega) (by simp [Value.oneCell']) _ (by first | rfl | simp)) (by omega) (by simp; omega) ?_; intro A6 c6 w6 hO6 hG6))
          go_roundw
          case rel => exact ⟨k + 1, A6, c6, ys ++ [9221120237041090561], by omega, by go_num, rfl, by rw [fl_append]; exact hO6, hW.append (Words.one (by decide)), hLk.out.snoc (by rw [HSO.out, HYH.out]), (hX4.alloc _).grown hG6 (fun q hq => (hO.block q hq).1)⟩
          case measure => simp [intOf]; omega
      · rw [decide_eq_false hf0] at hz
        by_cases hn : (k : Int) = near
        · subst hn
          have HY : scF true f M = dbF (shF f M) := by unfold scF; rw [if_neg hf0, if_pos rfl]
          have hyb := HBD.out true
          rw [HY] at hyb
          have HYH := hide HY
          clear HY hf0
          go_wp2_with (first
            | (go_at_call 47; with_reducible refine HFR.out.mono ?_; rintro e w4 ⟨A4, c4, rfl, hE4⟩; have hmul4 := HMF.out w4; have hX4 := hE.trans hE4; have hs4 := hX4.size; have hO5 := (hO.ext hE4).ext ((Ext.refl w4).alloc (.cells #[.float .f64 (dbF (shF f M))] 71)))
            | (go_at_call 48; with_reducible refine (HSH.out _).mono ?_; rintro e w' ⟨rfl, rfl⟩)
            | (at_builtin; refine appF rfl (.tmp 46) (.tmp 48) rfl w.heap.size _ k d1 _ rfl hO5 _ 1 1 _ rfl (Sl.lit2 w4 #[.float .f64 (dbF (shF f M))] 71 1 rfl (by omega) (by simp [Value.oneCell']) _ (by first | rfl | simp)) (by omega) (by simp; omega) ?_; intro A6 c6 w6 hO6 hG6))
          go_roundw
          case rel => exact ⟨k + 1, A6, c6, ys ++ [dbF (shF f M)], by omega, by go_num, rfl, by rw [fl_append]; exact hO6, hW.append (Words.one hyb), hLk.out.snoc (by rw [HSO.out]; simp only [decide_true]; rw [HYH.out]), (hX4.alloc _).grown hG6 (fun q hq => (hO.block q hq).1)⟩
          case measure => simp [intOf]; omega
        · have HY : scF (decide ((k : Int) = near)) f M = shF f M := by unfold scF; rw [if_neg hf0, if_neg (by simpa using hn)]
          have hyb := HBD.out (decide ((k : Int) = near))
          rw [HY] at hyb
          have HYH := hide HY
          clear HY hf0
          go_wp2_with (first
            | (go_at_call 47; with_reducible refine HFR.out.mono ?_; rintro e w4 ⟨A4, c4, rfl, hE4⟩; have hX4 := hE.trans hE4; have hs4 := hX4.size; have hO5 := (hO.ext hE4).ext ((Ext.refl w4).alloc (.cells #[.float .f64 (shF f M)] 71)))
            | (go_at_call 48; with_reducible refine (HSH.out _).mono ?_; rintro e w' ⟨rfl, rfl⟩)
            | (at_builtin; refine appF rfl (.tmp 46) (.tmp 48) rfl w.heap.size _ k d1 _ rfl hO5 _ 1 1 _ rfl (Sl.lit2 w4 #[.float .f64 (shF f M)] 71 1 rfl (by omega) (by simp [Value.oneCell']) _ (by first | rfl | simp)) (by omega) (by simp; omega) ?_; intro A6 c6 w6 hO6 hG6))
          go_roundw
          case rel => exact ⟨k + 1, A6, c6, ys ++ [shF f M], by omega, by go_num, rfl, by rw [fl_append]; exact hO6, hW.append (Words.one hyb), hLk.out.snoc (by rw [HSO.out, HYH.out]), (hX4.alloc _).grown hG6 (fun q hq => (hO.block q hq).1)⟩
          case measure => simp [intOf]; omega
    · obtain rfl : k = G := by omega
      have hbe := hLk.out.best hyl
      have hB := ref1_Best A1 k d1 ys wr hO.sl hW
      rw [hbe] at hB
      have HB := hide hB
      clear hbe hB
      go_wp2_with (go_at_call 49; with_reducible refine HB.out.mono ?_; rintro e w5 ⟨rfl, hE5⟩)
      go_ret
      exact ⟨rfl, hE.trans hE5⟩
end
end Go.Proofs.Ytillhbbeghbfeaa
