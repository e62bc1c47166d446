/- Contracts of spaces: what is free, the best group. -/
import Derived.Test.YtillhbbeghbfeaaAlc
import Derived.Test.YtillhbbeghbfeaaShr
namespace Go.Proofs.Ytillhbbeghbfeaa
set_option linter.unusedVariables false
open Go.RowKit

/-- How many of a group are free. -/
def freeN (each : Nat) (xs : List Nat) : Nat := each - (allB xs each).length
theorem freeN_le (each : Nat) (xs : List Nat) : freeN each xs ≤ each := by unfold freeN; omega
theorem freeN_int (each : Nat) (xs : List Nat) : ((freeN each xs : Nat) : Int) = (each : Int) - ((allB xs each).length : Nat) := by
  have := allB_len xs each
  unfold freeN
  omega
set_option maxHeartbeats 1000000 in
theorem set_free {w : World} {B g o each g1 c1 g2 c2 : Nat} {t d : List (List Nat)} (h : SetAt w B g o each g1 c1 g2 c2 t d) {k : Nat} {xs : List Nat} (hk : t[k]? = some xs) :
    Calls Try.prog 37 #[.pointer (some ⟨g, o, none⟩), .int .i64 (k : Int)] w fun e w' => e = .returned (.int .i64 (freeN each xs : Nat)) ∧ Ext w w' := by
  have hle := h.le
  have hkl := (List.getElem?_eq_some_iff.1 hk).1
  have hxl := h.wt xs (List.mem_of_getElem? hk)
  obtain ⟨A, n, cA, hc, hf, hO, hb⟩ := h.rt.row hk
  have hn := hO.len
  rw [by8_len] at hn
  have hal := allB_len xs each
  have hfr := freeN_int each xs
  have ce := h.ce
  have ct := h.ct
  have i1 : (0 : Int) ≤ (k : Int) := by omega
  have i2 : (k : Int) < (t.length : Int) := by omega
  have HFR := hide hfr
  have hcnt := fun w' (hE : Ext w w') => bits_Count A n cA xs each w' (hO.sl.ext hE) hb (by omega) (by omega)
  have HW := hide (wrapI ((each : Int) - ((allB xs each).length : Nat)) (by omega))
  have HCNT := hide hcnt
  clear hcnt hfr hn hxl hk
  go_enter Try.func37, Try.ntmps37
  go_wp2_with fail
  go_region_held3 (fun w' => w'.cell? ⟨g, o, none⟩ = some (.int .i64 (each : Int)) ∧ w'.cell? ⟨g, o + 1, none⟩ = some (.slice (some ⟨g1, 0, none⟩) t.length c1) ∧ w'.cell? ⟨g1, k, none⟩ = some (.slice A n cA))
    (first | go_keep | (exact ⟨hE2.cell (by assumption), hE2.cell (by assumption), hE2.cell (by assumption)⟩))
    ((go_at_call 59; refine (HCNT.out _ ((Ext.refl _).drew)).mono ?_; rintro e w2 ⟨rfl, hE2⟩))
  go_wp2
  go_ret
  exact ⟨retI (by rw [HW.out]; exact HFR.out.symm), ((Ext.refl _).drew).trans hE2⟩
theorem SetAt.ext {w w' : World} {B g o each g1 c1 g2 c2 : Nat} {t d : List (List Nat)} (h : SetAt w B g o each g1 c1 g2 c2 t d) (hE : Ext w w') : SetAt w' B g o each g1 c1 g2 c2 t d :=
  { h with ce := hE.cell h.ce, ct := hE.cell h.ct, cd := hE.cell h.cd, rt := h.rt.ext hE, rd := h.rd.ext hE }
theorem row_at {t : List (List Nat)} {k : Nat} (h : k < t.length) : t[k]? = some (t.getD k []) := by
  rw [List.getElem?_eq_getElem h, List.getD_eq_getElem?_getD, List.getElem?_eq_getElem h]; rfl
theorem getD_row {t : List (List Nat)} {k : Nat} {xs : List Nat} (h : t[k]? = some xs) : t.getD k [] = xs := by rw [List.getD_eq_getElem?_getD, h]; rfl
/-- The score of a group. -/
def scOf (near : Int) (each : Nat) (t : List (List Nat)) (k : Nat) : Nat := scF (decide ((k : Int) = near)) (freeN each (t.getD k [])) each
def scL (near : Int) (each : Nat) (t : List (List Nat)) (n : Nat) : List Nat := (List.range n).map (scOf near each t)
theorem scL_succ (near : Int) (each : Nat) (t : List (List Nat)) (n : Nat) : scL near each t (n + 1) = scL near each t n ++ [scF (decide ((n : Int) = near)) (freeN each (t.getD n [])) each] := by
  unfold scL; rw [List.range_succ, List.map_append]; rfl
theorem scL_len (near : Int) (each : Nat) (t : List (List Nat)) (n : Nat) : (scL near each t n).length = n := by simp [scL]
theorem scL_get (near : Int) (each : Nat) (t : List (List Nat)) {n k : Nat} (h : k < n) : (scL near each t n).getD k 0 = scOf near each t k := by
  unfold scL
  rw [List.getD_eq_getElem?_getD, List.getElem?_map, List.getElem?_range h]
  rfl
theorem scL_words (near : Int) (each : Nat) (t : List (List Nat)) (n : Nat) (h0 : 0 < each) (h1 : each ≤ 96) : Words (scL near each t n) := by
  intro x hx
  obtain ⟨k, hk, rfl⟩ := List.mem_map.1 hx
  exact scF_lt _ h0 h1 (freeN_le _ _)
theorem f_ShareN (f t : Nat) (h0 : 0 < t) (h1 : t ≤ 96) (h2 : f ≤ t) (w : World) : Calls Try.prog 36 #[.int .i64 (f : Int), .int .i64 (t : Int)] w fun e w' => e = .returned (.float .f64 (shF f t)) ∧ w = w' := by
  have hq := run_float_arith (P := Try.prog) w .quo 71 .f64 (wF f) (wF t) _ (sh_facts h0 h1 h2).1
  have w1 := wF_of f
  have w2 := wF_of t
  clear h0 h1 h2
  go_enter Try.func36, Try.ntmps36
  go_wp2_with fail
  go_ret
  exact ⟨rfl, rfl⟩
theorem info_f64 : (Try.prog.info? 71).map (fun i => (i.zero, i.size, i.bytes)) = some (some (.float .f64 0), 1, 8) := by kernel_rfl
/-- append onto numbers of the call's own. -/
theorem appF {w : World} {ops : Array Oper} {rest : List Oper} {o : Oper} {a : Act} {Q : Exit → Act → World → Prop} (hgd : o.guard = none) (s x : Operand)
    (ho : o.op = .call { callee := .builtin .append, args := #[s, x], argTypes := #[70, 70] })
    (B : Nat) (A : Option Addr) (n c : Nat) (xs : List Value) (hs : a.eval s = .slice A n c) (hown : Own w B 71 A n c xs)
    (A2 : Option Addr) (m c2 : Nat) (ys : List Value) (hx : a.eval x = .slice A2 m c2) (hsl : Sl w A2 m c2 ys) (hbytes : n + m ≤ 1000000000000) (hB : B ≤ w.heap.size)
    (h : ∀ A' c' w', Own w' B 71 A' (n + m) c' (xs ++ ys) → w.grownBy w' (Value.slice A n c).ownBlock → wpList Try.prog ops Q rest (a.put o.dst (.slice A' (n + m) c')) w') : wpList Try.prog ops Q (o :: rest) a w := by
  obtain ⟨i0, hi0, hz0, hz1, hz2⟩ := info_parts info_f64
  exact wpList_app hgd s x 70 ho B 71 i0 _ 8 Try.underlying70 hi0 hz0 hz1 hz2 rfl A n c xs hs hown A2 m c2 ys hx hsl (by omega) (by omega) hB h
set_option maxRecDepth 100000 in
set_option maxHeartbeats 4000000 in
theorem space_Group {w : World} {B g : Nat} {p : Pl} {G N M : Nat} {tn dn tb db : List (List Nat)} (h : SpaceAt w B g p G N M tn dn tb db) (near : Int) (b : Bool) :
    Calls Try.prog 11 #[.pointer (some ⟨g, 0, none⟩), .int .i64 near, .bool b] w fun e w' =>
      e = .returned (.int .i64 (bestF (scL near (if b = true then N else M) (if b = true then tn else tb) G))) ∧ Ext w w' := by
  have hm := mayG_nat h.may
  have c0 : w.cell? ⟨g, 0, none⟩ = some (.int .i64 (G : Int)) := by rw [h.own.cellAt 0 (by omega)]; rfl
  cases b
  · show Calls _ _ _ _ fun e w' => e = .returned (.int .i64 (bestF (scL near M tb G))) ∧ Ext w w'
    have hS := h.blocks
    have hl := h.l3
    have hf := fun w' (hE : Ext w w') k xs hk => set_free (hS.ext hE) (k := k) (xs := xs) hk
    have hfl := fun k (hk : k < G) => row_at (t := tb) (show k < tb.length by rw [hl]; exact hk)
    have ce := hS.ce
    have HF := hide hf
    have HFL := hide hfl
    have HL := hide hl
    have E1 : 0 < M := by omega
    have E2 : M ≤ 96 := by omega
    clear hf hfl hl hS h
    go_enter Try.func11, Try.ntmps11
    go_wp2_with fail
    go_loopw [8, 25] (fun v i wr => ∃ (k : Nat) (A1 : Option Addr) (c1 : Nat), k ≤ G ∧ i = .int .i64 k ∧ v = .slice A1 k c1 ∧ Own wr w.heap.size 71 A1 k c1 (fl (scL near M tb k)) ∧ Ext w wr) (fun _ i _ => G - (intOf i).toNat)
    case atStart => exact ⟨0, none, 0, by omega, rfl, rfl, Own.nilS _ _ _, Ext.refl _⟩
    case round =>
      obtain ⟨k, A1, c1, hk, rfl, rfl, hO, hE⟩ := hrel
      have hsz := hE.size
      by_cases hlt : k < G
      · have hlt' : (k : Int) < (G : Int) := by omega
        have hrow := HFL.out k hlt
        generalize tb.getD k [] = xs at hrow
        have HX := hide (getD_row hrow)
        have HR := hide hrow
        clear hrow
        have q := freeN_le M xs
        have hsn := scL_succ near M tb k
        rw [HX.out] at hsn
        have hbd := fun b => scF_lt b (f := freeN M xs) (t := M) (by omega) (by omega) (freeN_le _ _)
        have hsh := fun w => f_ShareN (freeN M xs) M (by omega) (by omega) (freeN_le _ _) w
        have hml := sh_facts (f := freeN M xs) (t := M) (by omega) (by omega) (freeN_le _ _)
        have HSN := hide hsn
        have HSH := hide hsh
        have HBD := hide hbd
        clear hsn hsh hbd
        have ce1 := hE.cell ce
        obtain ⟨wo, rfl⟩ : ∃ wo : World, wo = wr := ⟨_, rfl⟩
        have HF1 := hide (fun w' (hE' : Ext wo w') => HF.out w' (hE.trans hE') k xs HR.out)
        go_wp2_with fail
        go_region_held3 (fun w' => w'.cell? ⟨g, 6, none⟩ = some (.int .i64 (M : Int))) (first | go_keep | (exact hE2.cell (by assumption)))
          (first
            | (go_at_call 37; refine (HF1.out _ ((Ext.refl _).drew)).mono ?_; rintro e w2 ⟨rfl, hE2⟩)
            | (go_at_call 36; refine (HSH.out _).mono ?_; rintro e w3 ⟨rfl, rfl⟩))
        have hE3 := ((Ext.refl _).drew).trans hE2
        have hO2 := hO.ext hE3
        have hsz2 := hE3.size
        have HF2 := hide (HF1.out _ hE3)
        have HE := hide (hE.trans hE3)
        clear hE hE3 hE2 hO HF1 ce1
        generalize freeN M xs = f at *
        have hmul := (run_float_arith (P := Try.prog) w2 .mul 71 .f64 (shF f M) 4611686018427387904 _ hml.2.1)
        have HML := hide hml
        clear hml
        by_cases hf0 : f = 0
        · subst hf0
          go_wp2_with fail
          refine HF2.out.mono ?_
          rintro e w4 ⟨rfl, hE4⟩
          have hO4 := hO2.ext hE4
          have hsz4 := hE4.size
          have HE4 := hide (HE.out.trans hE4)
          clear hE4 HE HF2
          go_wp2_with (first
            | (go_at_call 38; refine (f_NaN _).mono ?_; rintro e w' ⟨rfl, rfl⟩)
            | (at_builtin; refine appF rfl (.tmp 48) (.tmp 50) rfl w.heap.size _ k c1 _ rfl (hO4.ext ((Ext.refl _).alloc _)) _ 1 1 _ rfl (Sl.lit _ _ 71 1 rfl (by omega) (by simp [Value.oneCell'])) (by omega) (by simp; omega) ?_; intro A5 c5 w5 hO5 hG5))
          go_roundw
          case rel => exact ⟨k + 1, A5, c5, by omega, by go_num, rfl, by rw [HSN.out, fl_append]; simpa [scF, fl] using hO5, (HE4.out.alloc _).grown hG5 (fun q hq => (hO4.block q hq).1)⟩
          case measure => simp [intOf]; omega
        · have hf1 : ¬ (f : Int) = 0 := by omega
          by_cases hn : (k : Int) = near
          · subst hn
            go_wp2_with fail
            refine HF2.out.mono ?_
            rintro e w4 ⟨rfl, hE4⟩
            have hO4 := hO2.ext hE4
            have hsz4 := hE4.size
            have HE4 := hide (HE.out.trans hE4)
            have hmul4 := (run_float_arith (P := Try.prog) w4 .mul 71 .f64 (shF f M) 4611686018427387904 _ HML.out.2.1)
            clear hE4 HE HF2 hmul
            go_wp2_with (at_builtin; refine appF rfl (.tmp 48) (.tmp 50) rfl w.heap.size _ k c1 _ rfl (hO4.ext ((Ext.refl _).alloc _)) _ 1 1 _ rfl (Sl.lit _ _ 71 1 rfl (by omega) (by simp [Value.oneCell'])) (by omega) (by simp; omega) ?_; intro A5 c5 w5 hO5 hG5)
            go_roundw
            case rel => exact ⟨k + 1, A5, c5, by omega, by go_num, rfl, by rw [HSN.out, fl_append]; simpa [scF, fl, hf0] using hO5, (HE4.out.alloc _).grown hG5 (fun q hq => (hO4.block q hq).1)⟩
            case measure => simp [intOf]; omega
          · go_wp2_with fail
            refine HF2.out.mono ?_
            rintro e w4 ⟨rfl, hE4⟩
            have hO4 := hO2.ext hE4
            have hsz4 := hE4.size
            have HE4 := hide (HE.out.trans hE4)
            clear hE4 HE HF2 hmul
            go_wp2_with (at_builtin; refine appF rfl (.tmp 48) (.tmp 50) rfl w.heap.size _ k c1 _ rfl (hO4.ext ((Ext.refl _).alloc _)) _ 1 1 _ rfl (Sl.lit _ _ 71 1 rfl (by omega) (by simp [Value.oneCell'])) (by omega) (by simp; omega) ?_; intro A5 c5 w5 hO5 hG5)
            go_roundw
            case rel => exact ⟨k + 1, A5, c5, by omega, by go_num, rfl, by rw [HSN.out, fl_append]; simpa [scF, fl, hf0, hn] using hO5, (HE4.out.alloc _).grown hG5 (fun q hq => (hO4.block q hq).1)⟩
            case measure => simp [intOf]; omega
      · obtain rfl : k = G := by omega
        have hWd := scL_words near M tb k E1 E2
        have HWD := hide hWd
        clear hWd
        go_wp2_with fail
        refine (f_Best _ _ _ _ _ hO.sl HWD.out).mono ?_
        rintro e w' ⟨rfl, rfl⟩
        go_wp2_with fail
        go_ret
        exact ⟨rfl, hE⟩
  · show Calls _ _ _ _ fun e w' => e = .returned (.int .i64 (bestF (scL near N tn G))) ∧ Ext w w'
    have hS := h.nodes
    have hl := h.l1
    have hf := fun w' (hE : Ext w w') k xs hk => set_free (hS.ext hE) (k := k) (xs := xs) hk
    have hfl := fun k (hk : k < G) => row_at (t := tn) (show k < tn.length by rw [hl]; exact hk)
    have ce := hS.ce
    have HF := hide hf
    have HFL := hide hfl
    have HL := hide hl
    have E1 : 0 < N := by omega
    have E2 : N ≤ 96 := by omega
    clear hf hfl hl hS h
    go_enter Try.func11, Try.ntmps11
    go_wp2_with fail
    go_loopw [8, 25] (fun v i wr => ∃ (k : Nat) (A1 : Option Addr) (c1 : Nat), k ≤ G ∧ i = .int .i64 k ∧ v = .slice A1 k c1 ∧ Own wr w.heap.size 71 A1 k c1 (fl (scL near N tn k)) ∧ Ext w wr) (fun _ i _ => G - (intOf i).toNat)
    case atStart => exact ⟨0, none, 0, by omega, rfl, rfl, Own.nilS _ _ _, Ext.refl _⟩
    case round =>
      obtain ⟨k, A1, c1, hk, rfl, rfl, hO, hE⟩ := hrel
      have hsz := hE.size
      by_cases hlt : k < G
      · have hlt' : (k : Int) < (G : Int) := by omega
        have hrow := HFL.out k hlt
        generalize tn.getD k [] = xs at hrow
        have HX := hide (getD_row hrow)
        have HR := hide hrow
        clear hrow
        have q := freeN_le N xs
        have hsn := scL_succ near N tn k
        rw [HX.out] at hsn
        have hbd := fun b => scF_lt b (f := freeN N xs) (t := N) (by omega) (by omega) (freeN_le _ _)
        have hsh := fun w => f_ShareN (freeN N xs) N (by omega) (by omega) (freeN_le _ _) w
        have hml := sh_facts (f := freeN N xs) (t := N) (by omega) (by omega) (freeN_le _ _)
        have HSN := hide hsn
        have HSH := hide hsh
        have HBD := hide hbd
        clear hsn hsh hbd
        have ce1 := hE.cell ce
        obtain ⟨wo, rfl⟩ : ∃ wo : World, wo = wr := ⟨_, rfl⟩
        have HF1 := hide (fun w' (hE' : Ext wo w') => HF.out w' (hE.trans hE') k xs HR.out)
        go_wp2_with fail
        go_region_held3 (fun w' => w'.cell? ⟨g, 3, none⟩ = some (.int .i64 (N : Int))) (first | go_keep | (exact hE2.cell (by assumption)))
          (first
            | (go_at_call 37; refine (HF1.out _ ((Ext.refl _).drew)).mono ?_; rintro e w2 ⟨rfl, hE2⟩)
            | (go_at_call 36; refine (HSH.out _).mono ?_; rintro e w3 ⟨rfl, rfl⟩))
        have hE3 := ((Ext.refl _).drew).trans hE2
        have hO2 := hO.ext hE3
        have hsz2 := hE3.size
        have HF2 := hide (HF1.out _ hE3)
        have HE := hide (hE.trans hE3)
        clear hE hE3 hE2 hO HF1 ce1
        generalize freeN N xs = f at *
        have hmul := (run_float_arith (P := Try.prog) w2 .mul 71 .f64 (shF f N) 4611686018427387904 _ hml.2.1)
        have HML := hide hml
        clear hml
        by_cases hf0 : f = 0
        · subst hf0
          go_wp2_with fail
          refine HF2.out.mono ?_
          rintro e w4 ⟨rfl, hE4⟩
          have hO4 := hO2.ext hE4
          have hsz4 := hE4.size
          have HE4 := hide (HE.out.trans hE4)
          clear hE4 HE HF2
          go_wp2_with (first
            | (go_at_call 38; refine (f_NaN _).mono ?_; rintro e w' ⟨rfl, rfl⟩)
            | (at_builtin; refine appF rfl (.tmp 48) (.tmp 50) rfl w.heap.size _ k c1 _ rfl (hO4.ext ((Ext.refl _).alloc _)) _ 1 1 _ rfl (Sl.lit _ _ 71 1 rfl (by omega) (by simp [Value.oneCell'])) (by omega) (by simp; omega) ?_; intro A5 c5 w5 hO5 hG5))
          go_roundw
          case rel => exact ⟨k + 1, A5, c5, by omega, by go_num, rfl, by rw [HSN.out, fl_append]; simpa [scF, fl] using hO5, (HE4.out.alloc _).grown hG5 (fun q hq => (hO4.block q hq).1)⟩
          case measure => simp [intOf]; omega
        · have hf1 : ¬ (f : Int) = 0 := by omega
          by_cases hn : (k : Int) = near
          · subst hn
            go_wp2_with fail
            refine HF2.out.mono ?_
            rintro e w4 ⟨rfl, hE4⟩
            have hO4 := hO2.ext hE4
            have hsz4 := hE4.size
            have HE4 := hide (HE.out.trans hE4)
            have hmul4 := (run_float_arith (P := Try.prog) w4 .mul 71 .f64 (shF f N) 4611686018427387904 _ HML.out.2.1)
            clear hE4 HE HF2 hmul
            go_wp2_with (at_builtin; refine appF rfl (.tmp 48) (.tmp 50) rfl w.heap.size _ k c1 _ rfl (hO4.ext ((Ext.refl _).alloc _)) _ 1 1 _ rfl (Sl.lit _ _ 71 1 rfl (by omega) (by simp [Value.oneCell'])) (by omega) (by simp; omega) ?_; intro A5 c5 w5 hO5 hG5)
            go_roundw
            case rel => exact ⟨k + 1, A5, c5, by omega, by go_num, rfl, by rw [HSN.out, fl_append]; simpa [scF, fl, hf0] using hO5, (HE4.out.alloc _).grown hG5 (fun q hq => (hO4.block q hq).1)⟩
            case measure => simp [intOf]; omega
          · go_wp2_with fail
            refine HF2.out.mono ?_
            rintro e w4 ⟨rfl, hE4⟩
            have hO4 := hO2.ext hE4
            have hsz4 := hE4.size
            have HE4 := hide (HE.out.trans hE4)
            clear hE4 HE HF2 hmul
            go_wp2_with (at_builtin; refine appF rfl (.tmp 48) (.tmp 50) rfl w.heap.size _ k c1 _ rfl (hO4.ext ((Ext.refl _).alloc _)) _ 1 1 _ rfl (Sl.lit _ _ 71 1 rfl (by omega) (by simp [Value.oneCell'])) (by omega) (by simp; omega) ?_; intro A5 c5 w5 hO5 hG5)
            go_roundw
            case rel => exact ⟨k + 1, A5, c5, by omega, by go_num, rfl, by rw [HSN.out, fl_append]; simpa [scF, fl, hf0, hn] using hO5, (HE4.out.alloc _).grown hG5 (fun q hq => (hO4.block q hq).1)⟩
            case measure => simp [intOf]; omega
      · obtain rfl : k = G := by omega
        have hWd := scL_words near N tn k E1 E2
        have HWD := hide hWd
        clear hWd
        go_wp2_with fail
        refine (f_Best _ _ _ _ _ hO.sl HWD.out).mono ?_
        rintro e w' ⟨rfl, rfl⟩
        go_wp2_with fail
        go_ret
        exact ⟨rfl, hE⟩
end Go.Proofs.Ytillhbbeghbfeaa
