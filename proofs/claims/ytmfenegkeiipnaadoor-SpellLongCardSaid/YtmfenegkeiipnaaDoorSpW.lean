/- The statement SpellLong: the walk. -/
import Derived.Test.YtmfenegkeiipnaaDoorSpU
namespace Go.Proofs.YtmfenegkeiipnaaDoor
set_option linter.unusedVariables false
set_option linter.unusedSimpArgs false
open Go.RowKit

/-- How many digits; none of 0. -/
def dgN (u : Nat) : Nat := if u = 0 then 0 else (Lib.decDigits u).length
theorem dgN_step {u : Nat} (h : u ≠ 0) : dgN u = dgN (u / 10) + 1 := by
  unfold dgN
  rw [if_neg h]
  rw [Lib.decDigits]
  split
  · rw [if_pos (by omega)]
    simp
  · rw [if_neg (by omega)]
    simp
theorem itoa_len {x : Int} (h : x ≠ 0) : (Lib.itoa x).length = dgN x.natAbs + if x < 0 then 1 else 0 := by
  unfold Lib.itoa dgN
  rw [if_neg (c := x.natAbs = 0) (by omega)]
  split
  · simp
  · rw [show x.toNat = x.natAbs by omega]
    simp
theorem dgN_le {x : Int} (h : InR x) : dgN x.natAbs ≤ 21 := by
  by_cases h0 : x = 0
  · subst h0; simp [dgN]
  · have := Lib.itoa_length_le x h.1 h.2
    rw [itoa_len h0] at this
    omega
theorem natAbs_tdiv (v : Int) : (v.tdiv 10).natAbs = v.natAbs / 10 := by rw [Int.natAbs_tdiv]; rfl
def kOp (k : Int) : Opp := { noOp with k := k }
theorem say_kOp {k : Int} (h1 : 1 ≤ k) (h2 : k < 24) : sayL (kOp k) = word k.toNat := by
  rw [say_some (o := kOp k) h1 h2]
  show word k.toNat ++ joinB (fieldsL (kOp k)) = _
  have : fieldsL (kOp k) = [] := rfl
  rw [this]
  simp [joinB]
theorem kOp_ok (k : Int) : (kOp k).Ok := (Opp.Ok.noOp' : noOp.Ok)
theorem bld_k (k : Int) (w : World) : (Instr.build 24 #[(0, .int .i64 k)]).run Tryd.prog w = .ok (.agg (opL (kOp k) none 0 0).toArray) w := by kernel_rfl
theorem num_l {key : L8} {x : Int} (h : x ≠ 0) : (joinB (numF key x)).length = key.length + 2 + (dgN x.natAbs + if x < 0 then 1 else 0) := by
  rw [numF_yes h]
  simp only [List.length_append, List.length_singleton]
  rw [itoa_len h]
  omega
theorem by_l {key x : L8} (h : x ≠ []) : (joinB (byF key x)).length = key.length + 2 + 2 * x.length := by
  rw [byF_yes h]
  simp only [List.length_append, List.length_singleton]
  rw [hexL_len]
  omega
set_option maxRecDepth 100000 in
set_option maxHeartbeats 1000000 in
theorem walk_SpellLong (w : World) (hL : Laid w) (o : Opp) (A : Option Addr) (n c : Nat) (hk : InR o.k) (ho : o.Ok) (hD : Sl w A n c (by8 (nat8 o.da))) :
    Calls Tryd.prog 5 #[.agg (opV o A n c)] w fun e w' => e = .returned (.bool true) ∧ Ext w w' := by
  have hGr := hide (fun w => f_Great o A n c w (op_fit (w' := w) hD))
  rw [← opL_arr]
  go_enter Tryd.func5, Tryd.ntmps5
  go_upto_region 1 with (first
    | (with_reducible refine ag_box rfl 24 (.tmp 0) rfl _ 8 rfl (opL_len _ _ _ _) (by omega) (opL_one _ _ _ _) w.heap.size (Nat.le_refl _) ?_; intro w1 hB1 hE1 hz1))
  go_wp2_with (with_reducible refine ag_load rfl 24 (.tmp 1) rfl w.heap.size 8 w.heap.size 24 _ rfl hB1 agg_op info_op ?_)
  refine (hGr.out w1).mono ?_
  rintro e w2 ⟨rfl, hE2⟩
  have hE02 := hE1.trans hE2
  have hL2 := hL.ext hE02
  clear hGr
  cases hg : greatB o with
  | true =>
    go_wp2_with fail
    refine (law25_awake _ hL2).mono ?_
    rintro e w4 ⟨rfl, hE4⟩
    go_wp2_with fail
    go_ret
    exact ⟨rfl, hE02.trans hE4⟩
  | false =>
  have HG := hide (great_sm hg)
  clear hg
  have hO2 := hB1.ext hE2
  have LL1 := hide (fun w => Low o.k 23 23 w rfl (by omega) (by omega))
  have hk1 := kd_in o.k
  have W1 : IntKind.i64.wrap (1 + ((low o.k 23 : Nat) : Int)) = kd o.k := by unfold kd; have := low_lt o.k (n := 23) (by omega); exact IntWalk.i64_in _ (by omega)
  have ck1 := hO2.cellAt 0 (by omega)
  have fk1 := hO2.frozenAt 0
  simp only [opL, List.getElem?_cons_zero] at ck1
  obtain ⟨q, hq⟩ : ∃ q, q = o.kinded := ⟨_, rfl⟩
  have hO3 := hide (show Own (w2.setCell ⟨w.heap.size, 0, none⟩ (.int .i64 (kd o.k))) w.heap.size 24 (some ⟨w.heap.size, 0, none⟩) 8 8 (opL q A n c) from by rw [hq]; exact hO2.store 0 (.int .i64 (kd o.k)) rfl)
  have hE3 := hide (hE02.setCell (p := ⟨w.heap.size, 0, none⟩) (Nat.le_refl _) (.int .i64 (kd o.k)))
  have hkq : q.k = kd o.k := by rw [hq]; rfl
  have HQ := hide hq
  have HKQ := hide hkq
  obtain ⟨kk, hkk⟩ : ∃ kk, kk = kd o.k := ⟨_, rfl⟩
  rw [← hkk] at hk1 W1 hO3 hE3 HKQ
  have HKK := hide hkk
  generalize low o.k 23 = l1 at *
  clear hq hkq hkk hO2 hL2
  go_upto_region 4 with (go_at_call 14; refine (LL1.out _).mono ?_; rintro e w5 ⟨rfl, rfl⟩)
  refine code_world (fun w3 hw3 => ?_)
  have HO3 := hO3.out
  have HE3 := hE3.out
  rw [← hw3] at HO3 HE3
  clear hO3 hE3 ck1 fk1 hw3 hE2 hE02 hB1 W1 LL1
  have hL3 := hL.ext HE3
  have hkr : InR kk := ⟨by omega, by omega⟩
  have HSy1 := hide (f_Say (kOp kk) none 0 0 w3 hL3 (kOp_ok kk) hkr (Opp.Sm.noOp' : noOp.Sm) (Sl.nilS _))
  rw [say_kOp hk1.1 hk1.2] at HSy1
  have HRW := hide (read_say (kOp kk) (kOp_ok kk) hk1.1 hk1.2)
  rw [say_kOp hk1.1 hk1.2] at HRW
  have hck := HO3.cellAt 0 (by omega)
  simp only [opL, List.getElem?_cons_zero] at hck
  rw [HKQ.out] at hck
  have hln0 : (lineN q 0).length = (word kk.toNat).length := by rw [lineN_zero, HKQ.out]
  have hwl := word_len kk.toNat
  obtain ⟨wd, hwd⟩ : ∃ wd, wd = word kk.toNat := ⟨_, rfl⟩
  rw [← hwd] at HSy1 HRW hln0 hwl
  have hsw := toB_size wd
  obtain ⟨wn, hwn⟩ : ∃ wn, wn = wd.length := ⟨_, rfl⟩
  rw [← hwn] at hsw hln0 hwl
  obtain ⟨sw, hsw2⟩ : ∃ sw, sw = toB wd := ⟨_, rfl⟩
  rw [← hsw2] at hsw HSy1
  have HWD := hide (And.intro hwd (And.intro hwn hsw2))
  have HLN0 := hide hln0
  clear hwd hwn hsw2 hln0
  go_wp2_with (with_reducible refine ag_build rfl 24 _ rfl _ (bld_k kk _) ?_)
  refine HSy1.out.mono ?_
  rintro e w4 ⟨rfl, hE4⟩
  have HE4 := HE3.trans hE4
  have hO4 := HO3.ext hE4
  have c1 := hO4.cellAt 1 (by omega)
  have c2 := hO4.cellAt 2 (by omega)
  have c3 := hO4.cellAt 3 (by omega)
  have c4 := hO4.cellAt 4 (by omega)
  simp only [opL, List.getElem?_cons_zero, List.getElem?_cons_succ] at c1 c2 c3 c4
  clear HSy1 hck hE4
  go_upto_region 7 with fail
  refine code_world (fun w5 hw5 => ?_)
  have hE5 : Ext w4 w5 := by rw [hw5]; exact (Ext.refl w4).alloc _
  have hR : ∀ i x, (numV q)[i]? = some x → w5.cell? ⟨w4.heap.size, i, none⟩ = some (.int .i64 x) := by
    intro i x hx
    rw [hw5]
    refine alloc_cell w4 _ _ i _ ?_
    unfold numV at hx
    rcases i with _ | _ | _ | _ | i
    all_goals first | (simp at hx; subst hx; rfl) | (simp at hx)
  have HR := hide hR
  have hO5 := hO4.ext hE5
  have HE5 := hide (HE4.trans hE5)
  have HOk := hide (show q.Ok by rw [HQ.out]; exact ho)
  obtain ⟨b5, hb5⟩ : ∃ b5, b5 = w4.heap.size := ⟨_, rfl⟩
  rw [← hb5] at HR ⊢
  clear hw5 hR hb5 c1 c2 c3 c4 hO4 HE4 hE5
  go_wp2_with fail
  go_loopw [4, 6] (fun s v wr => ∃ (i t : Nat), i ≤ 4 ∧ v = .int .i64 i ∧ s = .int .i64 t ∧ Ext w5 wr ∧ Hid (t = (lineN q i).length)) (fun _ v _ => 4 - (intOf v).toNat)
  case atStart => exact ⟨0, wn, by omega, rfl, rfl, Ext.refl w5, HLN0.out.symm⟩
  case round =>
    obtain ⟨i, t, hi, rfl, rfl, hE, hT⟩ := hrel
    by_cases hlt : i < 4
    · obtain ⟨key, x, hky, hxv, hkl5, hxR⟩ := numAt HOk.out hlt
      have hcx := hE.cell (HR.out i x hxv)
      have j1 : (i : Int) < 4 := by omega
      have j0 : (0 : Int) ≤ (i : Int) := by omega
      have HT2 := hide (lineN_step hky hxv)
      have htb : t ≤ 200 := by
        have := lineN_len HOk.out i hi
        rw [← hT.out] at this
        omega
      have W6 : IntKind.i64.wrap ((i : Int) + 1) = (i : Int) + 1 := IntWalk.i64_in _ (by omega)
      by_cases hx0 : x = 0
      · subst hx0
        have HT3 := hide (show t = (lineN q (i + 1)).length by rw [HT2.out, numF_no, List.append_nil]; exact hT.out)
        clear hT
        go_wp2_with fail
        go_roundw
        case rel => exact ⟨i + 1, t, by omega, by go_num, by trivial, hE, HT3.out⟩
        case measure => simp [intOf] <;> omega
      · have e1 : (x == 0) = false := by simpa using hx0
        have hlit : (#[Value.int .i64 4, .int .i64 3, .int .i64 5, .int .i64 7] : Array Value)[i]? = some (.int .i64 ((key.length + 2 : Nat) : Int)) := by
          rcases (show i = 0 ∨ i = 1 ∨ i = 2 ∨ i = 3 by omega) with rfl | rfl | rfl | rfl
          all_goals
            cases hky
            rfl
        have hcl := alloc_cell wr #[.int .i64 4, .int .i64 3, .int .i64 5, .int .i64 7] 3 i _ hlit
        have HX0 := hide hx0
        have hdg := dgN_le hxR
        have HXR := hide hxR
        obtain ⟨kl, hkl⟩ : ∃ kl, kl = key.length + 2 := ⟨_, rfl⟩
        rw [← hkl] at hcl
        have hkl7 : kl ≤ 7 := by omega
        have HT4 := hide (num_l (key := key) hx0)
        rw [← hkl] at HT4
        clear hlit hky hxv hkl5 hkl hxR
        go_wp2_with fail
        rename World => wq
        go_loopw [7, 8] (fun d v wr => ∃ (d' : Nat) (v' : Int), d = .int .i64 d' ∧ v = .int .i64 v' ∧ wr = wq ∧ d' ≤ 30 ∧ Hid (InR v' ∧ d' + dgN v'.natAbs = dgN x.natAbs)) (fun _ v _ => (intOf v).natAbs)
        case atStart => exact ⟨0, x, rfl, rfl, rfl, by omega, HXR.out, by omega⟩
        case round =>
          obtain ⟨d, v, rfl, rfl, rfl, hd, HV⟩ := hrel
          by_cases hv0 : v = 0
          · subst hv0
            have hdd : d = dgN x.natAbs := by have := HV.out.2; simpa [dgN] using this
            have HDD := hide hdd
            clear hdd
            by_cases hneg : x < 0
            · have HT3 := hide (show t + kl + (d + 1) = (lineN q (i + 1)).length by
                rw [HT2.out, List.length_append, HT4.out, if_pos hneg, ← hT.out, HDD.out]
                omega)
              have W7 : IntKind.i64.wrap ((d : Int) + 1) = ((d + 1 : Nat) : Int) := by rw [IntWalk.i64_in _ (by omega)]; simp
              have W8 : IntKind.i64.wrap ((t : Int) + (kl : Int)) = ((t + kl : Nat) : Int) := by rw [IntWalk.i64_in _ (by omega)]; simp
              have W9 : IntKind.i64.wrap (((t + kl : Nat) : Int) + ((d + 1 : Nat) : Int)) = ((t + kl + (d + 1) : Nat) : Int) := by rw [IntWalk.i64_in _ (by omega)]; simp
              generalize t + kl + (d + 1) = t2 at *
              generalize t + kl = t1 at *
              generalize d + 1 = d1 at *
              clear hT
              go_wp2_with fail
              go_roundw
              case rel => exact ⟨i + 1, t2, by omega, by go_num, by trivial, hE.alloc _, HT3.out⟩
              case measure => simp [intOf] <;> omega
            · have HT3 := hide (show t + kl + d = (lineN q (i + 1)).length by
                rw [HT2.out, List.length_append, HT4.out, if_neg hneg, ← hT.out, HDD.out]
                omega)
              have W8 : IntKind.i64.wrap ((t : Int) + (kl : Int)) = ((t + kl : Nat) : Int) := by rw [IntWalk.i64_in _ (by omega)]; simp
              have W9 : IntKind.i64.wrap (((t + kl : Nat) : Int) + (d : Int)) = ((t + kl + d : Nat) : Int) := by rw [IntWalk.i64_in _ (by omega)]; simp
              generalize t + kl + d = t2 at *
              generalize t + kl = t1 at *
              clear hT
              go_wp2_with fail
              go_roundw
              case rel => exact ⟨i + 1, t2, by omega, by go_num, by trivial, hE.alloc _, HT3.out⟩
              case measure => simp [intOf] <;> omega
          · have e2 : (v != 0) = true := by simpa using hv0
            have hvn : v.natAbs ≠ 0 := by omega
            have hq1 := natAbs_tdiv v
            have hst := dgN_step hvn
            have hvr := HV.out.1
            have hvr2 : InR (v.tdiv 10) := by
              unfold InR at hvr ⊢
              omega
            obtain ⟨v2, hv2⟩ : ∃ v2, v2 = v.tdiv 10 := ⟨_, rfl⟩
            have W7 : wrap64 (v.tdiv 10) = v2 := by rw [hv2]; exact IntWalk.wrap64_in _ (by unfold InR at hvr2; omega)
            have hdb : d + 1 ≤ 21 := by have := HV.out.2; omega
            have W8 : IntKind.i64.wrap ((d : Int) + 1) = ((d + 1 : Nat) : Int) := by rw [IntWalk.i64_in _ (by omega)]; simp
            have HV2 := hide (show InR v2 ∧ (d + 1) + dgN v2.natAbs = dgN x.natAbs from by rw [hv2]; exact ⟨hvr2, by rw [hq1]; have := HV.out.2; omega⟩)
            have HM := hide (show v2.natAbs < v.natAbs by rw [hv2]; omega)
            generalize d + 1 = d1 at *
            clear HV hst hq1 hvr hvr2 hv2
            go_wp2_with fail
            go_roundw
            case rel => exact ⟨d1, v2, by trivial, by rw [W7], by trivial, by omega, HV2.out⟩
            case measure =>
              have := HM.out
              rw [W7]
              show (intOf (.int .i64 v2)).natAbs < (intOf (.int .i64 v)).natAbs
              simp only [intOf]
              exact this
    · obtain rfl : i = 4 := by omega
      rw [show ((4 : Nat) : Int) = 4 from rfl]
      have hda : n = q.da.length := by rw [HQ.out]; exact op_fit (w' := w) hD
      have hO6 := hO5.ext hE
      have c5 := hO6.cellAt 5 (by omega)
      have c6 := hO6.cellAt 6 (by omega)
      have c7 := hO6.cellAt 7 (by omega)
      simp only [opL, List.getElem?_cons_zero, List.getElem?_cons_succ] at c5 c6 c7
      have s5 := toB_size q.pa
      have s6 := toB_size q.to
      have hsm : q.Sm := by rw [HQ.out]; exact HG.out.1
      have HSm := hide hsm
      have HE6 := hide (HE5.out.trans hE)
      have HNB := hide (show ∀ (i : Nat) (x : L8), (byV q)[i]? = some x → (#[Value.int .i64 (q.pa.length : Int), Value.int .i64 (q.to.length : Int), Value.int .i64 (n : Int)] : Array Value)[i]? = some (Value.int .i64 (x.length : Int)) from by
        intro i x hx
        unfold byV at hx
        rcases i with _ | _ | _ | i
        · simp at hx; subst hx; rfl
        · simp at hx; subst hx; rfl
        · simp at hx; subst hx; rw [hda]; rfl
        · simp at hx)
      have HT0 := hide (show t = (lineB q 0).length by rw [lineB_zero]; exact hT.out)
      have HDa := hide hda
      generalize q.pa.length = lp at *
      generalize q.to.length = lt at *
      generalize toB q.pa = bp at *
      generalize toB q.to = bt at *
      clear hT hda hsm hlt hE hO5
      go_upto_region 20 with fail
      refine code_world (fun w6 hw6 => ?_)
      have hE6 : Ext wr w6 := by rw [hw6]; exact (Ext.refl wr).alloc _
      have HR3 := hide (show ∀ (i : Nat) (x : L8), (byV q)[i]? = some x → w6.cell? ⟨wr.heap.size, i, none⟩ = some (.int .i64 (x.length : Int)) from fun i x hx => by
        rw [hw6]
        exact alloc_cell wr _ _ i _ (HNB.out i x hx))
      have hO7 := hO6.ext hE6
      have HE7 := hide (HE6.out.trans hE6)
      obtain ⟨b6, hb6⟩ : ∃ b6, b6 = wr.heap.size := ⟨_, rfl⟩
      rw [← hb6] at HR3 ⊢
      clear hw6 hb6 c5 c6 c7 hO6 hE6 HNB HR HE6
      go_wp2_with fail
      go_loopw [4, 10] (fun s v wr => ∃ (i t : Nat), i ≤ 3 ∧ v = .int .i64 i ∧ s = .int .i64 t ∧ Ext w6 wr ∧ Hid (t = (lineB q i).length)) (fun _ v _ => 3 - (intOf v).toNat)
      case atStart => exact ⟨0, t, by omega, rfl, rfl, Ext.refl w6, HT0.out⟩
      case round =>
        obtain ⟨i, t, hi, rfl, rfl, hE, hT⟩ := hrel
        by_cases hlt : i < 3
        · obtain ⟨key, x, hky, hxv, hkl5, hxR⟩ := byAt HSm.out hlt
          have hcx := hE.cell (HR3.out i x hxv)
          have j1 : (i : Int) < 3 := by omega
          have j0 : (0 : Int) ≤ (i : Int) := by omega
          have HT2 := hide (lineB_step hky hxv)
          have htb : t ≤ 10000000 := by
            have := lineB_len HOk.out HSm.out i hi
            rw [← hT.out] at this
            omega
          have W6 : IntKind.i64.wrap ((i : Int) + 1) = (i : Int) + 1 := IntWalk.i64_in _ (by omega)
          by_cases hx0 : x = []
          · subst hx0
            have HT3 := hide (show t = (lineB q (i + 1)).length by rw [HT2.out, byF_no, List.append_nil]; exact hT.out)
            clear hT
            go_wp2_with fail
            go_roundw
            case rel => exact ⟨i + 1, t, by omega, by go_num, by trivial, hE, HT3.out⟩
            case measure => simp [intOf] <;> omega
          · have hlit : (#[Value.int .i64 6, .int .i64 4, .int .i64 6] : Array Value)[i]? = some (.int .i64 ((key.length + 2 : Nat) : Int)) := by
              rcases (show i = 0 ∨ i = 1 ∨ i = 2 by omega) with rfl | rfl | rfl
              all_goals
                cases hky
                rfl
            obtain ⟨xl, hxl⟩ : ∃ xl, xl = x.length := ⟨_, rfl⟩
            have hxl0 : 0 < xl := by rw [hxl]; exact List.length_pos_iff.2 hx0
            have i5 : (xl : Int) > 0 := by omega
            rw [← hxl] at hcx hxR
            obtain ⟨kl, hkl⟩ : ∃ kl, kl = key.length + 2 := ⟨_, rfl⟩
            have hkl7 : kl ≤ 7 := by omega
            have HT4 := hide (by_l (key := key) hx0)
            rw [← hkl, ← hxl] at HT4
            rw [← hkl] at hlit
            have HLIT := hide hlit
            have HT3 := hide (show t + kl + 2 * xl = (lineB q (i + 1)).length by
              rw [HT2.out, List.length_append, HT4.out, ← hT.out]
              omega)
            have HSx := hide (show ∀ w', Ext w6 w' → (w'.cell? ⟨b6, i, none⟩ = some (.int .i64 (xl : Int)) ∧ Ext w6 w') from fun w' h => ⟨by have := h.cell (HR3.out i x hxv); rw [← hxl] at this; exact this, h⟩)
            have W7 : IntKind.i64.wrap (2 * (xl : Int)) = ((2 * xl : Nat) : Int) := by rw [IntWalk.i64_in _ (by omega)]; simp
            have W8 : IntKind.i64.wrap ((t : Int) + (kl : Int)) = ((t + kl : Nat) : Int) := by rw [IntWalk.i64_in _ (by omega)]; simp
            have W9 : IntKind.i64.wrap (((t + kl : Nat) : Int) + ((2 * xl : Nat) : Int)) = ((t + kl + 2 * xl : Nat) : Int) := by rw [IntWalk.i64_in _ (by omega)]; simp
            generalize t + kl + 2 * xl = t2 at *
            generalize t + kl = t1 at *
            generalize 2 * xl = x2 at *
            clear hlit hky hxv hkl5 hkl hxl hx0 hT
            go_wp2_with fail
            refine wp_region_held_drew (S := (fun w' => w'.cell? ⟨b6, i, none⟩ = some (.int .i64 (xl : Int)) ∧ Ext w6 w')) (by kernel_rfl) (HSx.out _ hE.drew) (fun hHeld => ?_)
            refine held_take 0 rfl (by kernel_rfl) (by kernel_rfl) (by kernel_rfl) (fun _ _ _ _ h => h) (by rfl) ?_ ?_ (by assumption) ?_
            rotate_left
            · (intro wx hSx; (try dsimp only at hSx); go_simp)
              all_goals with_reducible rfl
            (try simp only [Act.put, List.setIfInBounds_toArray, List.set_cons_zero, List.set_cons_succ])
            refine held_take 2 rfl (by kernel_rfl) (by kernel_rfl) (by kernel_rfl) (fun _ _ _ _ h => h) (by rfl) ?_ ?_ (by assumption) ?_
            rotate_left
            · (intro wx hSx; (try dsimp only at hSx); go_simp)
              all_goals with_reducible rfl
            (try simp only [Act.put, List.setIfInBounds_toArray, List.set_cons_zero, List.set_cons_succ])
            refine held_take 6 rfl (by kernel_rfl) (by kernel_rfl) (by kernel_rfl) (fun _ _ _ _ h => h) (by rfl) ?_ ?_ (by assumption) ?_
            rotate_left
            · (intro wx hSx; (try dsimp only at hSx); go_simp)
              all_goals with_reducible rfl
            (try simp only [Act.put, List.setIfInBounds_toArray, List.set_cons_zero, List.set_cons_succ])
            refine held_take 7 rfl (by kernel_rfl) (by kernel_rfl) (by kernel_rfl) (fun _ _ _ _ h => h) (by rfl) ?_ ?_ (by assumption) ?_
            rotate_left
            · (intro wx hSx; (try dsimp only at hSx); go_simp)
              all_goals with_reducible rfl
            (try simp only [Act.put, List.setIfInBounds_toArray, List.set_cons_zero, List.set_cons_succ])
            refine held_take 8 rfl (by kernel_rfl) (by kernel_rfl) (by kernel_rfl) (fun _ _ _ _ h => h) (by rfl) ?_ ?_ (by assumption) ?_
            rotate_left
            · (intro wx hSx; (try dsimp only at hSx); go_simp)
              all_goals with_reducible rfl
            (try simp only [Act.put, List.setIfInBounds_toArray, List.set_cons_zero, List.set_cons_succ])
            refine held_take 9 rfl (by kernel_rfl) (by kernel_rfl) (by kernel_rfl) (fun _ _ _ _ h => h) (by rfl) ?_ ?_ (by assumption) ?_
            rotate_left
            · (intro wx hSx; (try dsimp only at hSx); go_simp)
              all_goals with_reducible rfl
            (try simp only [Act.put, List.setIfInBounds_toArray, List.set_cons_zero, List.set_cons_succ])
            refine held_take 10 rfl (by kernel_rfl) (by kernel_rfl) (by kernel_rfl) (fun _ _ _ _ h => h) (by rfl) ?_ ?_ (by assumption) ?_
            rotate_left
            · (intro wx hSx; (try dsimp only at hSx); go_simp)
              all_goals with_reducible rfl
            (try simp only [Act.put, List.setIfInBounds_toArray, List.set_cons_zero, List.set_cons_succ])
            refine held_call 1 rfl (by kernel_rfl) (fun K hK => ?_)
            go_simp
            refine hK.out _ _ (HSx.out _ ((hE.alloc _).drew)) (fun hHeld => ?_)
            clear hK K
            (try simp only [Act.put, List.setIfInBounds_toArray, List.set_cons_zero, List.set_cons_succ])
            refine held_world (fun w7 hw7 => ?_)
            have hE7 : Ext w6 w7 := by rw [hw7]; exact ((hE.alloc _).drew)
            have hcl : w7.cell? ⟨wr.heap.size, i, none⟩ = some (.int .i64 (kl : Int)) := by rw [hw7]; exact (Ext.refl _).drew.cell (alloc_cell wr _ _ i _ HLIT.out)
            have hSc := HSx.out _ hE7
            clear hw7
            refine held_take 3 rfl (by kernel_rfl) (by kernel_rfl) (by kernel_rfl) (fun _ _ _ _ h => h) (by rfl) ?_ ?_ (by assumption) ?_
            rotate_left
            · (intro wx hSx; (try dsimp only at hSx); go_simp)
              all_goals with_reducible rfl
            (try simp only [Act.put, List.setIfInBounds_toArray, List.set_cons_zero, List.set_cons_succ])
            refine held_call 4 rfl (by kernel_rfl) (fun K hK => ?_)
            go_simp
            refine hK.out _ _ hSc (fun hHeld => ?_)
            clear hK K
            (try simp only [Act.put, List.setIfInBounds_toArray, List.set_cons_zero, List.set_cons_succ])
            refine held_take 5 rfl (by kernel_rfl) (by kernel_rfl) (by kernel_rfl) (fun _ _ _ _ h => h) (by rfl) ?_ ?_ (by assumption) ?_
            rotate_left
            · (intro wx hSx; (try dsimp only at hSx); go_simp)
              all_goals with_reducible rfl
            (try simp only [Act.put, List.setIfInBounds_toArray, List.set_cons_zero, List.set_cons_succ])
            refine held_take 11 rfl (by kernel_rfl) (by kernel_rfl) (by kernel_rfl) (fun _ _ _ _ h => h) (by rfl) ?_ ?_ (by assumption) ?_
            rotate_left
            · (intro wx hSx; (try dsimp only at hSx); go_simp)
              all_goals with_reducible rfl
            (try simp only [Act.put, List.setIfInBounds_toArray, List.set_cons_zero, List.set_cons_succ])
            refine held_take 12 rfl (by kernel_rfl) (by kernel_rfl) (by kernel_rfl) (fun _ _ _ _ h => h) (by rfl) ?_ ?_ (by assumption) ?_
            rotate_left
            · (intro wx hSx; (try dsimp only at hSx); go_simp)
              all_goals with_reducible rfl
            (try simp only [Act.put, List.setIfInBounds_toArray, List.set_cons_zero, List.set_cons_succ])
            refine wpAnyH_done (by kernel_rfl) ?_ _
            go_wp2_with fail
            go_roundw
            case rel => exact ⟨i + 1, t2, by omega, by go_num, by trivial, hE7, HT3.out⟩
            case measure => simp [intOf] <;> omega
        · obtain rfl : i = 3 := by omega
          rw [show ((3 : Nat) : Int) = 3 from rfl]
          have hts : t = (sayL q).length := by
            rw [hT.out, lineB_say (by rw [HKQ.out]; exact hk1.1) (by rw [HKQ.out]; exact hk1.2)]
          have hO8 := hO7.ext hE
          have HE8 := hide (HE7.out.trans hE)
          have hLr := hL.ext HE8.out
          have hnn : nat8 o.da = nat8 q.da := by rw [HQ.out]; rfl
          have HSay := hide (f_Say q A n c wr hLr HOk.out (by rw [HKQ.out]; exact hkr) HSm.out (by rw [← hnn]; exact hD.ext HE8.out))
          have hpre : (toB (sayL q)).extract 0 wn = sw := by
            rw [HWD.out.2.2, HWD.out.2.1, say_some (o := q) (by rw [HKQ.out]; exact hk1.1) (by rw [HKQ.out]; exact hk1.2), HKQ.out, ← HWD.out.1]
            apply ByteArray.ext
            apply Array.ext'
            simp [toB]
          have hwt : wn ≤ t := by
            rw [hts, say_some (o := q) (by rw [HKQ.out]; exact hk1.1) (by rw [HKQ.out]; exact hk1.2), HKQ.out, ← HWD.out.1, List.length_append, ← HWD.out.2.1]
            omega
          have hss := toB_size (sayL q)
          rw [← hts] at hss
          have HTS := hide hts
          obtain ⟨s, hs⟩ : ∃ s, s = toB (sayL q) := ⟨_, rfl⟩
          rw [← hs] at hss hpre HSay
          have hmin : min (wn : Int) (t : Int) = (wn : Int) := by omega
          have j5 : (wn : Int) ≤ (t : Int) := by omega
          have hswq : (sw.toList == sw.toList) = true := by simp
          clear hts hs hT hnn HR3 hO7 HE7 hlt hE
          go_wp2_with (with_reducible refine ag_load rfl 24 (.tmp 1) rfl w.heap.size 8 w.heap.size 24 _ rfl hO8 agg_op info_op ?_)
          refine HSay.out.mono ?_
          rintro e w8 ⟨rfl, hE8⟩
          have HRd := hide (f_Read wd w8 (by have := HWD.out.2.1; omega) (hLr.ext hE8))
          rw [HRW.out, ← HWD.out.2.2] at HRd
          clear HSay
          go_wp2_with fail
          refine HRd.out.mono ?_
          rintro e w9 ⟨o1, A1, n1, c1, er1, rfl, hE9, hD1, hcase1⟩
          have hcc : o1 = kOp kk ∧ er1 = 0 := by
            rcases hcase1 with ⟨h, h2⟩ | ⟨h, _⟩
            · exact ⟨(Option.some.inj h).symm, h2⟩
            · cases h
          obtain ⟨rfl, rfl⟩ := hcc
          rw [← opL_arr]
          go_upto_region 27 with (first
            | (with_reducible refine ag_alloc (o := ⟨some 12, _, _, _, _, _⟩) rfl 24 rfl _ 8 zero_op (opL_len _ _ _ _) (by omega) (opL_one noOp none 0 0) w9.heap.size (Nat.le_refl _) ?_; intro w10 hX10 hE10 hz10)
            | (with_reducible refine ag_store (o := ⟨none, _, _, _, _, _⟩) rfl 24 (.tmp 12) (.tmp 107) rfl w9.heap.size 8 w9.heap.size 24 _ (opL (kOp kk) A1 n1 c1) rfl rfl hX10 (opL_len _ _ _ _) (opL_one _ _ _ _) info_op ?_; intro w11 hX11 hG11))
          have hE11 : Ext w9 w11 := hE10.grown hG11 (fun k hk => by cases hk; exact Nat.le_refl _)
          have hEr11 := hE8.trans (hE9.trans hE11)
          have hO11 := hO8.ext hEr11
          have ca := hX11.cellAt 0 (by omega)
          have cb := hO11.cellAt 0 (by omega)
          simp only [opL, List.getElem?_cons_zero] at ca cb
          rw [show (kOp kk).k = kk from rfl] at ca
          rw [HKQ.out] at cb
          have hkk2 : (kk == kk) = true := by simp
          have HSame := hide (f_Same (kOp kk) (kOp kk) A1 none n1 c1 0 0 w11 (hD1.ext hE11).sl (Sl.nilS _))
          rw [show sameB (kOp kk) (kOp kk) = true from sameB_iff.2 rfl] at HSame
          have HEf := hide (HE8.out.trans hEr11)
          (try clear hcase1)
          (try clear hD1)
          (try clear hX10)
          (try clear hE10)
          (try clear hG11)
          (try clear hz10)
          (try clear hEr11)
          go_wp2_with (first
            | (with_reducible refine ag_load rfl 24 (.tmp 12) rfl w9.heap.size 8 w9.heap.size 24 _ rfl hX11 agg_op info_op ?_)
            | (with_reducible refine ag_build rfl 24 _ rfl _ (bld_k kk _) ?_))
          refine HSame.out.mono ?_
          rintro e w12 ⟨rfl, hE12⟩
          go_wp2_with fail
          refine (law25_awake _ (hL.ext (HEf.out.trans hE12))).mono ?_
          rintro e w13 ⟨rfl, hE13⟩
          go_wp2_with fail
          go_ret
          exact ⟨rfl, HEf.out.trans (hE12.trans hE13)⟩
end Go.Proofs.YtmfenegkeiipnaaDoor
