/- Paths: parts that are joined are split again. -/
import Derived.Test.YtngffmchjjpfbaaDoorPthZ
import Derived.Test.YtngffmchjjpfbaaDoorArg
import Derived.Deep.RegionHeld3
import Derived.BigQuiet
namespace Go.Proofs.YtngffmchjjpfbaaDoor
set_option linter.unusedVariables false
open Go.RowKit

def Lets (l : L8) : Prop := ∀ x ∈ l, 97 ≤ x.toNat
theorem Lets.no {l : L8} (h : Lets l) {x : UInt8} (hx : x.toNat < 97) : x ∉ l := fun hm => by have := h x hm; omega
def PtOk (ps : List L8) : Prop := ∀ p ∈ ps, Lets p ∧ 0 < p.length ∧ p.length ≤ 9
theorem PtOk.good {p : L8} (h : Lets p) (h0 : 0 < p.length) : goodP p = true ∧ (p == [46, 46]) = false := by
  cases p with
  | nil => simp at h0
  | cons a r =>
    have ha := h a (by simp)
    have hne : a ≠ 46 := by rintro rfl; exact absurd ha (by decide)
    unfold goodP
    constructor
    · simp [hne]
    · simp [hne]
theorem PtOk.goods {ps : List L8} (h : PtOk ps) : GoodPs ps := fun p hp => ⟨(h p hp).1.no (by decide), (PtOk.good (h p hp).1 (h p hp).2.1).1⟩
theorem PtOk.sum {ps : List L8} (h : PtOk ps) : sumL ps ≤ ps.length * 10 := by
  induction ps with
  | nil => exact Nat.le_refl _
  | cons p ps ih =>
    have h1 := ih (fun q hq => h q (by simp [hq]))
    have h2 := (h p (by simp)).2.2
    rw [sumL_cons, List.length_cons]
    omega
theorem PtOk.split {ps : List L8} (h : PtOk ps) (hn : ps.length ≤ 20) : splE (joinL ps) = 0 ∧ splPs (joinL ps) = ps ∧ (joinL ps).length ≤ 200 := by
  have hp : prt (joinL ps) = ps := prt_joinL h.goods
  have hl : (joinL ps).length ≤ 200 := by have := joinL_leng ps; have := h.sum; omega
  have hE : splE (joinL ps) = 0 := by
    have e : joinL ps = 47 :: Lib.join ps [47] := rfl
    rw [e]
    refine splE_mk ?_ ?_ ?_ ?_
    · rw [← e]
      cases hb : (joinL ps).contains 0 with
      | false => rfl
      | true =>
        have hx : (0 : UInt8) ∈ joinL ps := by simpa using hb
        rcases joinL_mem hx with h2 | ⟨p, hp, h2⟩
        · exact absurd h2 (by decide)
        · exact absurd h2 ((h p hp).1.no (by decide))
    · rw [← e, hp]
      unfold lngP
      rw [List.any_eq_false]
      intro p hp
      have := (h p hp).2.2
      simp
      omega
    · rw [← e, hp]; exact hn
    · rw [← e]; exact hl
  exact ⟨hE, by unfold splPs; rw [if_pos hE, hp], hl⟩
theorem PtOk.last {Q : List L8} {x : L8} (h : PtOk (Q ++ [x])) (hn : (Q ++ [x]).length ≤ 20) :
    lasE (joinL (Q ++ [x])) = 0 ∧ lasU (joinL (Q ++ [x])) = joinL Q ∧ lasN (joinL (Q ++ [x])) = x := by
  have hp : prt (joinL (Q ++ [x])) = Q ++ [x] := prt_joinL h.goods
  obtain ⟨hE, _, _⟩ := h.split hn
  have hb : badLast (Q ++ [x]) = false := by
    unfold badLast
    rw [show (Q ++ [x]).getLast? = some x by simp]
    exact (PtOk.good (h x (by simp)).1 (h x (by simp)).2.1).2
  have h0 : lasE (joinL (Q ++ [x])) = 0 := by unfold lasE; rw [if_pos hE, hp, hb]; rfl
  refine ⟨h0, ?_, ?_⟩
  · unfold lasU; rw [if_pos h0, hp]; simp
  · unfold lasN; rw [if_pos h0, hp]; simp
theorem str8 {w : World} {A : Option Addr} {n c : Nat} {xs : List Nat} (h : Sl w A n c (by8 xs)) : (convert 39 9 (.slice A n c)).run Tryd.prog w = .ok (.string (strN xs)) w :=
  run_str 39 5 9 Tryd.underlying39 Tryd.underlying5 Tryd.underlying9 h
/-- append of texts behind a guard that holds. -/
theorem appTG {w : World} {ops : Array Oper} {rest : List Oper} {o : Oper} {a : Act} {Q : Exit → Act → World → Prop} (hgd : Region.wanted o (yielded ops a.tmps) = true) (s x : Operand)
    (ho : o.op = .call { callee := .builtin .append, args := #[s, x], argTypes := #[23, 23] })
    (B : Nat) (A : Option Addr) (n c : Nat) (xs : List Value) (hs : a.eval s = .slice A n c) (hown : Own w B 9 A n c xs)
    (A2 : Option Addr) (m c2 : Nat) (ys : List Value) (hx : a.eval x = .slice A2 m c2) (hsl : Sl w A2 m c2 ys) (hbytes : n + m ≤ 1000000000000) (hB : B ≤ w.heap.size)
    (h : ∀ A' c' w', Own w' B 9 A' (n + m) c' (xs ++ ys) → w.grownBy w' (Value.slice A n c).ownBlock → wpList Tryd.prog ops Q rest (a.put o.dst (.slice A' (n + m) c')) w') : wpList Tryd.prog ops Q (o :: rest) a w := by
  obtain ⟨i0, hi0, hz0, hz1, hz2⟩ := info_parts info_stringT
  obtain ⟨A', c', w', hr, h2, h3⟩ := run_app (P := Tryd.prog) (w := w) B 23 o.type 9 i0 _ 16 Tryd.underlying23 hi0 hz0 hz1 hz2 rfl A n c xs hown A2 m c2 ys hsl (by omega) (by omega) hB
  show (if Region.wanted o (yielded ops a.tmps) then _ else _)
  rw [if_pos hgd]
  refine .inl ?_
  unfold Oper.wp execOp
  simp only [ho, resolve, invoke, builtin, Sem.run_bind, Sem.run_pure, Result.andThen_ok, List.map_toArray, List.map_cons, List.map_nil, hs, hx, hr]
  exact h A' c' w' h2 h3
theorem atZ {w : World} {A : Option Addr} {n c : Nat} {zs : List Int} (h : Sl w A n c (zs.map (Value.int .i64))) {k : Nat} (hk : k < n) :
    ∃ b o x, A = some ⟨b, o, none⟩ ∧ w.cell? ⟨b, o + k, none⟩ = some (.int .i64 x) := by
  obtain ⟨b, o, u, hA, hu, hc⟩ := h.at_ hk
  have hu' := hu.out
  simp only [List.getElem?_map, Option.map_eq_some_iff] at hu'
  obtain ⟨x, hx, rfl⟩ := hu'
  exact ⟨b, o, x, hA, hc⟩
theorem toB_snoc (l : L8) (v : Nat) : toB l ++ strN [v] = toB (l ++ [UInt8.ofNat v]) := by
  apply ByteArray.ext
  apply Array.ext'
  simp [toB, strN]
theorem let_snoc {l : L8} (h : Lets l) {q : Nat} (hq : q < 26) : Lets (l ++ [UInt8.ofNat (97 + q)]) := by
  intro x hx
  rw [List.mem_append] at hx
  rcases hx with hx | hx
  · exact h x hx
  · rw [List.mem_singleton] at hx
    rw [hx, UInt8.toNat_ofNat']
    omega
set_option maxHeartbeats 2000000 in
theorem law_PathParts (w : World) (A : Option Addr) (n c : Nat) (zs : List Int) (h : Sl w A n c (zs.map (Value.int .i64))) (_hw : ∀ x ∈ zs, (Lit.int .i64 x).wf = true) :
    Calls Tryd.prog 5 #[.slice A n c] w fun e w' => e = .returned (.bool true) ∧ Ext w w' := by
  clear _hw
  by_cases h4 : (20 : Int) < (n : Int)
  · go_enter Tryd.func5, Tryd.ntmps5
    go_wp2_with fail
    refine (law12_awake _).mono ?_
    rintro e w1 ⟨rfl, hE1⟩
    go_wp2_with fail
    go_ret
    exact ⟨rfl, hE1⟩
  · go_enter Tryd.func5, Tryd.ntmps5
    go_wp2_with fail
    go_loopw [3, 4, 5] (fun o lg j wr => ∃ (i c3 : Nat) (A3 : Option Addr) (ps : List L8) (g : Nat), i ≤ n ∧ j = .int .i64 i ∧ o = .slice A3 i c3 ∧ lg = .int .i64 (g : Nat) ∧ g ≤ 200 ∧ Hid (sumL ps = g) ∧ Hid (ps.length = i) ∧ Hid (PtOk ps) ∧ Own wr w.heap.size 9 A3 i c3 (vT (mB ps)) ∧ Ext w wr) (fun _ _ j _ => n - (intOf j).toNat)
    case atStart => exact ⟨0, 0, none, [], 0, by omega, rfl, rfl, rfl, by omega, rfl, rfl, (fun p hp => by simp at hp), Own.nilS _ _ _, Ext.refl _⟩
    case round =>
      obtain ⟨i, c3, A3, ps, g, hi, rfl, rfl, rfl, hg2, hg, hps, hok, hO, hE⟩ := hrel
      have hsz := hE.size
      have hgi : g ≤ i * 10 := by have := hok.out.sum; rw [hps.out, hg.out] at this; exact this
      by_cases hlt : i < n
      · have hlt' : (i : Int) < (n : Int) := by omega
        obtain ⟨b, o, z, rfl, hz⟩ := atZ h hlt
        have hLow := fun w => Low z 9 9 w rfl (by omega) (by omega)
        have hm9 := low_lt z (n := 9) (by omega)
        generalize low z 9 = m at *
        have HLow := hide hLow
        clear hLow
        go_wp2_with fail
        go_loopw [6, 7] (fun t j wi => ∃ (k : Nat) (l : L8), k ≤ m + 1 ∧ j = .int .i64 k ∧ t = .string (toB l) ∧ l.length = k ∧ Hid (Lets l) ∧ Ext wr wi) (fun _ j _ => m + 1 - (intOf j).toNat)
        case atStart => exact ⟨0, [], by omega, rfl, rfl, rfl, (fun x hx => by simp at hx), Ext.refl _⟩
        case round =>
          obtain ⟨k, l, hk, rfl, rfl, hlk, hle, hEi⟩ := hrel
          have hcz := (hE.trans hEi).cell hz
          have hls : (toB l).size = k := by rw [toB_size, hlk]
          have hst := fun v => toB_snoc l v
          generalize ht : toB l = t at *
          have HS := hide hst
          have HTL := hide ht
          have HLK := hide hlk
          clear hst ht hlk
          by_cases hkm : k ≤ m
          · have hkm' : (k : Int) ≤ (m : Int) := by omega
            have hk1 : ((k : Int) + 1 == 0) = false := by simp; omega
            go_wp2_with fail
            refine (HLow.out _).mono ?_
            rintro e w' ⟨rfl, rfl⟩
            go_wp2_with fail
            refine (Low _ 26 26 _ rfl (by omega) (by omega)).mono ?_
            rintro e w' ⟨rfl, rfl⟩
            generalize hq : low (wrap64 (z.tdiv ((k : Int) + 1))) 26 = q
            have hq26 : q < 26 := by rw [← hq]; exact low_lt _ (by omega)
            clear hq
            have hc8 : ((97 + q : Nat) : Int) = 97 + (q : Int) := by omega
            have hcv := str8 (show Sl _ _ _ _ (by8 [97 + q]) from Sl.lit wr #[.int .u8 ((97 + q : Nat) : Int)] 5 1 rfl (by omega) (by simp [Value.oneCell']))
            rw [hc8] at hcv
            have hs1 : (strN [97 + q]).size = 1 := rfl
            have hnot : ¬ 9223372036854775807 < t.size + (strN [97 + q]).size := by omega
            have HLE := hide (let_snoc hle.out hq26)
            generalize hv : strN [97 + q] = v at *
            have HV := hide hv
            clear hc8 hv
            go_wp2_with fail
            go_roundw
            case rel =>
              refine ⟨k + 1, l ++ [UInt8.ofNat (97 + q)], by omega, by go_num, ?_, by rw [List.length_append, HLK.out]; rfl, HLE.out, hEi.alloc _⟩
              rw [← HS.out, HV.out]
            case measure => simp [intOf]; omega
          · have hkm' : ¬ (k : Int) ≤ (m : Int) := by omega
            obtain rfl : k = m + 1 := by omega
            have hsl : sumL (ps ++ [l]) = sumL ps + (m + 2) := by rw [sumL_append, sumL_cons, HLK.out]; simp [sumL]
            have hok2 : PtOk (ps ++ [l]) := by
              intro p hp
              rw [List.mem_append] at hp
              rcases hp with hp | hp
              · exact hok.out p hp
              · rw [List.mem_singleton] at hp
                have := HLK.out
                rw [hp]
                exact ⟨hle.out, by omega, by omega⟩
            have hps2 : (ps ++ [l]).length = i + 1 := by rw [List.length_append, hps.out]; rfl
            have HOK2 := hide hok2
            have HPS2 := hide hps2
            have HSL := hide hsl
            clear hok2 hps2 hsl
            go_wp2_with fail
            refine (HLow.out _).mono ?_
            rintro e wj ⟨rfl, rfl⟩
            have hszj := hEi.size
            go_wp2_with (at_builtin; refine appT rfl (.tmp 49) (.tmp 51) rfl w.heap.size _ i c3 _ rfl ((hO.ext hEi).ext ((Ext.refl _).alloc _)) _ 1 1 _ rfl (Sl.lit wr #[.string t] 9 1 rfl (by omega) (by simp [Value.oneCell'])) (by omega) (by simp; omega) ?_; intro A5 c5 w5 hO5 hG5)
            go_roundw
            case rel =>
              refine ⟨i + 1, c5, A5, ps ++ [l], g + 1 + t.size, by omega, by go_num, rfl, by go_num, by omega, ?_, HPS2.out, HOK2.out, ?_, ((hE.trans hEi).alloc _).grown hG5 (fun q hq => (hO.block q hq).1)⟩
              · show _ = _; rw [HSL.out, hg.out]; omega
              · rw [mB_append, vT_append]
                have : vT (mB [l]) = [Value.string t] := by rw [← HTL.out]; rfl
                rw [this]; exact hO5
            case measure => simp [intOf]; omega
      · obtain rfl : i = n := by omega
        clear h hlt
        obtain ⟨hE0, hPs, hlen⟩ := hok.out.split (by rw [hps.out]; omega)
        have x1 := fun w h => path_Join ps A3 i c3 w h (by omega)
        have x2 := fun w => path_Split (toB (joinL ps)) w (by rw [toB_size]; omega)
        have x3 := fun w => path_Last (toB (joinL ps)) w (by rw [toB_size]; omega)
        rw [toB_data] at x2 x3
        rw [hE0, hPs] at x2
        have hg3 : ¬ (200 : Int) < (g : Int) := by omega
        rcases List.eq_nil_or_concat ps with rfl | ⟨Q, x, rfl⟩
        · obtain rfl : i = 0 := hps.out.symm
          rw [show lasE (joinL []) = 2 by decide +kernel] at x3
          have hlit := lit_eq (l := joinL []) (k := [47]) (by decide +kernel)
          generalize toB (joinL []) = p at *
          replace hlit := hlit _ rfl
          have H1 := hide x1
          have H2 := hide x2
          have H3 := hide x3
          clear x1 x2 x3 hE0 hPs hlen
          go_wp2_with fail
          refine (H1.out _ hO.sl).mono ?_
          rintro e w1 ⟨rfl, hE1⟩
          go_wp2_with fail
          refine (H2.out _).mono ?_
          rintro e w2 ⟨A2, n2, k2, rfl, hn2, hO2, hE2⟩
          obtain rfl : n2 = 0 := by have := hO2.len; rw [vT_len, mB_len] at this; exact this.symm
          go_wp2_with fail
          refine (H3.out _).mono ?_
          rintro e w3 ⟨rfl, hE3⟩
          go_wp2_with fail
          refine (law12_awake _).mono ?_
          rintro e w4 ⟨rfl, hE4⟩
          go_wp2_with fail
          go_ret
          exact ⟨rfl, hE.trans (hE1.trans (hE2.trans (hE3.trans hE4)))⟩
        · rw [List.concat_eq_append] at *
          obtain ⟨q1, q2, q3⟩ := hok.out.last (by rw [hps.out]; omega)
          rw [q1, q2, q3] at x3
          have hokQ : PtOk Q := fun p hp => hok.out p (by simp [hp])
          have hlQ : (Q ++ [x]).length = Q.length + 1 := by simp
          obtain ⟨hE0', hPs', hlen'⟩ := hokQ.split (by have := hps.out; omega)
          have x4 := fun w => path_Split (toB (joinL Q)) w (by rw [toB_size]; omega)
          rw [toB_data, hE0', hPs'] at x4
          have hi0 : ((i : Int) == 0) = false := by have := hps.out; simp; omega
          generalize toB (joinL (Q ++ [x])) = p at *
          generalize toB (joinL Q) = up at *
          have hxs : mB (Q ++ [x]) = mB Q ++ [toB x] := by simp [mB]
          generalize toB x = nm at *
          have H1 := hide x1
          have H2 := hide x2
          have H3 := hide x3
          have H4 := hide x4
          have HQ := hide hlQ
          have HXS := hide hxs
          clear x1 x2 x3 x4 hE0 hPs hlen q1 q2 q3 hokQ hE0' hPs' hlen' hlQ hxs
          go_wp2_with fail
          refine (H1.out _ hO.sl).mono ?_
          rintro e w1 ⟨rfl, hE1⟩
          go_wp2_with fail
          refine (H2.out _).mono ?_
          rintro e w2 ⟨A2, n2, k2, rfl, hn2, hO2, hE2⟩
          go_wp2_with fail
          refine (H3.out _).mono ?_
          rintro e w3 ⟨rfl, hE3⟩
          go_wp2_with fail
          refine (H4.out _).mono ?_
          rintro e w4 ⟨A4, n4, k4, rfl, hn4, hO4, hE4⟩
          obtain rfl : n4 = Q.length := by have := hO4.len; rw [vT_len, mB_len] at this; exact this.symm
          have hD4 := hE.trans (hE1.trans (hE2.trans (hE3.trans hE4)))
          have hS0 := hO.sl.ext (hE1.trans (hE2.trans (hE3.trans hE4)))
          have hS2 := hO2.sl.ext (hE3.trans hE4)
          have hqs : Q.length ≤ 20 := by have := HQ.out; have := hps.out; omega
          go_wp2_with fail
          refine (SameT hS2 hS0 rfl).mono ?_
          rintro e w5 ⟨rfl, k5, rfl⟩
          have hsz4 := (hE.trans (hE1.trans (hE2.trans hE3))).size
          go_wp2_with (at_builtin; refine appTG (by rfl) (.tmp 120) (.tmp 122) rfl w3.heap.size _ Q.length k4 _ rfl (hO4.ext (((Ext.refl _).drewN _).alloc _)) _ 1 1 _ rfl (Sl.lit _ #[.string nm] 9 1 rfl (by omega) (by simp [Value.oneCell'])) (by omega) (by have := hE4.size; simp; omega) ?_; intro A6 c6 w6 hO6 hG6)
          have hD6 := ((hD4.drewN k5).alloc (Obj.cells #[.string nm] 9)).grown hG6 (fun q hq => by have h1 := (hO4.block q hq).1; omega)
          have hK6 := (hO.ext ((((hE1.trans (hE2.trans (hE3.trans hE4))).drewN k5).alloc (Obj.cells #[.string nm] 9)))).kept hG6 (by
            rintro ⟨b, o, f⟩ rfl h
            have h1 : b < wr.heap.size := (hO.block _ rfl).2
            have h2 : w3.heap.size ≤ b := (hO4.block _ h.symm).1
            have := (hE1.trans (hE2.trans hE3)).size
            omega)
          have hL6 : Sl w6 A6 (Q.length + 1) c6 (vT (mB (Q ++ [x]))) := by
            have := hO6.sl
            rw [HXS.out, vT_append]
            exact this
          go_wp2_with fail
          refine (SameT hL6 hK6.sl rfl).mono ?_
          rintro e w7 ⟨rfl, k7, rfl⟩
          go_wp2_with fail
          refine (law12_awake _).mono ?_
          rintro e w8 ⟨rfl, hE8⟩
          go_wp2_with fail
          go_ret
          exact ⟨rfl, (hD6.drewN _).trans hE8⟩
end Go.Proofs.YtngffmchjjpfbaaDoor
