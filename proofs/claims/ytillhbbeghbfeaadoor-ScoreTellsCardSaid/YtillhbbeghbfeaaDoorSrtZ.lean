/- The statement ScorePlaces. -/
import Derived.Test.YtillhbbeghbfeaaDoorSrtB
namespace Go.Proofs.YtillhbbeghbfeaaDoor
set_option linter.unusedVariables false
set_option linter.unusedSimpArgs false
open Go.RowKit

theorem idx_succ (n : Nat) : idx (n + 1) = idx n ++ [(n : Int)] := by
  unfold idx
  rw [List.range_succ, List.map_append]
  rfl
theorem idx_filter (n : Nat) : (idx (n + 1)).filter (fun z => z != (n : Int)) = idx n := by
  rw [idx_succ, List.filter_append]
  have h1 : (idx n).filter (fun z => z != (n : Int)) = idx n := by
    rw [List.filter_eq_self]
    intro z hz
    have := idx_in n z hz
    simp
    omega
  rw [h1]
  simp
/-- A number more: the others stay as they were. -/
theorem places_rest {xs : List Nat} {y n : Nat} {Z Z' : List Int} (hn : xs.length = n) (h1 : Z.Pairwise (LT (KX xs))) (h2 : Z.Perm (idx n)) (h3 : Z'.Pairwise (LT (KX (xs ++ [y])))) (h4 : Z'.Perm (idx (n + 1))) : Z'.filter (fun z => z != (n : Int)) = Z := by
  have hp : (Z'.filter (fun z => z != (n : Int))).Perm (idx n) := by
    have := h4.filter (fun z => z != (n : Int))
    rwa [idx_filter] at this
  refine srt_uniq (K := KX xs) ?_ h1 (hp.trans h2.symm)
  refine (h3.filter _).imp_of_mem fun {a b} ha hb hab => ?_
  have ka := idx_in n a (hp.mem_iff.1 ha)
  have kb := idx_in n b (hp.mem_iff.1 hb)
  unfold LT KX at *
  rw [getD_app (by omega), getD_app (by omega)] at hab
  exact hab
set_option maxRecDepth 100000 in
set_option maxHeartbeats 8000000 in
theorem law_ScorePlaces (w : World) (A : Option Addr) (n cc : Nat) (zs : List Int) (h : Sl w A n cc (zs.map (Value.int .u64))) (hw : ∀ x ∈ zs, (Lit.int .u64 x).wf = true) (b : Int) (hb1 : 0 ≤ b) (hb2 : b ≤ 18446744073709551615) :
    Calls Tryd.prog 9 #[.slice A n cc, .int .u64 b] w fun e w' => e = .returned (.bool true) ∧ Ext w w' := by
  have hcm := h.cm
  have hnc := h.nc
  by_cases h30 : 20 < n
  · have i1 : (n : Int) > 20 := by omega
    go_enter Tryd.func9, Tryd.ntmps9
    go_wp2_with (go_at_call 17; refine (law1_awake _).mono ?_; rintro e w9 ⟨rfl, hE9⟩)
    go_ret
    exact ⟨rfl, hE9⟩
  have rb := run_from b
  have hy : b.toNat < 18446744073709551616 := by omega
  generalize b.toNat = y at *
  have hNum := hide (f_numbers w A n cc zs h hw (by omega))
  have hWd := Words.of64 hw
  have hlen : zs.length = n := by have := h.len; rwa [List.length_map] at this
  obtain ⟨xs, hxs⟩ : ∃ xs, xs = zs.map Int.toNat := ⟨_, rfl⟩
  rw [← hxs] at hNum hWd
  have hxl : xs.length = n := by rw [hxs, List.length_map]; exact hlen
  have HX := hide hxl
  have HW := hide hWd
  have HWq := hide (Words.append hWd (Words.one hy))
  have hn20 : n ≤ 20 := by omega
  clear h hw hlen hxs hxl hWd h30 hb1 hb2 hy
  have i1 : ¬ (n : Int) > 20 := by omega
  go_enter Tryd.func9, Tryd.ntmps9
  go_upto_region 4 with (go_at_call 25; with_reducible refine hNum.out.mono ?_; rintro e w1 ⟨A', c1, rfl, hO, hE⟩)
  have hOn := hO.sl.nc
  have hOm := hO.sl.cm
  go_wp2_with (first
    | (at_builtin; refine appF rfl (.const (.slice none 0 0)) (.tmp 17) rfl w1.heap.size none 0 0 [] rfl (Own.nilS _ _ _) _ n c1 _ rfl hO.sl (by omega) (Nat.le_refl _) ?_; intro A2 c2 w2 hO2 hG2; rw [Nat.zero_add, List.nil_append] at hO2; have hE2 : Ext w1 w2 := (Ext.refl w1).grown hG2 (fun q hq => by simp [Value.ownBlock] at hq); have hE2s := hE2.size)
    | (at_builtin; refine appF rfl (.tmp 18) (.tmp 21) rfl w1.heap.size A2 n c2 _ rfl (hO2.ext ((Ext.refl _).alloc _)) _ 1 1 _ rfl (Sl.lit w2 _ 24 1 rfl (by omega) (by simp [Value.oneCell'])) (by omega) (by simp; omega) ?_; intro A3 c3 w3 hO3 hG3))
  have hE3 : Ext w1 w3 := (hE2.alloc _).grown hG3 (fun q hq => (hO2.block q hq).1)
  have hO3' : Own w3 w1.heap.size 24 A3 (n + 1) c3 (fl (xs ++ [y])) := by rw [fl_append]; exact hO3
  refine (f_Order w3 A' n c1 xs (hO.ext hE3).sl HW.out (by omega)).mono ?_
  rintro e w4 ⟨g, c4, Z, rfl, hOZ, hE4, z1, z2⟩
  have hOrd := hide (f_Order w4 A3 (n + 1) c3 (xs ++ [y]) (hO3'.ext hE4).sl HWq.out (by omega))
  have hE4' := hE.trans (hE3.trans hE4)
  have hzn := hOZ.sl.nc
  have hzm := hOZ.sl.cm
  have HZ := hide (And.intro z1 z2)
  clear z1 z2 hO hO2 hO3 hG2 hG3 hE2 hE2s hE3 hE4 hO3' hNum hE rb
  go_upto_region 6 with (go_at_call 26; with_reducible refine hOrd.out.mono ?_; rintro e w5 ⟨g2, c5, Z', rfl, hOP, hE5, z3, z4⟩)
  have HP := hide (And.intro z3 z4)
  have hrest := hide (places_rest HX.out HZ.out.1 HZ.out.2 z3 z4)
  have hOZ5 := hOZ.ext hE5
  have hpn := hOP.sl.nc
  have hpm := hOP.sl.cm
  have hE5' := hE4'.trans hE5
  have hlp : Z'.length = n + 1 := by have := hOP.len; rwa [i64s_len] at this
  have HLP := hide hlp
  clear z3 z4 hOZ hE5 hE4' hOrd hlp
  go_wp2_with fail
  go_loopw [9, 10] (fun s v wr => ∃ (k m c6 : Nat) (A1 : Option Addr), k ≤ n + 1 ∧ m ≤ k ∧ v = .int .i64 k ∧ s = .slice A1 m c6 ∧ Own wr w5.heap.size 3 A1 m c6 (i64s ((Z'.take k).filter (fun z => z != (n : Int)))) ∧ Ext w5 wr) (fun _ v _ => n + 1 - (intOf v).toNat)
  case atStart => exact ⟨0, 0, 0, none, by omega, by omega, rfl, rfl, Own.nilS _ _ _, Ext.refl w5⟩
  case round =>
    obtain ⟨k, m, c6, A1, hk, hm, rfl, rfl, hO6, hE6⟩ := hrel
    by_cases hlt : k < n + 1
    · have i2 : (k : Int) < (n : Int) + 1 := by omega
      have i2' : (k : Int) < ((n + 1 : Nat) : Int) := by omega
      obtain ⟨zi, hzi, hzin⟩ := idx_at HP.out.2 hlt
      have hci := (hOP.ext hE6).atI hzi
      have htk : Z'.take (k + 1) = Z'.take k ++ [(zi : Int)] := by rw [List.take_add_one, hzi]; rfl
      by_cases hzz : zi = n
      · have e1 : ((zi : Int) != (n : Int)) = false := by simp; omega
        have HS := hide (show (Z'.take (k + 1)).filter (fun z => z != (n : Int)) = (Z'.take k).filter (fun z => z != (n : Int)) by rw [htk, List.filter_append]; simp [e1])
        clear htk hzi hzz
        go_wp2_with fail
        go_roundw
        case rel => exact ⟨k + 1, m, c6, A1, by omega, by omega, by go_num, rfl, by rw [HS.out]; exact hO6, hE6⟩
        case measure => simp [intOf]; omega
      · have e1 : ((zi : Int) != (n : Int)) = true := by simp; omega
        have HS := hide (show (Z'.take (k + 1)).filter (fun z => z != (n : Int)) = (Z'.take k).filter (fun z => z != (n : Int)) ++ [(zi : Int)] by rw [htk, List.filter_append]; simp [e1])
        have hE6s := hE6.size
        clear htk hzi hzz
        go_wp2_with (at_builtin; refine appI rfl (.tmp 52) (.tmp 57) rfl w5.heap.size _ m c6 _ rfl (hO6.ext ((Ext.refl _).alloc _)) _ 1 1 _ rfl (Sl.lit wr _ 3 1 rfl (by omega) (by simp [Value.oneCell'])) (by omega) (by simp; omega) ?_; intro A7 c7 w7 hO7 hG7)
        go_roundw
        case rel => exact ⟨k + 1, m + 1, c7, A7, by omega, by omega, by go_num, rfl, by rw [HS.out, i64s_append]; exact hO7, (hE6.alloc _).grown hG7 (fun q hq => (hO6.block q hq).1)⟩
        case measure => simp [intOf]; omega
    · obtain rfl : k = n + 1 := by omega
      have i2 : ¬ ((n + 1 : Nat) : Int) < ((n + 1 : Nat) : Int) := by omega
      rw [List.take_of_length_le (by rw [HLP.out]; omega), hrest.out] at hO6
      have hS0 := SameInts A1 (some ⟨g, 0, none⟩) m c6 n c4 Z Z wr hO6.sl (hOZ5.ext hE6).sl
      rw [show decide (Z = Z) = true by simp] at hS0
      have HSm := hide hS0
      clear hS0
      have hEf := hE5'.trans hE6
      clear hO6 hOZ5 hOP hE5' hE6
      go_wp2_with (first
        | (go_at_call 28; with_reducible refine HSm.out.mono ?_; rintro e w8 ⟨rfl, q8, rfl⟩)
        | (go_at_call 17; refine (law1_awake _).mono ?_; rintro e w9 ⟨rfl, hE9⟩))
      go_ret
      exact ⟨rfl, (hEf.drewN _).trans hE9⟩
end Go.Proofs.YtillhbbeghbfeaaDoor
