/- The second statement on where things stand on a disk. -/
import Derived.Test.YthbdnaogjmnagaaLaw5
import Derived.Test.YthbdnaogjmnagaaGeoQ
import Derived.Test.YthbdnaogjmnagaaApart
import Derived.Test.YthbdnaogjmnagaaInts
import Derived.Deep.DeepCutAuto
namespace Go.Proofs.Ythbdnaogjmnagaa
set_option linter.unusedVariables false
open Go.RowKit

theorem mkI {w : World} {ops : Array Oper} {rest : List Oper} {o : Oper} {a : Act} {Q : Exit → Act → World → Prop}
    (hg : o.guard = none) (l cp : Operand) (hop : o.op = Op.makeSlice 32 l cp)
    (kl kc : IntKind) (L C : Int) (n c : Nat) (hl : a.eval l = .int kl L) (hc : a.eval cp = .int kc C) (hL : L = n) (hC : C = c) (hnc : n ≤ c) (hbytes : c ≤ 1000000000)
    (B : Nat) (hB : B ≤ w.heap.size)
    (hK : ∀ w', Own w' B 3 (some ⟨w.heap.size, 0, none⟩) c c (List.replicate c (.int .i64 0)) → Ext w w' → w.heap.size < w'.heap.size → wpList Try.prog ops Q rest (a.put o.dst (.slice (some ⟨w.heap.size, 0, none⟩) n c)) w') :
    wpList Try.prog ops Q (o :: rest) a w :=
  wpList_mk hg l cp 32 hop 3 (.int .i64 0) 8 Try.underlying32 info_intT rfl rfl kl kc L C n c hl hc hL hC hnc (by omega) (by omega) B hB (fun w' h1 h2 => hK w' h1 h2 (by
    obtain ⟨g, _, _, hg3⟩ : ∃ g, (some (⟨w.heap.size, 0, none⟩ : Addr)) = some ⟨g, 0, none⟩ ∧ B ≤ g ∧ g < w'.heap.size := by
      have := h1.block w.heap.size rfl
      exact ⟨w.heap.size, rfl, this.1, this.2⟩
    have := h1.block w.heap.size rfl
    exact this.2))
theorem ones_start {a b c : Int} (hm : mayG a b c) (N : Nat) (h2 : 2 ≤ N) : ((List.replicate N (Value.int .i64 0)).set 0 (.int .i64 1)).set 1 (.int .i64 1) = i64s (mapR (cntG b c 0 1 0) N) := by
  have e : List.replicate N (Value.int .i64 0) = i64s (List.replicate N 0) := by simp [i64s]
  rw [e, i64s_set, i64s_set]
  congr 1
  apply List.ext_getElem?
  intro i
  rw [List.getElem?_set, List.getElem?_set]
  by_cases hi : i < N
  · rw [mapR_get hi, cnt_start hm i (by omega)]
    by_cases h1 : 1 = i
    · subst h1; simp; omega
    · rw [if_neg h1]
      by_cases h0 : 0 = i
      · subst h0; simp; omega
      · rw [if_neg h0, if_neg (by omega)]; simp [hi]
  · have e2 : (mapR (cntG b c 0 1 0) N)[i]? = none := List.getElem?_eq_none (by rw [mapR_len]; omega)
    rw [e2, if_neg (by omega), if_neg (by omega)]
    simp; omega

set_option maxRecDepth 100000 in
set_option maxHeartbeats 4000000 in
theorem law_GeomParts (w : World) (x : Int) (_x1 : -9223372036854775808 ≤ x) (_x2 : x ≤ 9223372036854775807) (y : Int) (_y1 : -9223372036854775808 ≤ y) (_y2 : y ≤ 9223372036854775807) (z : Int) (_z1 : -9223372036854775808 ≤ z) (_z2 : z ≤ 9223372036854775807) :
    Calls Try.prog 4 #[.int .i64 x, .int .i64 y, .int .i64 z] w fun e w' => e = .returned (.bool true) ∧ Ext w w' := by
  clear _x1 _x2 _y1 _y2 _z1 _z2
  go_enter Try.func4, Try.ntmps4
  go_wp2_with fail
  refine (Low x _ 8 _ rfl (by omega) (by omega)).mono ?_
  rintro e w1 ⟨rfl, rfl⟩
  have hp := low_lt x (n := 8) (by omega)
  generalize low x 8 = p at *
  go_wp2_with fail
  refine (Low y _ 8 _ rfl (by omega) (by omega)).mono ?_
  rintro e w1 ⟨rfl, rfl⟩
  have hq := low_lt y (n := 8) (by omega)
  generalize low y 8 = q at *
  go_wp2_with fail
  refine (Low z _ 81 _ rfl (by omega) (by omega)).mono ?_
  rintro e w1 ⟨rfl, rfl⟩
  have hr := low_lt z (n := 81) (by omega)
  generalize low z 81 = r at *
  go_upto_region 2 with fail
  generalize hP : (1 : Int) + (p : Int) = a at *
  generalize hQ : (4 : Int) + 4 * (q : Int) = b at *
  generalize hR : (16 : Int) + (r : Int) = c at *
  have hm : mayG a b c := by unfold mayG; omega
  have bd : (1 ≤ a ∧ a ≤ 8) ∧ (4 ≤ b ∧ b ≤ 32) ∧ (16 ≤ c ∧ c ≤ 96) := by omega
  clear hP hQ hR hp hq hr
  have o0 : Own (w.alloc (.cells #[.int .i64 a, .int .i64 b, .int .i64 c] 23)) w.heap.size 23 (some ⟨w.heap.size, 0, none⟩) 3 3 (i64s (geo a b c)) :=
    Own.made (Nat.le_refl _) #[.int .i64 a, .int .i64 b, .int .i64 c] 3 (by simp [maxLen]) (Nat.le_refl _) rfl (by simp [Value.oneCell'])
  have hE : Ext w (w.alloc (.cells #[.int .i64 a, .int .i64 b, .int .i64 c] 23)) := (Ext.refl w).alloc _
  have hz : w.heap.size < (w.alloc (.cells #[.int .i64 a, .int .i64 b, .int .i64 c] 23)).heap.size := by simp
  generalize w.alloc (.cells #[.int .i64 a, .int .i64 b, .int .i64 c] 23) = w0 at *
  have s0 := fun w => geom_Sectors a b c w
  have s1 := secG_bd a b c
  have s2 := secG_sz hm
  obtain ⟨N, hN⟩ := Int.eq_ofNat_of_zero_le s1.1
  rw [hN] at s0 s1 s2
  have HM := hide hm
  have HN := hide hN
  clear hm hN
  obtain ⟨⟨a1, a2⟩, ⟨b1, b2⟩, c1, c2⟩ := bd
  have n1 : N ≤ 842 := by omega
  have n2 : 20 ≤ N := by omega
  clear s1 s2
  go_wp2_with (with_reducible refine ag_load rfl 23 (.tmp 7) rfl w.heap.size 3 w.heap.size 23 _ rfl o0 agg_geo info_geo ?_)
  refine (s0 _).mono ?_
  clear s0
  rintro e w1 ⟨rfl, hE1⟩
  replace o0 := o0.ext hE1
  replace hz : w.heap.size < w1.heap.size := Nat.lt_of_lt_of_le hz hE1.size
  replace hE := hE.trans hE1
  clear hE1
  go_upto_region 6 with (with_reducible refine mkI rfl (.tmp 41) (.tmp 41) rfl .i64 .i64 _ _ N N rfl rfl rfl rfl (by omega) (by omega) w.heap.size (by omega) ?_; intro w2 hI hE2 hz2)
  replace o0 := o0.ext hE2
  replace hE := hE.trans hE2
  generalize hg : w1.heap.size = g at *
  clear hE2 hg
  have i0 := hI.cellAt 0 (by omega)
  have i1 := hI.cellAt 1 (by omega)
  rw [List.getElem?_replicate, if_pos (by omega)] at i0 i1
  have fz0 := hI.frozenAt 0
  have fz1 := hI.frozenAt 1
  have hN0 : (0 : Int) < N := by omega
  have hN1 : (1 : Int) < N := by omega
  go_upto_region 7 with fail
  have hI2 := (hI.store 0 (.int .i64 1) rfl).store 1 (.int .i64 1) rfl
  have o02 := (o0.other (g := g) (by omega) 0 (.int .i64 1)).other (g := g) (by omega) 1 (.int .i64 1)
  have hE2 := (hE.setCell (p := ⟨g, 0, none⟩) (by simp; omega) (.int .i64 1)).setCell (p := ⟨g, 1, none⟩) (by simp; omega) (.int .i64 1)
  rw [ones_start HM.out N (by omega)] at hI2
  clear hI o0 hE i0 i1 fz0 fz1 hN0 hN1
  generalize (w2.setCell ⟨g, 0, none⟩ (.int .i64 1)).setCell ⟨g, 1, none⟩ (.int .i64 1) = w3 at *
  go_wp2
  go_loopw [10] (fun i wr => ∃ k : Int, (0 ≤ k ∧ k ≤ a) ∧ i = .int .i64 k ∧ Own wr w.heap.size 23 (some ⟨w.heap.size, 0, none⟩) 3 3 (i64s (geo a b c)) ∧ Own wr w.heap.size 3 (some ⟨g, 0, none⟩) N N (i64s (mapR (cntG b c k 1 0) N)) ∧ Ext w wr) (fun i _ => (a - intOf i).toNat)
  case atStart => exact ⟨0, by omega, rfl, o02, hI2, hE2⟩
  case round =>
    clear o02 hI2 hE2 hz2
    obtain ⟨k, ⟨k0, k1⟩, rfl, o0, hI, hE⟩ := hrel
    obtain ⟨e0, e1, e2⟩ := Own.geo o0
    by_cases hlt : k < a
    · obtain ⟨⟨_, g1, g2⟩, g3, g4⟩ := cnt_group HM.out k0 hlt 1 0
      have hG := fun w => geom_Group a b c k w
      obtain ⟨s, hs⟩ := Int.eq_ofNat_of_zero_le (show 0 ≤ grpG a b c k by omega)
      rw [hs] at hG g1 g2 g3 g4
      rw [HN.out] at g2
      have G3 := hide g3
      have G4 := hide g4
      clear g3 g4 hs
      go_wp2_with (with_reducible refine ag_load rfl 23 (.tmp 7) rfl w.heap.size 3 w.heap.size 23 _ rfl o0 agg_geo info_geo ?_)
      refine (hG _).mono ?_
      rintro e w5 ⟨rfl, hE5⟩
      replace o0 := o0.ext hE5
      replace hI := hI.ext hE5
      replace hE := hE.trans hE5
      have hc := hI.cellAt s (by omega)
      rw [i64s_get (mapR_get (by omega)), G3.out] at hc
      have fz := hI.frozenAt s
      have hI' := hI.store s (.int .i64 1) rfl
      rw [i64s_set, mapR_set (g := cntG b c (k + 1) 1 0) (fun i _ => G4.out i)] at hI'
      have o0' := o0.other (g := g) (by omega) s (.int .i64 1)
      have hE' := hE.setCell (p := ⟨g, s, none⟩) (by simp; omega) (.int .i64 1)
      clear hG hE5 e0 e1 e2
      go_wp2
      go_roundw
      case rel => exact ⟨k + 1, by omega, rfl, o0', hI', hE'⟩
      case measure => simp [intOf]; omega
    · obtain rfl : a = k := by omega
      have j1 := inosG_bd a b c
      have hI0 := fun w => geom_Inodes a b c w
      obtain ⟨M, hM⟩ : ∃ M : Int, inosG a b c = M := ⟨_, rfl⟩
      rw [hM] at j1 hI0
      have HI := hide hM
      clear hM e1 e2 k0 k1
      go_wp2
      clear e0 hlt
      go_loopw [12] (fun i wr => ∃ k : Int, (1 ≤ k ∧ k ≤ M + 1) ∧ i = .int .i64 k ∧ Own wr w.heap.size 23 (some ⟨w.heap.size, 0, none⟩) 3 3 (i64s (geo a b c)) ∧ Own wr w.heap.size 3 (some ⟨g, 0, none⟩) N N (i64s (mapR (cntG b c a k 0) N)) ∧ Ext w wr) (fun i _ => (M + 1 - intOf i).toNat)
      case atStart => exact ⟨1, by omega, rfl, o0, hI, hE⟩
      case round =>
        clear o0 hI hE
        obtain ⟨k, ⟨k0, k1⟩, rfl, o0, hI, hE⟩ := hrel
        go_wp2_with (with_reducible refine ag_load rfl 23 (.tmp 7) rfl w.heap.size 3 w.heap.size 23 _ rfl o0 agg_geo info_geo ?_)
        refine (hI0 _).mono ?_
        rintro e w5 ⟨rfl, hE5⟩
        replace o0 := o0.ext hE5
        replace hI := hI.ext hE5
        replace hE := hE.trans hE5
        clear hE5
        by_cases hlt : k ≤ M
        · obtain ⟨⟨⟨q1, q2⟩, ⟨q3, q4⟩, ⟨q5, q6⟩, ⟨q7, q8⟩, q9⟩, t1, t2⟩ := cnt_inode HM.out k0 (by rw [HI.out]; exact hlt) a 0
          have hG := fun w => geom_Inode a b c k w (by omega)
          have hO := fun w => geom_OfInode a b c k w (by omega)
          obtain ⟨s, hs⟩ := Int.eq_ofNat_of_zero_le (show 0 ≤ inoS a b c k by omega)
          rw [hs] at hG q1 q2 t1
          rw [HN.out] at q2
          have T1 := hide t1
          have T2 := hide t2
          clear t1 t2 hs
          generalize inoA a b c k = A1 at *
          generalize oinK a b c k = K1 at *
          generalize oinI a b c k = J1 at *
          have m1 : 0 ≤ K1 * b := Int.mul_nonneg q5 (by omega)
          have m2 : K1 * b ≤ 256 := by omega
          have m3 : (K1 * b + J1 != k - 1) = false := by rw [bne_eq_false_iff_eq]; exact q9
          clear q9
          go_wp2_with (with_reducible refine ag_load rfl 23 (.tmp 7) rfl w.heap.size 3 w.heap.size 23 _ rfl o0 agg_geo info_geo ?_)
          refine (hG _).mono ?_
          rintro e w6 ⟨rfl, hE6⟩
          replace o0 := o0.ext hE6
          replace hI := hI.ext hE6
          replace hE := hE.trans hE6
          clear hE6
          go_wp2_with (with_reducible refine ag_load rfl 23 (.tmp 7) rfl w.heap.size 3 w.heap.size 23 _ rfl o0 agg_geo info_geo ?_)
          refine (hO _).mono ?_
          rintro e w7 ⟨rfl, hE7⟩
          replace o0 := o0.ext hE7
          replace hI := hI.ext hE7
          replace hE := hE.trans hE7
          obtain ⟨e0, e1, e2⟩ := Own.geo o0
          clear hE7 hG hO
          by_cases hA : A1 = 0
          · have t0 : (A1 == 0) = true := by simp [hA]
            obtain ⟨G3, G4⟩ := T1.out hA
            have hc := hI.cellAt s (by omega)
            rw [i64s_get (mapR_get (by omega)), G3] at hc
            have fz := hI.frozenAt s
            have hI' := hI.store s (.int .i64 1) rfl
            rw [i64s_set, mapR_set (g := cntG b c a (k + 1) 0) (fun i _ => G4 i)] at hI'
            have o0' := o0.other (g := g) (by omega) s (.int .i64 1)
            have hE' := hE.setCell (p := ⟨g, s, none⟩) (by simp; omega) (.int .i64 1)
            clear T1 T2 hA G3 G4
            go_wp2
            go_roundw
            case rel => exact ⟨k + 1, by omega, rfl, o0', hI', hE'⟩
            case measure => simp [intOf]; omega
          · have t0 : (A1 == 0) = false := by simp [hA]
            have G4 := T2.out hA
            rw [← mapR_congr (g := cntG b c a (k + 1) 0) (fun i _ => G4 i)] at hI
            clear T1 T2 hA G4
            go_wp2
            go_roundw
            case rel => exact ⟨k + 1, by omega, rfl, o0, hI, hE⟩
            case measure => simp [intOf]; omega
        · obtain rfl : k = M + 1 := by omega
          go_wp2
          clear hlt k0 k1
          have ms := many_start (b := b) (c := c)
          have MS := hide ms
          clear ms
          go_loopw [17, 18] (fun u i wr => ∃ (m : Int) (k : Nat), (k ≤ N ∧ 0 ≤ m ∧ m ≤ k) ∧ u = .int .i64 m ∧ i = .int .i64 k ∧ Hid (m = manyG b c k) ∧ Own wr w.heap.size 23 (some ⟨w.heap.size, 0, none⟩) 3 3 (i64s (geo a b c)) ∧ Own wr w.heap.size 3 (some ⟨g, 0, none⟩) N N (i64s (mapR (cntG b c a (M + 1) (k : Int)) N)) ∧ Ext w wr) (fun _ i _ => N - (intOf i).toNat)
          case atStart => exact ⟨0, 0, by omega, rfl, rfl, MS.out.symm, o0, hI, hE⟩
          case round =>
            clear o0 hI hE MS
            obtain ⟨m, k, ⟨k0, k1, k2⟩, rfl, rfl, HMN, o0, hI, hE⟩ := hrel
            by_cases hlt : k < N
            · have hB := fun w => geom_OfBlock a b c k w
              have hK := cnt_block HM.out (s := (k : Int)) (by omega) (by rw [HN.out]; omega) a (M + 1)
              have hF := fun k' w => geom_First a b c k' w
              generalize oblK a b c (k : Int) = K1 at *
              generalize oblI a b c (k : Int) = J1 at *
              go_wp2_with (with_reducible refine ag_load rfl 23 (.tmp 7) rfl w.heap.size 3 w.heap.size 23 _ rfl o0 agg_geo info_geo ?_)
              refine (hB _).mono ?_
              rintro e w6 ⟨rfl, hE6⟩
              replace o0 := o0.ext hE6
              replace hI := hI.ext hE6
              replace hE := hE.trans hE6
              clear hE6 hB
              rcases hK with ⟨q1, q2, q3, ⟨q5, q6⟩, q7, q8, q9⟩ | ⟨q1, q2, q3⟩
              · have t3 : decide (0 ≤ K1) = true := by simp; exact q1
                have hFF := fun w => hF K1 w
                have fb := fstG_bd a b c K1
                generalize fstG a b c K1 = F1 at *
                have t4 : (F1 + J1 != (k : Int)) = false := by rw [bne_eq_false_iff_eq]; exact q3
                have HMN' : Hid (m + 1 = manyG b c ((k + 1 : Nat) : Int)) := by show _ = _; rw [show ((k + 1 : Nat) : Int) = (k : Int) + 1 from rfl, q8, HMN.out]
                have hc := hI.cellAt k (by omega)
                rw [i64s_get (mapR_get (by omega)), q7] at hc
                have fz := hI.frozenAt k
                have hI' := hI.store k (.int .i64 1) rfl
                rw [i64s_set, mapR_set (g := cntG b c a (M + 1) ((k + 1 : Nat) : Int)) (fun i _ => q9 i)] at hI'
                have o0' := o0.other (g := g) (by omega) k (.int .i64 1)
                have hE' := hE.setCell (p := ⟨g, k, none⟩) (by simp; omega) (.int .i64 1)
                clear q3 q7 q8 q9 hF hI o0 hE
                go_upto_region 31 with fail
                clear hc fz
                generalize w6.setCell ⟨g, k, none⟩ (.int .i64 1) = w7 at *
                go_wp2_with (with_reducible refine ag_load rfl 23 (.tmp 7) rfl w.heap.size 3 w.heap.size 23 _ rfl o0' agg_geo info_geo ?_)
                refine (hFF _).mono ?_
                rintro e w8 ⟨rfl, hE8⟩
                go_wp2
                go_roundw
                case rel => exact ⟨m + 1, k + 1, by omega, rfl, by go_num, HMN', o0'.ext hE8, hI'.ext hE8, hE'.trans hE8⟩
                case measure => simp [intOf]; omega
              · have t3 : decide (0 ≤ K1) = false := by simp; omega
                have HMN' : Hid (m = manyG b c ((k + 1 : Nat) : Int)) := by show _ = _; rw [show ((k + 1 : Nat) : Int) = (k : Int) + 1 from rfl, q2, HMN.out]
                rw [← mapR_congr (g := cntG b c a (M + 1) ((k + 1 : Nat) : Int)) (fun i _ => q3 i)] at hI
                clear q1 q2 q3 hF
                go_wp2
                go_roundw
                case rel => exact ⟨m, k + 1, by omega, rfl, by go_num, HMN', o0, hI, hE⟩
                case measure => simp [intOf]; omega
            · obtain rfl : N = k := by omega
              have hme := many_end HM.out
              rw [HN.out, ← HMN.out] at hme
              have hB0 := fun w => geom_Blocks a b c w
              rw [← hme] at hB0
              have ends : ∀ s : Nat, s < N → cntG b c a (M + 1) (N : Int) (s : Int) = 1 := fun s hs => by
                have := cnt_end HM.out (s := (s : Int)) (by omega) (by rw [HN.out]; omega)
                rwa [HI.out, HN.out] at this
              have ENDS := hide ends
              clear ends hme HMN hlt
              go_wp2
              go_loop [21] (fun i => ∃ k : Nat, k ≤ N ∧ i = .int .i64 k) (fun i => N - (intOf i).toNat)
              case atStart => exact ⟨0, by omega, rfl⟩
              case round =>
                obtain ⟨k, hk, rfl⟩ := hrel
                by_cases hlt : k < N
                · have hc := hI.cellAt k (by omega)
                  rw [i64s_get (mapR_get (by omega)), ENDS.out k hlt] at hc
                  have hi1 : (k : Int) < (N : Int) := by omega
                  go_wp2
                  go_round
                  case rel => exact ⟨k + 1, by omega, by go_num⟩
                  case measure => simp [intOf]; omega
                · go_wp2_with (with_reducible refine ag_load rfl 23 (.tmp 7) rfl w.heap.size 3 w.heap.size 23 _ rfl o0 agg_geo info_geo ?_)
                  refine (hB0 _).mono ?_
                  rintro e w8 ⟨rfl, hE8⟩
                  go_wp2_with fail
                  refine (law5_awake _).mono ?_
                  rintro e w9 ⟨rfl, hE9⟩
                  go_wp2
                  go_ret
                  exact ⟨rfl, hE.trans (hE8.trans hE9)⟩
end Go.Proofs.Ythbdnaogjmnagaa
