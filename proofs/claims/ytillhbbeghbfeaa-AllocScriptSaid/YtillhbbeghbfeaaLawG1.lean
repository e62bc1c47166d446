/- AllocNear. -/
import Derived.Test.YtillhbbeghbfeaaLawG
namespace Go.Proofs.Ytillhbbeghbfeaa
set_option linter.unusedVariables false
open Go.RowKit

/-- The first so many of sixteen. -/
def mkN : Nat → List Nat
  | 0 => zr 16
  | i + 1 => withB (mkN i) i true
theorem mkN_all : ((List.range 17).all fun i => decide (freeN 16 (mkN i) = 16 - i) && decide (hasB (mkN i) i = false)) = true := by decide +kernel
theorem mkN_free {i : Nat} (h : i ≤ 16) : freeN 16 (mkN i) = 16 - i := by
  have h1 := mkN_all
  rw [List.all_eq_true] at h1
  have h2 := h1 i (List.mem_range.2 (by omega))
  rw [Bool.and_eq_true] at h2
  exact of_decide_eq_true h2.1
theorem mkN_next {i : Nat} (h : i ≤ 16) : hasB (mkN i) i = false := by
  have h1 := mkN_all
  rw [List.all_eq_true] at h1
  have h2 := h1 i (List.mem_range.2 (by omega))
  rw [Bool.and_eq_true] at h2
  exact of_decide_eq_true h2.2
def nearT (G near i : Nat) : List (List Nat) := (List.replicate G (zr 16)).set near (mkN i)
theorem nearT_get {G near i k : Nat} (hk : k < G) (hn : near < G) : (nearT G near i)[k]? = some (if k = near then mkN i else zr 16) := by
  unfold nearT
  by_cases h : k = near
  · subst h
    rw [if_pos rfl, List.getElem?_set_self (by simpa using hk)]
  · rw [if_neg h, List.getElem?_set_ne (fun hh => h hh.symm), List.getElem?_replicate, if_pos hk]
theorem nearT_zero (G near : Nat) : nearT G near 0 = List.replicate G (zr 16) := by
  unfold nearT mkN
  by_cases h : near < G
  · apply List.ext_getElem?
    intro k
    by_cases hk : near = k
    · subst hk
      rw [List.getElem?_set_self (by simpa using h), List.getElem?_replicate, if_pos h]
    · rw [List.getElem?_set_ne hk]
  · rw [List.set_eq_of_length_le (by simpa using h)]
theorem nearT_succ (G near i : Nat) : (nearT G near i).set near (withB (mkN i) i true) = nearT G near (i + 1) := by
  unfold nearT
  rw [List.set_set]
  rfl
theorem scL_near {G near i k : Nat} (hk : k < G) (hn : near < G) (hi : i ≤ 16) : (scL (near : Int) 16 (nearT G near i) G).getD k 0 = if k = near then scF true (16 - i) 16 else scF false 16 16 := by
  rw [scL_get _ _ _ hk]
  unfold scOf
  rw [getD_row (nearT_get hk hn)]
  by_cases h : k = near
  · subst h
    rw [if_pos rfl, if_pos rfl, mkN_free hi]
    simp
  · rw [if_neg h, if_neg h, decide_eq_false (by omega)]
    rw [show freeN 16 (zr 16) = 16 from by decide +kernel]
def wantN (near f : Nat) : Nat := if 2 * f < 16 ∨ 2 * f = 16 ∧ (if near = 0 then 1 else 0) < near then (if near = 0 then 1 else 0) else near
theorem near_best {G near i : Nat} (hG : 2 ≤ G) (hn : near < G) (hi : i ≤ 16) : bestF (scL (near : Int) 16 (nearT G near i) G) = (wantN near (16 - i) : Nat) := by
  have hl := scL_len (near : Int) 16 (nearT G near i) G
  have hs := fun k (hk : k < G) => scL_near hk hn hi
  obtain ⟨c1, c2, c3⟩ := sc16 (f := 16 - i) (by omega)
  have n1 := scF_nan true (f := 16 - i) (t := 16) (by omega) (by omega) (by omega)
  have n2 := scF_nan false (f := 16) (t := 16) (by omega) (by omega) (by omega)
  generalize scL (near : Int) 16 (nearT G near i) G = xs at *
  generalize 16 - i = f at *
  apply bestF_some
  unfold BestIs
  rw [hl]
  unfold wantN
  by_cases h1 : 2 * f < 16
  · rw [if_pos (.inl h1)]
    have hlt := c1 h1
    by_cases hz : near = 0
    · rw [if_pos hz]
      rw [hs 1 (by omega), if_neg (by omega)]
      refine ⟨by omega, by rw [n2]; decide, fun j hj => ?_, fun j hj => ?_⟩
      · rw [hs j hj]; split <;> omega
      · rw [hs j (by omega), if_pos (by omega)]; exact hlt
    · rw [if_neg hz]
      rw [hs 0 (by omega), if_neg (by omega)]
      refine ⟨by omega, by rw [n2]; decide, fun j hj => ?_, fun j hj => by omega⟩
      rw [hs j hj]; split <;> omega
  · by_cases h2 : 2 * f = 16
    · have he := c2 h2
      by_cases hz : near = 0
      · rw [if_neg (by simp [hz]; omega)]
        subst hz
        rw [hs 0 hn, if_pos rfl]
        refine ⟨hn, by rw [n1, decide_eq_false (by omega)], fun j hj => ?_, fun j hj => by omega⟩
        rw [hs j hj]; split <;> omega
      · rw [if_pos (.inr ⟨h2, by rw [if_neg hz]; omega⟩), if_neg hz]
        rw [hs 0 (by omega), if_neg (by omega)]
        refine ⟨by omega, by rw [n2]; decide, fun j hj => ?_, fun j hj => by omega⟩
        rw [hs j hj]; split <;> omega
    · have hlt := c3 (by omega)
      rw [if_neg (by rintro (h | h) <;> omega)]
      rw [hs near hn, if_pos rfl]
      refine ⟨hn, by rw [n1, decide_eq_false (by omega)], fun j hj => ?_, fun j hj => ?_⟩
      · rw [hs j hj]; split <;> omega
      · rw [hs j (by omega), if_neg (by omega)]; exact hlt
theorem k88 : KF (scF false 8 8) < KF (scF true 8 8) := by decide +kernel
theorem node_best {G near : Nat} (hn : near < G) : bestF (scL (near : Int) 8 (List.replicate G (zr 8)) G) = (near : Int) := by
  have hl := scL_len (near : Int) 8 (List.replicate G (zr 8)) G
  have hs : ∀ k, k < G → (scL (near : Int) 8 (List.replicate G (zr 8)) G).getD k 0 = if k = near then scF true 8 8 else scF false 8 8 := by
    intro k hk
    rw [scL_get _ _ _ hk]
    unfold scOf
    rw [getD_row (xs := zr 8) (by rw [List.getElem?_replicate, if_pos hk])]
    rw [show freeN 8 (zr 8) = 8 from by decide +kernel]
    by_cases h : k = near
    · subst h; rw [if_pos rfl]; simp
    · rw [if_neg h, decide_eq_false (by omega)]
  have hk := k88
  have n1 := scF_nan true (f := 8) (t := 8) (by omega) (by omega) (by omega)
  generalize scL (near : Int) 8 (List.replicate G (zr 8)) G = xs at *
  apply bestF_some
  unfold BestIs
  rw [hl, hs near hn, if_pos rfl]
  refine ⟨hn, by rw [n1]; decide, fun j hj => ?_, fun j hj => ?_⟩
  · rw [hs j hj]; split <;> omega
  · rw [hs j (by omega), if_neg (by omega)]; exact hk
/-- What is the call's own and of another type is as it was. -/
theorem SpaceAt.beside {w w' : World} {B B' g e n c : Nat} {p : Pl} {G N M : Nat} {tn dn tb db : List (List Nat)} {A : Option Addr} {vs : List Value} (h : SpaceAt w B g p G N M tn dn tb db) {gs : List Nat} (hT : Turned gs w w')
    (hg : ∀ x ∈ gs, x ∈ [p.g1, p.g2, p.g3, p.g4]) (hO : Own w B' e A n c vs) (he : 43 ≠ e) : Own w' B' e A n c vs := by
  refine hT.own hO (hO.off (fun x hx ht => ?_))
  have := hg x hx
  simp at this
  rcases this with rfl | rfl | rfl | rfl
  · exact he (h.r1.tag.uniq ht)
  · exact he (h.r2.tag.uniq ht)
  · exact he (h.r3.tag.uniq ht)
  · exact he (h.r4.tag.uniq ht)
set_option maxRecDepth 100000 in
set_option maxHeartbeats 4000000 in
theorem law_AllocNear (w : World) (a : Int) (_a1 : -9223372036854775808 ≤ a) (_a2 : a ≤ 9223372036854775807) (b : Int) (_b1 : -9223372036854775808 ≤ b) (_b2 : b ≤ 9223372036854775807) (c : Int) (_c1 : -9223372036854775808 ≤ c) (_c2 : c ≤ 9223372036854775807) :
    Calls Try.prog 3 #[.int .i64 a, .int .i64 b, .int .i64 c] w fun e w' => e = .returned (.bool true) ∧ Ext w w' := by
  have hL1 := fun w => Low a 7 7 w rfl (by omega) (by omega)
  have hg7 := low_lt a (n := 7) (by omega)
  generalize low a 7 = G0 at *
  have hL2 := fun w => Low b ((2 : Int) + (G0 : Int)) (2 + G0) w (by omega) (by omega) (by omega)
  have hg8 := low_lt b (n := 2 + G0) (by omega)
  generalize low b (2 + G0) = near at *
  have hL3 := fun w => Low c 17 17 w rfl (by omega) (by omega)
  have hg9 := low_lt c (n := 17) (by omega)
  generalize low c 17 = taken at *
  obtain ⟨G, hGe⟩ : ∃ G, G = 2 + G0 := ⟨_, rfl⟩
  have hGi : (2 : Int) + (G0 : Int) = (G : Int) := by omega
  rw [← hGe] at hg8
  rw [hGi] at hL2
  have HGI := hide hGi
  have hGb : 2 ≤ G ∧ G ≤ 8 := by omega
  clear hGi hGe
  have hmay : mayG (G : Int) ((8 : Nat) : Int) ((16 : Nat) : Int) := by unfold mayG; omega
  have HN := hide (fun w => show Calls Try.prog 8 #[.agg (i64s (geo (G : Int) 8 16)).toArray] w fun e w' =>
    ∃ g p, e = .returned (.pointer (some ⟨g, 0, none⟩)) ∧ SpaceAt w' w.heap.size g p G 8 16 (List.replicate G (zr 8)) (List.replicate G (zr 8)) (List.replicate G (zr 16)) (List.replicate G (zr 16)) ∧ Ext w w' from alloc_New G 8 16 hmay w)
  have HF := hide (fun w => geom_First (G : Int) 8 16 (near : Int) w)
  have HSP := hide (fun i (hi : i < 16) => spot_of (G := G) (N := 8) (M := 16) hmay (show near < G by omega) hi)
  have hfy := fstG_bd (G : Int) 8 16 (near : Int)
  have HM := hide (hide hmay)
  go_enter Try.func3, Try.ntmps3
  go_wp2_with (first
    | (go_at_call 7; with_reducible refine (hL1 _).mono ?_; rintro e w' ⟨rfl, rfl⟩)
    | (go_at_call 7; with_reducible refine (hL2 _).mono ?_; rintro e w' ⟨rfl, rfl⟩)
    | (go_at_call 7; with_reducible refine (hL3 _).mono ?_; rintro e w' ⟨rfl, rfl⟩)
    | (with_reducible refine ag_alloc (o := ⟨some 7, _, _, _, _, _⟩) rfl 24 rfl _ 3 zero_geo rfl (by omega) (i64s_one _) w.heap.size (Nat.le_refl _) ?_; intro w1 hR1 hE1 hz1)
    | (with_reducible refine ag_store (o := ⟨none, _, _, _, _, _⟩) rfl 24 (.tmp 7) (.tmp 16) rfl w.heap.size 3 w.heap.size 24 _ (i64s (geo (2 + (G0 : Int)) 8 16)) rfl rfl hR1 rfl (i64s_one _) info_geo ?_; intro w2 hR2 hG2; rw [HGI.out] at hR2; have hc0 := (Own.geo hR2).1)
    | (with_reducible refine ag_load (o := ⟨some 23, _, _, _, _, _⟩) rfl 24 (.tmp 7) rfl w.heap.size 3 w.heap.size 24 _ rfl hR2 agg_geo info_geo ?_)
    | (go_at_call 8; with_reducible refine (HN.out _).mono ?_; rintro e w3 ⟨g, p, rfl, hS, hE3⟩))
  have hE2 : Ext w w2 := hE1.grown hG2 (by simp)
  have hR3 := hR2.ext hE3
  have hEW := hE2.trans hE3
  replace hS : SpaceAt w3 w2.heap.size g p G 8 16 (List.replicate G (zr 8)) (List.replicate G (zr 8)) (nearT G near 0) (List.replicate G (zr 16)) := by rw [nearT_zero]; exact hS
  have hsz2 := hE2.size
  go_loopw [9] (fun i wr => ∃ k : Nat, k ≤ taken ∧ i = .int .i64 k ∧ SpaceAt wr w2.heap.size g p G 8 16 (List.replicate G (zr 8)) (List.replicate G (zr 8)) (nearT G near k) (List.replicate G (zr 16)) ∧
    Own wr w.heap.size 24 (some ⟨w.heap.size, 0, none⟩) 3 3 (i64s (geo (G : Int) 8 16)) ∧ Ext w wr) (fun i _ => taken - (intOf i).toNat)
  case atStart => exact ⟨0, by omega, rfl, hS, hR3, hEW⟩
  case round =>
    obtain ⟨k, hk, rfl, hS, hR, hE⟩ := hrel
    by_cases hlt : k < taken
    · have hsp := HSP.out k (by omega)
      have hkg := nearT_get (G := G) (near := near) (i := k) (k := near) hg8 hg8
      rw [if_pos rfl] at hkg
      have hnx := mkN_next (i := k) (by omega)
      have HK := hide (And.intro hsp (And.intro hkg hnx))
      clear hsp hkg hnx
      go_wp2_with (first
        | (with_reducible refine ag_load (o := ⟨some 33, _, _, _, _, _⟩) rfl 24 (.tmp 7) rfl w.heap.size 3 w.heap.size 24 _ rfl hR agg_geo info_geo ?_)
        | (go_at_call 10; refine (HF.out _).mono ?_; rintro e w4 ⟨rfl, hE4⟩)
        | (go_at_call 9; refine (space_Mark2_ok (hS.ext hE4) HK.out.1 HK.out.2.1 HK.out.2.2).mono ?_; rintro e w5 ⟨rfl, hS5, hT5⟩))
      have hR5 := (hS.ext hE4).beside hT5 (by simp) (hR.ext hE4) (by decide)
      have hE5 := Turned.ext (hE.trans hE4) hT5 (fun x hx => by rw [List.mem_singleton] at hx; subst hx; have := hS.r3.base; omega)
      rw [nearT_succ] at hS5
      go_roundw
      case rel => exact ⟨k + 1, by omega, by go_num, hS5, hR5, hE5⟩
      case measure => simp [intOf]; omega
    · obtain rfl : k = taken := by omega
      have hB1 := space_Group hS (near : Int) false
      simp only [Bool.false_eq_true, if_false] at hB1
      rw [near_best hGb.1 hg8 (show k ≤ 16 by omega)] at hB1
      have hB2 := fun w' (hE' : Ext wr w') => (show Calls Try.prog 11 #[.pointer (some ⟨g, 0, none⟩), .int .i64 (near : Int), .bool true] w' fun e w'' => e = .returned (.int .i64 (near : Int)) ∧ Ext w' w'' by
        have := space_Group (hS.ext hE') (near : Int) true
        simp only [if_true] at this
        rwa [node_best hg8] at this)
      have HB2 := hide hB2
      clear hB2 hR2 hR3 hE3 hc0 hR1 hE1 hG2 HF HSP HM hmay HN hL1 hL2 hL3 HGI
      by_cases hz : (near : Int) = 0
      · have HB3 := hide (fun w' hE' => by have := HB2.out w' hE'; rw [hz] at this; exact this)
        rw [hz] at hB1
        by_cases h1 : 2 * (16 - (k : Int)) < 16
        · have e : wantN near (16 - k) = 1 := by unfold wantN; split <;> (try split) <;> omega
          rw [e] at hB1
          have HB1 := hide hB1
          clear hB1 e
          go_wp2_with (first
            | (go_at_call 11; with_reducible refine HB1.out.mono ?_; rintro e w4 ⟨rfl, hE4⟩)
            | (go_at_call 11; with_reducible refine (HB3.out _ hE4).mono ?_; rintro e w5 ⟨rfl, hE5⟩)
            | (go_at_call 12; with_reducible refine (law16_awake _).mono ?_; rintro e w6 ⟨rfl, hE6⟩))
          go_ret
          exact ⟨rfl, ((hE.trans hE4).trans hE5).trans hE6⟩
        · by_cases h2 : 2 * (16 - (k : Int)) = 16
          · have e : wantN near (16 - k) = 0 := by unfold wantN; split <;> (try split) <;> omega
            rw [e] at hB1
            have HB1 := hide hB1
            clear hB1 e
            go_wp2_with (first
              | (go_at_call 11; with_reducible refine HB1.out.mono ?_; rintro e w4 ⟨rfl, hE4⟩)
              | (go_at_call 11; with_reducible refine (HB3.out _ hE4).mono ?_; rintro e w5 ⟨rfl, hE5⟩)
              | (go_at_call 12; with_reducible refine (law16_awake _).mono ?_; rintro e w6 ⟨rfl, hE6⟩))
            go_ret
            exact ⟨rfl, ((hE.trans hE4).trans hE5).trans hE6⟩
          · have e : wantN near (16 - k) = 0 := by unfold wantN; split <;> (try split) <;> omega
            rw [e] at hB1
            have HB1 := hide hB1
            clear hB1 e
            go_wp2_with (first
              | (go_at_call 11; with_reducible refine HB1.out.mono ?_; rintro e w4 ⟨rfl, hE4⟩)
              | (go_at_call 11; with_reducible refine (HB3.out _ hE4).mono ?_; rintro e w5 ⟨rfl, hE5⟩)
              | (go_at_call 12; with_reducible refine (law16_awake _).mono ?_; rintro e w6 ⟨rfl, hE6⟩))
            go_ret
            exact ⟨rfl, ((hE.trans hE4).trans hE5).trans hE6⟩
      · by_cases h1 : 2 * (16 - (k : Int)) < 16
        · have e : wantN near (16 - k) = 0 := by unfold wantN; split <;> (try split) <;> omega
          rw [e] at hB1
          have HB1 := hide hB1
          clear hB1 e
          go_wp2_with (first
            | (go_at_call 11; with_reducible refine HB1.out.mono ?_; rintro e w4 ⟨rfl, hE4⟩)
            | (go_at_call 11; with_reducible refine (HB2.out _ hE4).mono ?_; rintro e w5 ⟨rfl, hE5⟩)
            | (go_at_call 12; with_reducible refine (law16_awake _).mono ?_; rintro e w6 ⟨rfl, hE6⟩))
          go_ret
          exact ⟨rfl, ((hE.trans hE4).trans hE5).trans hE6⟩
        · by_cases h2 : 2 * (16 - (k : Int)) = 16
          · have e : wantN near (16 - k) = 0 := by unfold wantN; split <;> (try split) <;> omega
            rw [e] at hB1
            have HB1 := hide hB1
            clear hB1 e
            go_wp2_with (first
              | (go_at_call 11; with_reducible refine HB1.out.mono ?_; rintro e w4 ⟨rfl, hE4⟩)
              | (go_at_call 11; with_reducible refine (HB2.out _ hE4).mono ?_; rintro e w5 ⟨rfl, hE5⟩)
              | (go_at_call 12; with_reducible refine (law16_awake _).mono ?_; rintro e w6 ⟨rfl, hE6⟩))
            go_ret
            exact ⟨rfl, ((hE.trans hE4).trans hE5).trans hE6⟩
          · have e : wantN near (16 - k) = near := by unfold wantN; split <;> (try split) <;> omega
            rw [e] at hB1
            have HB1 := hide hB1
            clear hB1 e
            go_wp2_with (first
              | (go_at_call 11; with_reducible refine HB1.out.mono ?_; rintro e w4 ⟨rfl, hE4⟩)
              | (go_at_call 11; with_reducible refine (HB2.out _ hE4).mono ?_; rintro e w5 ⟨rfl, hE5⟩)
              | (go_at_call 12; with_reducible refine (law16_awake _).mono ?_; rintro e w6 ⟨rfl, hE6⟩))
            go_ret
            exact ⟨rfl, ((hE.trans hE4).trans hE5).trans hE6⟩
end Go.Proofs.Ytillhbbeghbfeaa
