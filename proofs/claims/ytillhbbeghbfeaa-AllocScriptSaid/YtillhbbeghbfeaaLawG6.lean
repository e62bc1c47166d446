/- AllocScript. -/
import Derived.Test.YtillhbbeghbfeaaRfl
namespace Go.Proofs.Ytillhbbeghbfeaa
set_option linter.unusedVariables false
set_option linter.unusedSimpArgs false
open Go.RowKit

section
variable {P : Program} {ops : Array Oper} {Q : Exit → Act → World → Prop} {md : Region.Mode} {S : World → Prop} {pv : Nat} {fuel : Nat} {listed : Array Bool} {a : Act} {w : World} {oi : Oper} {rest : List Oper}
theorem piv_loadAt (i : Nat) (hi : ops.toList.drop i = oi :: rest) (hs : Region.noSelect ops = true) (hf : Region.free md ops listed i = true) (hr : (Region.ready md ops listed).contains i = true) (hp : waitsFor md ops pv i = true) (hpl : listed.getD pv true = false)
    (hQ : ∀ (v : Value) c a w, Q (.panic c) (a.put oi.dst v) w → Q (.panic c) a w) (hw : Region.wanted oi (yielded ops a.tmps) = true)
    (ty : TypeId) (x : Operand) (ho : oi.op = .load ty x) (b off : Nat) (cs : List Value) (d : TypeDesc) (hx : a.eval x = .pointer (some ⟨b, off, none⟩)) (hS' : ∀ w, S w → w.rangeAt b off cs)
    (hu : P.underlying ty = some d) (hd : d.isRow = true) (hin : (P.info? ty).map (·.size) = some cs.length) (hS : S w)
    (h : wpAnyP P md ops Q S pv fuel (listed.setIfInBounds i true) (a.put oi.dst (.agg cs.toArray)) w) : wpAnyP P md ops Q S pv (fuel + 1) listed a w :=
  wpAnyP_first (piv_get hi) (Region.noSelect_spec hs) (hQ _) hp fuel listed a w (Region.free_spec (piv_get hi) hf) (by simpa using hr) (yieldsIf_load_mid hw ty x ho b off hx cs d hS' hu hd hin) hpl hS h
end
/-- Where the law stands in its loop. -/
def ScrAt (w : World) (B g : Nat) (p : Pl) (B2 g2 : Nat) (q : Ql) (G N M n gl : Nat) (i : Value) (wr : World) : Prop :=
  ∃ (k : Nat) (l0 l1 : Int) (tn dn tb db : List (List Nat)), k ≤ n ∧ i = .int .i64 k ∧ -9223372036854775808 ≤ l0 ∧ Own wr w.heap.size 36 (some ⟨gl, 0, none⟩) 2 2 (i64s [l0, l1]) ∧ Both w wr B g p B2 g2 q G N M tn dn tb db
set_option maxRecDepth 100000 in
set_option maxHeartbeats 4000000 in
theorem law_AllocScript (w : World) (is : List Int) (hl : is.length = 3) (_hp : ∀ p ∈ is, -9223372036854775808 ≤ p ∧ p ≤ 9223372036854775807) (A : Option Addr) (n c : Nat) (hI : ActIn w A n c) :
    Calls Try.prog 4 #[.agg (i64s is).toArray, .slice A n c] w fun e w' => e = .returned (.bool true) ∧ Ext w w' := by
  obtain ⟨x, y, z, rfl⟩ := geo_of hl
  have hn1 := hI.nc
  have hn2 := hI.cm
  clear hl _hp
  by_cases l1 : (80 : Int) < n
  · go_enter Try.func4, Try.ntmps4
    go_wp2_with (first
      | (with_reducible refine ag_box (o := ⟨some 2, _, _, _, _, _⟩) rfl 24 (.tmp 0) rfl _ 3 rfl rfl (by omega) (i64s_one _) w.heap.size (Nat.le_refl _) ?_; intro w1 hX1 hE1 hz1)
      | (go_at_call 12; refine (law16_awake _).mono ?_; rintro e w2 ⟨rfl, hE2⟩))
    go_ret
    exact ⟨rfl, hE1.trans hE2⟩
  by_cases hmay : mayG x y z
  rotate_left
  · have HN1 := hide (fun w => alloc_New_no x y z hmay w)
    have HN2 := hide (fun w => ref_New_no x y z hmay w)
    clear hmay
    go_enter Try.func4, Try.ntmps4
    go_wp2_with (first
      | (with_reducible refine ag_box (o := ⟨some 2, _, _, _, _, _⟩) rfl 24 (.tmp 0) rfl _ 3 rfl rfl (by omega) (i64s_one _) w.heap.size (Nat.le_refl _) ?_; intro w1 hX1 hE1 hz1))
    have hu := Try.underlying24
    refine wp_region_held_drew (S := (fun w' => w'.rangeAt w.heap.size 0 (i64s (geo x y z)))) (by kernel_rfl) (hX1).range (fun hHeld => ?_)
    refine held_load 0 rfl (by kernel_rfl) (by kernel_rfl) (by kernel_rfl) (fun _ _ _ _ h => h) (by rfl) 24 (.tmp 2) rfl w.heap.size (i64s (geo x y z)) _ rfl (fun wx hSx => hSx) hu rfl info_geo (by assumption) ?_
    (try simp only [Act.put, List.setIfInBounds_toArray, List.set_cons_zero, List.set_cons_succ])
    refine held_load 2 rfl (by kernel_rfl) (by kernel_rfl) (by kernel_rfl) (fun _ _ _ _ h => h) (by rfl) 24 (.tmp 2) rfl w.heap.size (i64s (geo x y z)) _ rfl (fun wx hSx => hSx) hu rfl info_geo (by assumption) ?_
    (try simp only [Act.put, List.setIfInBounds_toArray, List.set_cons_zero, List.set_cons_succ])
    refine held_call 1 rfl (by kernel_rfl) (fun K hK => ?_)
    go_simp
    go_at_call 8
    refine (HN1.out _).mono ?_
    rintro e w3 ⟨rfl, hE3⟩
    go_wp2_with fail
    have hE13 : Ext w1 w3 := (Ext.refl w1).drew.trans hE3
    refine hK.out _ _ (hX1.ext hE13).range (fun hHeld => ?_)
    clear hK K
    (try simp only [Act.put, List.setIfInBounds_toArray, List.set_cons_zero, List.set_cons_succ])
    refine held_call 3 rfl (by kernel_rfl) (fun K hK => ?_)
    go_simp
    go_at_call 13
    refine (HN2.out _).mono ?_
    rintro e w4 ⟨rfl, hE4⟩
    go_wp2_with fail
    have hE14 : Ext w1 w4 := hE13.trans hE4
    refine hK.out _ _ (hX1.ext hE14).range (fun hHeld => ?_)
    clear hK K
    (try simp only [Act.put, List.setIfInBounds_toArray, List.set_cons_zero, List.set_cons_succ])
    refine held_take 4 rfl (by kernel_rfl) (by kernel_rfl) (by kernel_rfl) (fun _ _ _ _ h => h) (by rfl) ?_ ?_ (by assumption) ?_
    rotate_left
    · (intro wx hSx; (try dsimp only at hSx); go_simp)
      all_goals with_reducible rfl
    (try simp only [Act.put, List.setIfInBounds_toArray, List.set_cons_zero, List.set_cons_succ])
    refine held_take 5 rfl (by kernel_rfl) (by kernel_rfl) (by kernel_rfl) (fun _ _ _ _ h => h) (by rfl) ?_ ?_ (by assumption) ?_
    rotate_left
    · (intro wx hSx; (try dsimp only at hSx); go_simp)
      all_goals with_reducible rfl
    (try simp only [Act.put, List.setIfInBounds_toArray, List.set_cons_zero, List.set_cons_succ])
    refine wpAnyH_done (by kernel_rfl) ?_ _
    go_wp2_with (go_at_call 12; refine (law16_awake _).mono ?_; rintro e w5 ⟨rfl, hE5⟩)
    go_ret
    exact ⟨rfl, (hE1.trans hE14).trans hE5⟩
  have hx := hmay
  unfold mayG at hx
  obtain ⟨G, rfl⟩ := Int.eq_ofNat_of_zero_le (show 0 ≤ x by omega)
  obtain ⟨N, rfl⟩ := Int.eq_ofNat_of_zero_le (show 0 ≤ y by omega)
  obtain ⟨M, rfl⟩ := Int.eq_ofNat_of_zero_le (show 0 ≤ z by omega)
  clear hx
  have HN1 := hide (fun w => alloc_New G N M hmay w)
  have HN2 := hide (fun w => ref_New G N M hmay w)
  clear hmay
  go_enter Try.func4, Try.ntmps4
  go_wp2_with (first
    | (with_reducible refine ag_box (o := ⟨some 2, _, _, _, _, _⟩) rfl 24 (.tmp 0) rfl _ 3 rfl rfl (by omega) (i64s_one _) w.heap.size (Nat.le_refl _) ?_; intro w1 hX1 hE1 hz1))
  have hu := Try.underlying24
  refine wp_region_held_drew (S := (fun w' => w'.rangeAt w.heap.size 0 (i64s (geo (G : Int) N M)))) (by kernel_rfl) (hX1).range (fun hHeld => ?_)
  refine held_load 0 rfl (by kernel_rfl) (by kernel_rfl) (by kernel_rfl) (fun _ _ _ _ h => h) (by rfl) 24 (.tmp 2) rfl w.heap.size (i64s (geo (G : Int) N M)) _ rfl (fun wx hSx => hSx) hu rfl info_geo (by assumption) ?_
  (try simp only [Act.put, List.setIfInBounds_toArray, List.set_cons_zero, List.set_cons_succ])
  refine held_load 2 rfl (by kernel_rfl) (by kernel_rfl) (by kernel_rfl) (fun _ _ _ _ h => h) (by rfl) 24 (.tmp 2) rfl w.heap.size (i64s (geo (G : Int) N M)) _ rfl (fun wx hSx => hSx) hu rfl info_geo (by assumption) ?_
  (try simp only [Act.put, List.setIfInBounds_toArray, List.set_cons_zero, List.set_cons_succ])
  refine held_call 1 rfl (by kernel_rfl) (fun K hK => ?_)
  go_simp
  go_at_call 8
  refine (HN1.out _).mono ?_
  rintro e w3 ⟨g, p, rfl, hSp, hE3⟩
  go_wp2_with fail
  have hE13 : Ext w1 w3 := (Ext.refl w1).drew.trans hE3
  refine hK.out _ _ (hX1.ext hE13).range (fun hHeld => ?_)
  clear hK K
  (try simp only [Act.put, List.setIfInBounds_toArray, List.set_cons_zero, List.set_cons_succ])
  refine held_call 3 rfl (by kernel_rfl) (fun K hK => ?_)
  go_simp
  go_at_call 13
  refine (HN2.out _).mono ?_
  rintro e w4 ⟨g2, q, rfl, hRf, hE4⟩
  go_wp2_with fail
  have hE14 : Ext w1 w4 := hE13.trans hE4
  refine hK.out _ _ (hX1.ext hE14).range (fun hHeld => ?_)
  clear hK K
  (try simp only [Act.put, List.setIfInBounds_toArray, List.set_cons_zero, List.set_cons_succ])
  refine held_take 4 rfl (by kernel_rfl) (by kernel_rfl) (by kernel_rfl) (fun _ _ _ _ h => h) (by rfl) ?_ ?_ (by assumption) ?_
  rotate_left
  · (intro wx hSx; (try dsimp only at hSx); go_simp)
    all_goals with_reducible rfl
  (try simp only [Act.put, List.setIfInBounds_toArray, List.set_cons_zero, List.set_cons_succ])
  refine held_take 5 rfl (by kernel_rfl) (by kernel_rfl) (by kernel_rfl) (fun _ _ _ _ h => h) (by rfl) ?_ ?_ (by assumption) ?_
  rotate_left
  · (intro wx hSx; (try dsimp only at hSx); go_simp)
    all_goals with_reducible rfl
  (try simp only [Act.put, List.setIfInBounds_toArray, List.set_cons_zero, List.set_cons_succ])
  refine wpAnyH_done (by kernel_rfl) ?_ _
  have hEW := hE1.trans hE14
  have hs1 := hE1.size
  have hs3 := hE13.size
  have hs4 := hEW.size
  have hB0 : Both w w4 (w1.drew).heap.size g p w3.heap.size g2 q G N M (List.replicate G (zr N)) (List.replicate G (zr N)) (List.replicate G (zr M)) (List.replicate G (zr M)) := by
    refine ⟨hSp.ext hE4, ?_, Cleans.zero _ _, Cleans.zero _ _, hEW, ?_⟩
    · rw [inoL_zero, blkL_zero]; exact hRf
    · exact ⟨hs1, by omega⟩
  generalize (w1.drew).heap.size = B at hB0
  generalize w3.heap.size = B2 at hB0
  clear hSp hRf hE3 hE4 hE13 hE14 hX1 hHeld hE1 hz1 hs1 hs3 HN1 HN2 hu
  go_wp2_with (first
    | (with_reducible refine ag_alloc (o := ⟨some 7, _, _, _, _, _⟩) rfl 36 rfl _ 2 zero_two rfl (by omega) (i64s_one _) w.heap.size (by omega) ?_; intro w5 hR5 hE5 hz5)
    | (with_reducible refine ag_store (o := ⟨none, _, _, _, _, _⟩) rfl 36 (.tmp 7) (.tmp 34) rfl w4.heap.size 2 w.heap.size 36 _ (i64s [0, 0]) rfl rfl hR5 rfl (i64s_one _) info_two ?_; intro w6 hR6 hG6))
  have hB6 := Mid.grown (hB0.ext hE5) hR5 (by decide) (by decide) (by decide) (by decide) (by decide) (by omega) hG6
  clear hR5 hE5 hz5 hG6 hB0
  obtain ⟨gl, hgl⟩ : ∃ gl, w4.heap.size = gl := ⟨_, rfl⟩
  rw [hgl] at hR6 hs4
  rw [hgl]
  clear hgl hEW
  go_loopw [8] (fun i wr => ScrAt w B g p B2 g2 q G N M n gl i wr) (fun i _ => n - (intOf i).toNat)
  case atStart => exact ⟨0, 0, 0, _, _, _, _, by omega, rfl, by omega, hR6, hB6⟩
  case round =>
    obtain ⟨k, la, lb, tn, dn, tb, db, hk, rfl, hla, hL, hB⟩ := hrel
    clear hR6 hB6
    by_cases hlt : k < n
    · obtain ⟨d, k1, m1, l, b, o, hk1, rfl, hr0⟩ := hI.act k hlt
      have hr := range_ext hr0 hB.ex
      have i2 : (k : Int) < (n : Int) := by omega
      have b1 : 43 ≠ 36 := by decide
      have b2 : 4 ≠ 36 := by decide
      have hD := hB.ext ((Ext.refl wr).drew)
      have hC := law16_done hD d k1 m1 l hk1 la lb hla
      have hu := Try.underlying36
      have hu1 := Try.underlying40
      go_wp2_with fail
      refine piv_begin 11 (fun w' => w'.rangeAt b (o + k * 4) (actV d k1 m1 l) ∧ w'.rangeAt gl 0 (i64s [la, lb])) (by kernel_rfl) ⟨hr, hL.range⟩ (fun hHeld => ?_)
      refine piv_take 0 rfl (by kernel_rfl) (by kernel_rfl) (by kernel_rfl) (by kernel_rfl) (by kernel_rfl) (fun _ _ _ _ h => h) (by rfl) ?_ ?_ (by assumption) ?_
      rotate_left
      · (intro wx hSx; (try dsimp only at hSx); go_simp)
        all_goals with_reducible rfl
      (try simp only [Act.put, List.setIfInBounds_toArray, List.set_cons_zero, List.set_cons_succ])
      refine piv_take 1 rfl (by kernel_rfl) (by kernel_rfl) (by kernel_rfl) (by kernel_rfl) (by kernel_rfl) (fun _ _ _ _ h => h) (by rfl) ?_ ?_ (by assumption) ?_
      rotate_left
      · (intro wx hSx; (try dsimp only at hSx); go_simp)
        all_goals with_reducible rfl
      (try simp only [Act.put, List.setIfInBounds_toArray, List.set_cons_zero, List.set_cons_succ])
      refine piv_take 2 rfl (by kernel_rfl) (by kernel_rfl) (by kernel_rfl) (by kernel_rfl) (by kernel_rfl) (fun _ _ _ _ h => h) (by rfl) ?_ ?_ (by assumption) ?_
      rotate_left
      · (intro wx hSx; (try dsimp only at hSx); go_simp)
        all_goals with_reducible rfl
      (try simp only [Act.put, List.setIfInBounds_toArray, List.set_cons_zero, List.set_cons_succ])
      refine piv_take 3 rfl (by kernel_rfl) (by kernel_rfl) (by kernel_rfl) (by kernel_rfl) (by kernel_rfl) (fun _ _ _ _ h => h) (by rfl) ?_ ?_ (by assumption) ?_
      rotate_left
      · (intro wx hSx; (try dsimp only at hSx); go_simp)
        all_goals with_reducible rfl
      (try simp only [Act.put, List.setIfInBounds_toArray, List.set_cons_zero, List.set_cons_succ])
      refine piv_take 4 rfl (by kernel_rfl) (by kernel_rfl) (by kernel_rfl) (by kernel_rfl) (by kernel_rfl) (fun _ _ _ _ h => h) (by rfl) ?_ ?_ (by assumption) ?_
      rotate_left
      · (intro wx hSx; (try dsimp only at hSx); go_simp)
        all_goals with_reducible rfl
      (try simp only [Act.put, List.setIfInBounds_toArray, List.set_cons_zero, List.set_cons_succ])
      refine piv_loadAt 5 rfl (by kernel_rfl) (by kernel_rfl) (by kernel_rfl) (by kernel_rfl) (by kernel_rfl) (fun _ _ _ _ h => h) (by rfl) 40 (.tmp 46) rfl b (o + k * 4) (actV d k1 m1 l) _ rfl (fun wx hSx => hSx.1) hu1 rfl info_act (by assumption) ?_
      (try simp only [Act.put, List.setIfInBounds_toArray, List.set_cons_zero, List.set_cons_succ])
      refine piv_loadAt 6 rfl (by kernel_rfl) (by kernel_rfl) (by kernel_rfl) (by kernel_rfl) (by kernel_rfl) (fun _ _ _ _ h => h) (by rfl) 36 (.tmp 7) rfl gl 0 (i64s [la, lb]) _ rfl (fun wx hSx => hSx.2) hu rfl info_two (by assumption) ?_
      (try simp only [Act.put, List.setIfInBounds_toArray, List.set_cons_zero, List.set_cons_succ])
      refine piv_one 7 rfl (by kernel_rfl) (fun K hK => ?_)
      go_simp
      go_at_call 14
      refine hC.mono ?_
      rintro e w5 ⟨la', lb', t1, t2, t3, t4, rfl, hla', hB5, hk5⟩
      go_wp2_with fail
      have hL5 := hk5 b1 b2 (hL.ext (Ext.refl wr).drew)
      have hr5 := range_ext hr0 hB5.ex
      refine hK.out _ _ ⟨hr5, hL5.range⟩ (fun hHeld => ?_)
      clear hK K
      (try simp only [Act.put, List.setIfInBounds_toArray, List.set_cons_zero, List.set_cons_succ])
      refine piv_take 8 rfl (by kernel_rfl) (by kernel_rfl) (by kernel_rfl) (by kernel_rfl) (by kernel_rfl) (fun _ _ _ _ h => h) (by rfl) ?_ ?_ (by assumption) ?_
      rotate_left
      · (intro wx hSx; (try dsimp only at hSx); go_simp)
        all_goals with_reducible rfl
      (try simp only [Act.put, List.setIfInBounds_toArray, List.set_cons_zero, List.set_cons_succ])
      refine piv_take 9 rfl (by kernel_rfl) (by kernel_rfl) (by kernel_rfl) (by kernel_rfl) (by kernel_rfl) (fun _ _ _ _ h => h) (by rfl) ?_ ?_ (by assumption) ?_
      rotate_left
      · (intro wx hSx; (try dsimp only at hSx); go_simp)
        all_goals with_reducible rfl
      (try simp only [Act.put, List.setIfInBounds_toArray, List.set_cons_zero, List.set_cons_succ])
      refine piv_pure 10 rfl (by kernel_rfl) (by kernel_rfl) (by kernel_rfl) (by kernel_rfl) (fun _ _ _ _ h => h) (by rfl) ?_ ?_ (by assumption) ?_
      rotate_left
      · (intro wx _; go_simp)
        all_goals with_reducible rfl
      (try simp only [Act.put, List.setIfInBounds_toArray, List.set_cons_zero, List.set_cons_succ])
      refine piv_late 11 rfl (by kernel_rfl) (by kernel_rfl) (fun K hK => ?_)
      refine step_storeAt rfl 36 (.tmp 7) (.tmp 50) rfl gl 0 2 2 w.heap.size 36 (i64s [la, lb]) (i64s [la', lb']) rfl rfl hL5 (by simp [i64s]) (i64s_one _) info_two ?_
      intro w7 hL7 hG7
      have hL7' : Own w7 w.heap.size 36 (some ⟨gl, 0, none⟩) 2 2 (i64s [la', lb']) := hL7
      refine hK.out _ _ ?_
      clear hK K
      (try simp only [Act.put, List.setIfInBounds_toArray, List.set_cons_zero, List.set_cons_succ])
      refine piv_late 12 rfl (by kernel_rfl) (by kernel_rfl) (fun K hK => ?_)
      go_simp
      refine hK.out _ _ ?_
      clear hK K
      (try simp only [Act.put, List.setIfInBounds_toArray, List.set_cons_zero, List.set_cons_succ])
      refine piv_done (by kernel_rfl) ?_ _
      have hB7 := Mid.grown hB5 hL5 (by decide) (by decide) (by decide) (by decide) (by decide) (by omega) hG7
      clear hL7 hG7 hB5 hL5 hr5 hk5 hC hD hB hr hL
      have hr7 := range_ext hr0 hB7.ex
      have c7 := (act_range hr7).1
      have d7 := (act_range hr7).2
      obtain ⟨u, v, hJL⟩ := joint_Left hB7
      obtain ⟨ga, hGa⟩ := joint_Group hB7 k1 true
      obtain ⟨gb, hGb⟩ := joint_Group hB7 k1 false
      obtain ⟨m2, m3, xs, ys, hm2, hm3, hx, hy, hJB⟩ := joint_Bits hB7 m1
      have HL := hide hJL
      have HGA := hide hGa
      have HGB := hide hGb
      have HJB := hide hJB
      have HX := hide hx
      have HY := hide hy
      have hs7 := hB7.ex.size
      clear hJL hGa hGb hJB hx hy hr7 hr0 hu hu1
      have hrf := Ext.refl w7
      go_wp2_with (first
        | (go_at_call 15; refine ((HL.out _ hrf).1).mono ?_; rintro e w8 ⟨rfl, hE8⟩)
        | (go_at_call 16; refine ((HL.out _ hE8).2).mono ?_; rintro e w9 ⟨rfl, hE9⟩))
      have hF9 := hE8.trans hE9
      have c9 := hF9.cell c7
      refine wp_region_held_drew (S := (fun w' => w'.cell? ⟨b, o + k * 4 + 1, none⟩ = some (.int .i64 k1))) (by kernel_rfl) c9 (fun hHeld => ?_)
      refine held_take 0 rfl (by kernel_rfl) (by kernel_rfl) (by kernel_rfl) (fun _ _ _ _ h => h) (by rfl) ?_ ?_ (by assumption) ?_
      rotate_left
      · (intro wx hSx; (try dsimp only at hSx); go_simp)
        all_goals with_reducible rfl
      (try simp only [Act.put, List.setIfInBounds_toArray, List.set_cons_zero, List.set_cons_succ])
      refine held_take 1 rfl (by kernel_rfl) (by kernel_rfl) (by kernel_rfl) (fun _ _ _ _ h => h) (by rfl) ?_ ?_ (by assumption) ?_
      rotate_left
      · (intro wx hSx; (try dsimp only at hSx); go_simp)
        all_goals with_reducible rfl
      (try simp only [Act.put, List.setIfInBounds_toArray, List.set_cons_zero, List.set_cons_succ])
      refine held_take 2 rfl (by kernel_rfl) (by kernel_rfl) (by kernel_rfl) (fun _ _ _ _ h => h) (by rfl) ?_ ?_ (by assumption) ?_
      rotate_left
      · (intro wx hSx; (try dsimp only at hSx); go_simp)
        all_goals with_reducible rfl
      (try simp only [Act.put, List.setIfInBounds_toArray, List.set_cons_zero, List.set_cons_succ])
      refine held_take 3 rfl (by kernel_rfl) (by kernel_rfl) (by kernel_rfl) (fun _ _ _ _ h => h) (by rfl) ?_ ?_ (by assumption) ?_
      rotate_left
      · (intro wx hSx; (try dsimp only at hSx); go_simp)
        all_goals with_reducible rfl
      (try simp only [Act.put, List.setIfInBounds_toArray, List.set_cons_zero, List.set_cons_succ])
      refine held_take 4 rfl (by kernel_rfl) (by kernel_rfl) (by kernel_rfl) (fun _ _ _ _ h => h) (by rfl) ?_ ?_ (by assumption) ?_
      rotate_left
      · (intro wx hSx; (try dsimp only at hSx); go_simp)
        all_goals with_reducible rfl
      (try simp only [Act.put, List.setIfInBounds_toArray, List.set_cons_zero, List.set_cons_succ])
      refine held_take 5 rfl (by kernel_rfl) (by kernel_rfl) (by kernel_rfl) (fun _ _ _ _ h => h) (by rfl) ?_ ?_ (by assumption) ?_
      rotate_left
      · (intro wx hSx; (try dsimp only at hSx); go_simp)
        all_goals with_reducible rfl
      (try simp only [Act.put, List.setIfInBounds_toArray, List.set_cons_zero, List.set_cons_succ])
      refine held_take 6 rfl (by kernel_rfl) (by kernel_rfl) (by kernel_rfl) (fun _ _ _ _ h => h) (by rfl) ?_ ?_ (by assumption) ?_
      rotate_left
      · (intro wx hSx; (try dsimp only at hSx); go_simp)
        all_goals with_reducible rfl
      (try simp only [Act.put, List.setIfInBounds_toArray, List.set_cons_zero, List.set_cons_succ])
      refine held_take 7 rfl (by kernel_rfl) (by kernel_rfl) (by kernel_rfl) (fun _ _ _ _ h => h) (by rfl) ?_ ?_ (by assumption) ?_
      rotate_left
      · (intro wx hSx; (try dsimp only at hSx); go_simp)
        all_goals with_reducible rfl
      (try simp only [Act.put, List.setIfInBounds_toArray, List.set_cons_zero, List.set_cons_succ])
      refine held_take 8 rfl (by kernel_rfl) (by kernel_rfl) (by kernel_rfl) (fun _ _ _ _ h => h) (by rfl) ?_ ?_ (by assumption) ?_
      rotate_left
      · (intro wx hSx; (try dsimp only at hSx); go_simp)
        all_goals with_reducible rfl
      (try simp only [Act.put, List.setIfInBounds_toArray, List.set_cons_zero, List.set_cons_succ])
      refine held_take 9 rfl (by kernel_rfl) (by kernel_rfl) (by kernel_rfl) (fun _ _ _ _ h => h) (by rfl) ?_ ?_ (by assumption) ?_
      rotate_left
      · (intro wx hSx; (try dsimp only at hSx); go_simp)
        all_goals with_reducible rfl
      (try simp only [Act.put, List.setIfInBounds_toArray, List.set_cons_zero, List.set_cons_succ])
      refine held_take 10 rfl (by kernel_rfl) (by kernel_rfl) (by kernel_rfl) (fun _ _ _ _ h => h) (by rfl) ?_ ?_ (by assumption) ?_
      rotate_left
      · (intro wx hSx; (try dsimp only at hSx); go_simp)
        all_goals with_reducible rfl
      (try simp only [Act.put, List.setIfInBounds_toArray, List.set_cons_zero, List.set_cons_succ])
      refine held_take 11 rfl (by kernel_rfl) (by kernel_rfl) (by kernel_rfl) (fun _ _ _ _ h => h) (by rfl) ?_ ?_ (by assumption) ?_
      rotate_left
      · (intro wx hSx; (try dsimp only at hSx); go_simp)
        all_goals with_reducible rfl
      (try simp only [Act.put, List.setIfInBounds_toArray, List.set_cons_zero, List.set_cons_succ])
      refine held_take 12 rfl (by kernel_rfl) (by kernel_rfl) (by kernel_rfl) (fun _ _ _ _ h => h) (by rfl) ?_ ?_ (by assumption) ?_
      rotate_left
      · (intro wx hSx; (try dsimp only at hSx); go_simp)
        all_goals with_reducible rfl
      (try simp only [Act.put, List.setIfInBounds_toArray, List.set_cons_zero, List.set_cons_succ])
      refine held_take 13 rfl (by kernel_rfl) (by kernel_rfl) (by kernel_rfl) (fun _ _ _ _ h => h) (by rfl) ?_ ?_ (by assumption) ?_
      rotate_left
      · (intro wx hSx; (try dsimp only at hSx); go_simp)
        all_goals with_reducible rfl
      (try simp only [Act.put, List.setIfInBounds_toArray, List.set_cons_zero, List.set_cons_succ])
      refine held_take 14 rfl (by kernel_rfl) (by kernel_rfl) (by kernel_rfl) (fun _ _ _ _ h => h) (by rfl) ?_ ?_ (by assumption) ?_
      rotate_left
      · (intro wx hSx; (try dsimp only at hSx); go_simp)
        all_goals with_reducible rfl
      (try simp only [Act.put, List.setIfInBounds_toArray, List.set_cons_zero, List.set_cons_succ])
      refine held_take 15 rfl (by kernel_rfl) (by kernel_rfl) (by kernel_rfl) (fun _ _ _ _ h => h) (by rfl) ?_ ?_ (by assumption) ?_
      rotate_left
      · (intro wx hSx; (try dsimp only at hSx); go_simp)
        all_goals with_reducible rfl
      (try simp only [Act.put, List.setIfInBounds_toArray, List.set_cons_zero, List.set_cons_succ])
      refine held_take 16 rfl (by kernel_rfl) (by kernel_rfl) (by kernel_rfl) (fun _ _ _ _ h => h) (by rfl) ?_ ?_ (by assumption) ?_
      rotate_left
      · (intro wx hSx; (try dsimp only at hSx); go_simp)
        all_goals with_reducible rfl
      (try simp only [Act.put, List.setIfInBounds_toArray, List.set_cons_zero, List.set_cons_succ])
      refine held_take 17 rfl (by kernel_rfl) (by kernel_rfl) (by kernel_rfl) (fun _ _ _ _ h => h) (by rfl) ?_ ?_ (by assumption) ?_
      rotate_left
      · (intro wx hSx; (try dsimp only at hSx); go_simp)
        all_goals with_reducible rfl
      (try simp only [Act.put, List.setIfInBounds_toArray, List.set_cons_zero, List.set_cons_succ])
      refine held_take 18 rfl (by kernel_rfl) (by kernel_rfl) (by kernel_rfl) (fun _ _ _ _ h => h) (by rfl) ?_ ?_ (by assumption) ?_
      rotate_left
      · (intro wx hSx; (try dsimp only at hSx); go_simp)
        all_goals with_reducible rfl
      (try simp only [Act.put, List.setIfInBounds_toArray, List.set_cons_zero, List.set_cons_succ])
      refine held_take 20 rfl (by kernel_rfl) (by kernel_rfl) (by kernel_rfl) (fun _ _ _ _ h => h) (by rfl) ?_ ?_ (by assumption) ?_
      rotate_left
      · (intro wx hSx; (try dsimp only at hSx); go_simp)
        all_goals with_reducible rfl
      (try simp only [Act.put, List.setIfInBounds_toArray, List.set_cons_zero, List.set_cons_succ])
      refine held_take 21 rfl (by kernel_rfl) (by kernel_rfl) (by kernel_rfl) (fun _ _ _ _ h => h) (by rfl) ?_ ?_ (by assumption) ?_
      rotate_left
      · (intro wx hSx; (try dsimp only at hSx); go_simp)
        all_goals with_reducible rfl
      (try simp only [Act.put, List.setIfInBounds_toArray, List.set_cons_zero, List.set_cons_succ])
      refine held_take 22 rfl (by kernel_rfl) (by kernel_rfl) (by kernel_rfl) (fun _ _ _ _ h => h) (by rfl) ?_ ?_ (by assumption) ?_
      rotate_left
      · (intro wx hSx; (try dsimp only at hSx); go_simp)
        all_goals with_reducible rfl
      (try simp only [Act.put, List.setIfInBounds_toArray, List.set_cons_zero, List.set_cons_succ])
      refine held_take 23 rfl (by kernel_rfl) (by kernel_rfl) (by kernel_rfl) (fun _ _ _ _ h => h) (by rfl) ?_ ?_ (by assumption) ?_
      rotate_left
      · (intro wx hSx; (try dsimp only at hSx); go_simp)
        all_goals with_reducible rfl
      (try simp only [Act.put, List.setIfInBounds_toArray, List.set_cons_zero, List.set_cons_succ])
      refine held_take 24 rfl (by kernel_rfl) (by kernel_rfl) (by kernel_rfl) (fun _ _ _ _ h => h) (by rfl) ?_ ?_ (by assumption) ?_
      rotate_left
      · (intro wx hSx; (try dsimp only at hSx); go_simp)
        all_goals with_reducible rfl
      (try simp only [Act.put, List.setIfInBounds_toArray, List.set_cons_zero, List.set_cons_succ])
      refine held_take 25 rfl (by kernel_rfl) (by kernel_rfl) (by kernel_rfl) (fun _ _ _ _ h => h) (by rfl) ?_ ?_ (by assumption) ?_
      rotate_left
      · (intro wx hSx; (try dsimp only at hSx); go_simp)
        all_goals with_reducible rfl
      (try simp only [Act.put, List.setIfInBounds_toArray, List.set_cons_zero, List.set_cons_succ])
      refine held_call 19 rfl (by kernel_rfl) (fun K hK => ?_)
      go_simp
      go_at_call 11
      refine ((HGA.out _ (hF9.trans (Ext.refl w9).drew)).1).mono ?_
      rintro e w10 ⟨rfl, hE10⟩
      go_wp2_with fail
      have hF10 := (hF9.trans (Ext.refl w9).drew).trans hE10
      refine hK.out _ _ (hF10.cell c7) (fun hHeld => ?_)
      clear hK K
      (try simp only [Act.put, List.setIfInBounds_toArray, List.set_cons_zero, List.set_cons_succ])
      refine held_call 26 rfl (by kernel_rfl) (fun K hK => ?_)
      go_simp
      go_at_call 17
      refine ((HGA.out _ hF10).2).mono ?_
      rintro e w11 ⟨rfl, hE11⟩
      go_wp2_with fail
      have hF11 := (hF10).trans hE11
      refine hK.out _ _ (hF11.cell c7) (fun hHeld => ?_)
      clear hK K
      (try simp only [Act.put, List.setIfInBounds_toArray, List.set_cons_zero, List.set_cons_succ])
      refine held_take 27 rfl (by kernel_rfl) (by kernel_rfl) (by kernel_rfl) (fun _ _ _ _ h => h) (by rfl) ?_ ?_ (by assumption) ?_
      rotate_left
      · (intro wx hSx; (try dsimp only at hSx); go_simp)
        all_goals with_reducible rfl
      (try simp only [Act.put, List.setIfInBounds_toArray, List.set_cons_zero, List.set_cons_succ])
      refine held_take 28 rfl (by kernel_rfl) (by kernel_rfl) (by kernel_rfl) (fun _ _ _ _ h => h) (by rfl) ?_ ?_ (by assumption) ?_
      rotate_left
      · (intro wx hSx; (try dsimp only at hSx); go_simp)
        all_goals with_reducible rfl
      (try simp only [Act.put, List.setIfInBounds_toArray, List.set_cons_zero, List.set_cons_succ])
      refine held_take 29 rfl (by kernel_rfl) (by kernel_rfl) (by kernel_rfl) (fun _ _ _ _ h => h) (by rfl) ?_ ?_ (by assumption) ?_
      rotate_left
      · (intro wx hSx; (try dsimp only at hSx); go_simp)
        all_goals with_reducible rfl
      (try simp only [Act.put, List.setIfInBounds_toArray, List.set_cons_zero, List.set_cons_succ])
      refine held_take 30 rfl (by kernel_rfl) (by kernel_rfl) (by kernel_rfl) (fun _ _ _ _ h => h) (by rfl) ?_ ?_ (by assumption) ?_
      rotate_left
      · (intro wx hSx; (try dsimp only at hSx); go_simp)
        all_goals with_reducible rfl
      (try simp only [Act.put, List.setIfInBounds_toArray, List.set_cons_zero, List.set_cons_succ])
      refine held_take 31 rfl (by kernel_rfl) (by kernel_rfl) (by kernel_rfl) (fun _ _ _ _ h => h) (by rfl) ?_ ?_ (by assumption) ?_
      rotate_left
      · (intro wx hSx; (try dsimp only at hSx); go_simp)
        all_goals with_reducible rfl
      (try simp only [Act.put, List.setIfInBounds_toArray, List.set_cons_zero, List.set_cons_succ])
      refine held_take 32 rfl (by kernel_rfl) (by kernel_rfl) (by kernel_rfl) (fun _ _ _ _ h => h) (by rfl) ?_ ?_ (by assumption) ?_
      rotate_left
      · (intro wx hSx; (try dsimp only at hSx); go_simp)
        all_goals with_reducible rfl
      (try simp only [Act.put, List.setIfInBounds_toArray, List.set_cons_zero, List.set_cons_succ])
      refine held_take 33 rfl (by kernel_rfl) (by kernel_rfl) (by kernel_rfl) (fun _ _ _ _ h => h) (by rfl) ?_ ?_ (by assumption) ?_
      rotate_left
      · (intro wx hSx; (try dsimp only at hSx); go_simp)
        all_goals with_reducible rfl
      (try simp only [Act.put, List.setIfInBounds_toArray, List.set_cons_zero, List.set_cons_succ])
      refine held_take 34 rfl (by kernel_rfl) (by kernel_rfl) (by kernel_rfl) (fun _ _ _ _ h => h) (by rfl) ?_ ?_ (by assumption) ?_
      rotate_left
      · (intro wx hSx; (try dsimp only at hSx); go_simp)
        all_goals with_reducible rfl
      (try simp only [Act.put, List.setIfInBounds_toArray, List.set_cons_zero, List.set_cons_succ])
      refine held_take 35 rfl (by kernel_rfl) (by kernel_rfl) (by kernel_rfl) (fun _ _ _ _ h => h) (by rfl) ?_ ?_ (by assumption) ?_
      rotate_left
      · (intro wx hSx; (try dsimp only at hSx); go_simp)
        all_goals with_reducible rfl
      (try simp only [Act.put, List.setIfInBounds_toArray, List.set_cons_zero, List.set_cons_succ])
      refine held_take 37 rfl (by kernel_rfl) (by kernel_rfl) (by kernel_rfl) (fun _ _ _ _ h => h) (by rfl) ?_ ?_ (by assumption) ?_
      rotate_left
      · (intro wx hSx; (try dsimp only at hSx); go_simp)
        all_goals with_reducible rfl
      (try simp only [Act.put, List.setIfInBounds_toArray, List.set_cons_zero, List.set_cons_succ])
      refine held_take 38 rfl (by kernel_rfl) (by kernel_rfl) (by kernel_rfl) (fun _ _ _ _ h => h) (by rfl) ?_ ?_ (by assumption) ?_
      rotate_left
      · (intro wx hSx; (try dsimp only at hSx); go_simp)
        all_goals with_reducible rfl
      (try simp only [Act.put, List.setIfInBounds_toArray, List.set_cons_zero, List.set_cons_succ])
      refine held_take 39 rfl (by kernel_rfl) (by kernel_rfl) (by kernel_rfl) (fun _ _ _ _ h => h) (by rfl) ?_ ?_ (by assumption) ?_
      rotate_left
      · (intro wx hSx; (try dsimp only at hSx); go_simp)
        all_goals with_reducible rfl
      (try simp only [Act.put, List.setIfInBounds_toArray, List.set_cons_zero, List.set_cons_succ])
      refine held_take 40 rfl (by kernel_rfl) (by kernel_rfl) (by kernel_rfl) (fun _ _ _ _ h => h) (by rfl) ?_ ?_ (by assumption) ?_
      rotate_left
      · (intro wx hSx; (try dsimp only at hSx); go_simp)
        all_goals with_reducible rfl
      (try simp only [Act.put, List.setIfInBounds_toArray, List.set_cons_zero, List.set_cons_succ])
      refine held_take 41 rfl (by kernel_rfl) (by kernel_rfl) (by kernel_rfl) (fun _ _ _ _ h => h) (by rfl) ?_ ?_ (by assumption) ?_
      rotate_left
      · (intro wx hSx; (try dsimp only at hSx); go_simp)
        all_goals with_reducible rfl
      (try simp only [Act.put, List.setIfInBounds_toArray, List.set_cons_zero, List.set_cons_succ])
      refine held_take 42 rfl (by kernel_rfl) (by kernel_rfl) (by kernel_rfl) (fun _ _ _ _ h => h) (by rfl) ?_ ?_ (by assumption) ?_
      rotate_left
      · (intro wx hSx; (try dsimp only at hSx); go_simp)
        all_goals with_reducible rfl
      (try simp only [Act.put, List.setIfInBounds_toArray, List.set_cons_zero, List.set_cons_succ])
      refine held_call 36 rfl (by kernel_rfl) (fun K hK => ?_)
      go_simp
      go_at_call 11
      refine ((HGB.out _ hF11).1).mono ?_
      rintro e w12 ⟨rfl, hE12⟩
      go_wp2_with fail
      have hF12 := (hF11).trans hE12
      refine hK.out _ _ (hF12.cell c7) (fun hHeld => ?_)
      clear hK K
      (try simp only [Act.put, List.setIfInBounds_toArray, List.set_cons_zero, List.set_cons_succ])
      refine held_call 43 rfl (by kernel_rfl) (fun K hK => ?_)
      go_simp
      go_at_call 17
      refine ((HGB.out _ hF12).2).mono ?_
      rintro e w13 ⟨rfl, hE13⟩
      go_wp2_with fail
      have hF13 := (hF12).trans hE13
      refine hK.out _ _ (hF13.cell c7) (fun hHeld => ?_)
      clear hK K
      (try simp only [Act.put, List.setIfInBounds_toArray, List.set_cons_zero, List.set_cons_succ])
      refine held_take 44 rfl (by kernel_rfl) (by kernel_rfl) (by kernel_rfl) (fun _ _ _ _ h => h) (by rfl) ?_ ?_ (by assumption) ?_
      rotate_left
      · (intro wx hSx; (try dsimp only at hSx); go_simp)
        all_goals with_reducible rfl
      (try simp only [Act.put, List.setIfInBounds_toArray, List.set_cons_zero, List.set_cons_succ])
      refine held_take 45 rfl (by kernel_rfl) (by kernel_rfl) (by kernel_rfl) (fun _ _ _ _ h => h) (by rfl) ?_ ?_ (by assumption) ?_
      rotate_left
      · (intro wx hSx; (try dsimp only at hSx); go_simp)
        all_goals with_reducible rfl
      (try simp only [Act.put, List.setIfInBounds_toArray, List.set_cons_zero, List.set_cons_succ])
      refine wpAnyH_done (by kernel_rfl) ?_ _
      have d13 := hF13.cell d7
      have hs13 := hF13.size
      go_wp2_with fail
      go_at_call 18
      with_reducible refine ((HJB.out _ hF13).1).mono ?_
      rintro e w14 ⟨A1, c1, A2, c2, rfl, hO1, hO2, hap, hE14⟩
      have hF14 := hF13.trans hE14
      have d14 := hE14.cell d13
      go_wp2_with fail
      go_at_call 19
      with_reducible refine ((HJB.out _ hF14).2).mono ?_
      rintro e w15 ⟨A3, c3, A4, c4, rfl, hO3, hO4, hE15⟩
      have hO1b := hO1.ext hE15
      have hO2b := hO2.ext hE15
      have HS1 := hide (same_bytes (w := w15) hO1b hO3 HX.out)
      go_wp2_with fail
      go_at_call 20
      with_reducible refine (HS1.out).mono ?_
      rintro e w16 ⟨rfl, hE16⟩
      have HS2 := hide (same_bytes (w := w16) (hO2b.ext hE16) (hO4.ext hE16) HY.out)
      go_wp2_with fail
      go_at_call 20
      with_reducible refine (HS2.out).mono ?_
      rintro e w17 ⟨rfl, hE17⟩
      have hE5 := (hE15.trans hE16).trans hE17
      have hF17 := hF14.trans hE5
      have hs14 := hE14.size
      have hs17 := hE5.size
      have hO1c := hO1.ext hE5
      have hO2c := hO2.ext hE5
      have HS3 := hide (over_bytes (wq := w7) hO1c hm2 hs13 hF17 (Nat.le_trans hs14 hs17))
      clear hO1 hO2 hO3 hO4 hO1b hO2b hO1c
      go_wp2_with fail
      go_at_call 21
      with_reducible refine (HS3.out).mono ?_
      rintro e w18 ⟨rfl, hF18, hG18, hs18⟩
      have HS4 := hide (over_bytes (wq := w7) (hO2c.kept hG18 hap.row) hm3 hs13 hF18 hs18)
      go_wp2_with fail
      go_at_call 21
      with_reducible refine (HS4.out).mono ?_
      rintro e w19 ⟨rfl, hF19, hG19, hs19⟩
      go_wp2_with fail
      have hB19 := hB7.ext hF19
      have hL19 := hL7'.ext hF19
      go_roundw
      case rel => exact ⟨k + 1, la', lb', t1, t2, t3, t4, by omega, by go_num, hla', hL19, hB19⟩
      case measure => simp [intOf]; omega
    · obtain rfl : k = n := by omega
      have hE := hB.ex
      go_wp2_with (go_at_call 12; refine (law16_awake _).mono ?_; rintro e w5 ⟨rfl, hE5⟩)
      go_ret
      exact ⟨rfl, hE.trans hE5⟩
end Go.Proofs.Ytillhbbeghbfeaa
