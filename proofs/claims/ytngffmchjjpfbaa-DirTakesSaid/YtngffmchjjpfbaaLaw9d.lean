/- The statements on directories: slots are laid and read again. -/
import Derived.Test.YtngffmchjjpfbaaLaw9
import Derived.Deep.DeepCutAuto
import Derived.BigQuiet
import Derived.Deep.RegionHeld3
namespace Go.Proofs.Ytngffmchjjpfbaa
set_option linter.unusedVariables false
open Go.RowKit

theorem findA_ge (p : Slot → Bool) : ∀ (l : List Slot) (i : Int), 0 ≤ i → i ≤ findA p l i ∨ findA p l i = -1 := by
  intro l
  induction l with
  | nil => intro i _; exact .inr rfl
  | cons s r ih =>
    intro i hi
    unfold findA
    split
    · exact .inl (Int.le_refl _)
    · rcases ih (i + 1) (by omega) with h | h
      · exact .inl (by omega)
      · exact .inr h
theorem findA_spec (p : Slot → Bool) : ∀ (l : List Slot) (i : Int) (k : Nat), 0 ≤ i → k < l.length → (findA p l i = i + k ↔ p (nS l k) = true ∧ ∀ j, j < k → p (nS l j) = false) := by
  intro l
  induction l with
  | nil => intro i k _ h; simp at h
  | cons s r ih =>
    intro i k hi hk
    have hs : nS (s :: r) 0 = s := rfl
    unfold findA
    cases k with
    | zero =>
      rw [hs]
      split
      · rename_i h; simp [h]
      · rename_i h
        constructor
        · intro e
          rcases findA_ge p r (i + 1) (by omega) with h2 | h2 <;> omega
        · rintro ⟨h2, _⟩; exact absurd h2 h
    | succ k =>
      have e : nS (s :: r) (k + 1) = nS r k := by simp [nS]
      rw [e]
      split
      · rename_i h
        constructor
        · intro e2; omega
        · rintro ⟨_, h2⟩
          have := h2 0 (by omega)
          rw [hs, h] at this
          cases this
      · rename_i h
        have := ih (i + 1) k (by omega) (by simpa using hk)
        rw [show i + ((k + 1 : Nat) : Int) = i + 1 + (k : Int) from by omega, this]
        constructor
        · rintro ⟨h1, h2⟩
          refine ⟨h1, fun j hj => ?_⟩
          cases j with
          | zero => rw [hs]; simpa using h
          | succ j => rw [show nS (s :: r) (j + 1) = nS r j from by simp [nS]]; exact h2 j (by omega)
        · rintro ⟨h1, h2⟩
          refine ⟨h1, fun j hj => ?_⟩
          have := h2 (j + 1) (by omega)
          rwa [show nS (s :: r) (j + 1) = nS r j from by simp [nS]] at this
/-- Two slots whose names differ, or one of which is free. -/
def pr9 (ss : List Slot) (k j : Nat) : Bool := (nS ss k).1 == 0 || ((nS ss j).1 == 0 || !((nS ss j).2.2.toList == (nS ss k).2.2.toList))
def gI9 (ss : List Slot) (k : Nat) (b : Bool) (j : Nat) : Bool := b && (List.range j).all (pr9 ss k)
theorem gI9_zero (ss : List Slot) (k : Nat) (b : Bool) : gI9 ss k b 0 = b := by simp [gI9]
theorem gI9_succ (ss : List Slot) (k : Nat) (b : Bool) (j : Nat) : gI9 ss k b (j + 1) = (gI9 ss k b j && pr9 ss k j) := by
  unfold gI9
  rw [List.range_succ, List.all_append]
  simp [Bool.and_assoc]
def gS9 (ss : List Slot) : Nat → Bool
  | 0 => true
  | k + 1 => gI9 ss k (gS9 ss k && mayS (nS ss k)) k
theorem gS9_good {ss : List Slot} (hl : ss.length = 4) {k : Nat} (hk : k < 4) : (mayS (nS ss k) && (List.range k).all (pr9 ss k)) = goodS ss k := by
  unfold goodS
  congr 1
  have hsp := findA_spec (isNm (nS ss k).2.2) ss 0 k (by omega) (by omega)
  rw [Int.zero_add] at hsp
  by_cases hz : (nS ss k).1 = 0
  · rw [hz]
    simp only [BEq.rfl, Bool.true_or]
    rw [List.all_eq_true]
    intro j _
    unfold pr9
    rw [hz]
    rfl
  · have hzb : ((nS ss k).1 == 0) = false := by simpa using hz
    rw [hzb, Bool.false_or]
    rw [Bool.eq_iff_iff]
    show _ ↔ (findL ss (nS ss k).2.2 == (k : Int)) = true
    rw [beq_iff_eq]
    unfold findL
    rw [hsp, List.all_eq_true]
    constructor
    · intro h
      refine ⟨by simp [isNm, hzb], fun j hj => ?_⟩
      have := h j (List.mem_range.2 hj)
      unfold pr9 at this
      rw [hzb, Bool.false_or] at this
      unfold isNm
      cases h1 : ((nS ss j).1 == 0)
      · rw [h1] at this
        simp at this
        simp [this]
      · rfl
    · rintro ⟨_, h⟩ j hj
      have := h j (List.mem_range.1 hj)
      unfold isNm at this
      unfold pr9
      rw [hzb, Bool.false_or]
      cases h1 : ((nS ss j).1 == 0)
      · rw [h1] at this
        simp at this
        simp [this]
      · rfl
theorem gS9_all {ss : List Slot} (hl : ss.length = 4) : ∀ {k : Nat}, k ≤ 4 → (gS9 ss k = true ↔ allS ss k) := by
  intro k
  induction k with
  | zero => intro _; exact ⟨fun _ j hj => by omega, fun _ => rfl⟩
  | succ k ih =>
    intro hk
    have e : gS9 ss (k + 1) = (gS9 ss k && goodS ss k) := by
      rw [← gS9_good hl (by omega)]
      show ((gS9 ss k && mayS (nS ss k)) && _) = _
      rw [Bool.and_assoc]
    rw [e, Bool.and_eq_true, ih (by omega)]
    constructor
    · rintro ⟨h1, h2⟩; exact allS_succ h1 h2
    · intro h; exact ⟨fun j hj => h j (by omega), h k (by omega)⟩
section
variable {P : Program} {w : World} {ops : Array Oper} {rest : List Oper} {o : Oper} {a : Act} {Q : Exit → Act → World → Prop}
theorem ag_loadIs9d (us : List Value) (hw : Region.wanted o (yielded ops a.tmps) = true) (t : TypeId) (x : Operand) (ho : o.op = .load t x) (g off k n c B e : Nat) (vs : List Value) (hu : us = (vs.drop off).take k)
    (hx : a.eval x = .pointer (some ⟨g, off, none⟩)) (hO : Own w B e (some ⟨g, 0, none⟩) n c vs) (hagg : ∀ w1, (isAgg t).run P w1 = .ok true w1) (hi : (P.info? t).map (·.size) = some k) (hk : off + k ≤ n)
    (h : wpList P ops Q rest (a.put o.dst (.agg us.toArray)) w) : wpList P ops Q (o :: rest) a w :=
  ag_loadAt hw t x ho g off k n c B e vs hx hO hagg hi hk (hu ▸ h)
end
set_option maxRecDepth 100000 in
set_option maxHeartbeats 4000000 in
theorem law9_back (w : World) (ss : List Slot) (hl : ss.length = 4) :
    Calls Try.prog 6 #[.agg (LV ss).toArray] w fun e w' => e = .returned (.bool true) ∧ Ext w w' := by
  have HL := hide hl
  have HLL := hide (LV_len4 hl)
  have HG := hide (fun w => law9_great ss hl w)
  clear hl
  go_enter Try.func6, Try.ntmps6
  go_wp2_with (first
    | (with_reducible refine ag_box rfl 40 (.tmp 0) rfl _ 12 rfl HLL.out (by omega) (LV_one ss) w.heap.size (Nat.le_refl _) ?_; intro w1 hO hE1 hz1)
    | (with_reducible refine ag_load rfl 40 (.tmp 1) rfl w.heap.size 12 w.heap.size 40 _ rfl hO agg_slots info_slots ?_))
  refine (HG.out _).mono ?_
  rintro e w2 ⟨rfl, hE2⟩
  replace hO := hO.ext hE2
  have hF := hE1.trans hE2
  cases hg : greatL ss
  case true =>
    go_wp2_with (go_at_call 22; refine (law9_awake _).mono ?_; rintro e w5 ⟨rfl, hE5⟩)
    go_ret
    exact ⟨rfl, hF.trans hE5⟩
  case false =>
  clear hg
  have LA := hide (fun k (hk : k < 4) => LV_at (ss := ss) (k := k) (by rw [HL.out]; exact hk))
  go_wp2_with fail
  go_loopw [3, 4] (fun v i wr => ∃ k : Nat, k ≤ 4 ∧ v = .bool (gS9 ss k) ∧ i = .int .i64 k ∧ Ext w2 wr) (fun _ i _ => 4 - (intOf i).toNat)
  case atStart => exact ⟨0, by omega, rfl, rfl, Ext.refl _⟩
  case round =>
    obtain ⟨k, hk, rfl, rfl, hE⟩ := hrel
    have hOr := hO.ext hE
    by_cases hlt : k < 4
    · have hi4 : (k : Int) < 4 := by omega
      have hnt := LV_nth (ss := ss) (k := k) (by rw [HL.out]; exact hlt)
      have NT := hide hnt.symm
      have HM := hide (fun w => dir_May (nS ss k) w)
      have HGS := hide (show gS9 ss (k + 1) = gI9 ss k (gS9 ss k && mayS (nS ss k)) k from rfl)
      clear hnt
      go_upto_region 7 with fail
      go_cut [3] (fun v wx => v = .bool (gS9 ss k && mayS (nS ss k)) ∧ Ext w2 wx)
      case first =>
        cases hgs : gS9 ss k
        · have HG2 := hide hgs
          clear hgs
          go_wp2_with fail
          go_meet
          exact ⟨by rw [HG2.out]; rfl, hE⟩
        · have HG2 := hide hgs
          clear hgs
          go_wp2_with (with_reducible refine ag_loadIs9d (sV (nS ss k)) rfl 39 _ rfl w.heap.size (k * 3) 3 12 12 w.heap.size 40 _ NT.out rfl hOr agg_slot info_slot (by omega) ?_)
          refine (HM.out _).mono ?_
          rintro e w5 ⟨rfl, hE5⟩
          go_wp2_with fail
          go_meet
          exact ⟨by rw [HG2.out]; rfl, hE.trans hE5⟩
      case rest =>
      obtain ⟨rfl, hEc⟩ := hcut
      generalize (gS9 ss k && mayS (nS ss k)) = b at *
      clear hE hOr HM NT
      go_wp2_with fail
      go_loopw [3, 5] (fun v j wy => ∃ q : Nat, q ≤ k ∧ v = .bool (gI9 ss k b q) ∧ j = .int .i64 q ∧ Ext w2 wy) (fun _ j _ => k - (intOf j).toNat)
      case atStart => exact ⟨0, by omega, by rw [gI9_zero], rfl, hEc⟩
      case round =>
        clear hEc
        obtain ⟨q, hq, rfl, rfl, hE⟩ := hrel
        by_cases hlt2 : q < k
        · have hqk : (q : Int) < (k : Int) := by omega
          have hq4 : (q : Int) < 4 := by omega
          have hOy := hO.ext hE
          obtain ⟨x0, x1, x2⟩ := LA.out k hlt
          obtain ⟨y0, y1, y2⟩ := LA.out q (by omega)
          have HS := hide (gI9_succ ss k b q)
          have HP := hide (show pr9 ss k q = ((nS ss k).1 == 0 || ((nS ss q).1 == 0 || !((nS ss q).2.2.toList == (nS ss k).2.2.toList))) from rfl)
          generalize nS ss k = s at x0 x1 x2 HP
          generalize nS ss q = t at y0 y1 y2 HP
          obtain ⟨i, d, a⟩ := s
          obtain ⟨i', d', a'⟩ := t
          dsimp only at HP
          have c0 : wr.cell? ⟨w.heap.size, k * 3, none⟩ = some (.int .i64 i) := (hOy.cellAt (k * 3) (by omega)).trans x0
          have c2 : wr.cell? ⟨w.heap.size, k * 3 + 2, none⟩ = some (.string a) := (hOy.cellAt (k * 3 + 2) (by omega)).trans x2
          have d0 : wr.cell? ⟨w.heap.size, q * 3, none⟩ = some (.int .i64 i') := (hOy.cellAt (q * 3) (by omega)).trans y0
          have d2 : wr.cell? ⟨w.heap.size, q * 3 + 2, none⟩ = some (.string a') := (hOy.cellAt (q * 3 + 2) (by omega)).trans y2
          clear x0 x1 x2 y0 y1 y2
          have hcase : (gI9 ss k b q = false ∧ gI9 ss k b (q + 1) = false) ∨ (gI9 ss k b q = true ∧ (i == 0) = true ∧ gI9 ss k b (q + 1) = true) ∨ (gI9 ss k b q = true ∧ (i == 0) = false ∧ (i' == 0) = true ∧ gI9 ss k b (q + 1) = true) ∨
              (gI9 ss k b q = true ∧ (i == 0) = false ∧ (i' == 0) = false ∧ (a'.toList == a.toList) = true ∧ gI9 ss k b (q + 1) = false) ∨ (gI9 ss k b q = true ∧ (i == 0) = false ∧ (i' == 0) = false ∧ (a'.toList == a.toList) = false ∧ gI9 ss k b (q + 1) = true) := by
            rw [HS.out, HP.out]
            cases gI9 ss k b q <;> cases (i == 0) <;> cases (i' == 0) <;> cases (a'.toList == a.toList) <;> simp
          clear HS HP
          rcases hcase with ⟨h1, hn⟩ | ⟨h1, h2, hn⟩ | ⟨h1, h2, h3, hn⟩ | ⟨h1, h2, h3, h4, hn⟩ | ⟨h1, h2, h3, h4, hn⟩ <;>
            (have HN := hide hn
             clear hn
             rw [h1]
             clear h1
             go_wp2_with fail
             go_quiet (fail)
             go_wp2_with fail
             go_roundw
             case rel => exact ⟨q + 1, by omega, by rw [HN.out], by go_num, hE.drewN _⟩
             case measure => simp [intOf]; omega)
        · obtain rfl : q = k := by omega
          go_wp2_with fail
          go_roundw
          case rel => exact ⟨q + 1, by omega, by rw [HGS.out], by go_num, hE⟩
          case measure => simp [intOf]; omega
    · obtain rfl : k = 4 := by omega
      have hAll := gS9_all HL.out (k := 4) (by omega)
      replace hF := hF.trans hE
      by_cases ha : allS ss 4
      case neg =>
        have hg : gS9 ss 4 = false := by
          cases h : gS9 ss 4
          · rfl
          · exact absurd (hAll.1 h) ha
        have X1 := hide (fun w => Lay_slotsN ss HL.out ha w)
        rw [hg]
        clear hAll ha hg
        go_wp2_with (with_reducible refine ag_load rfl 40 (.tmp 1) rfl w.heap.size 12 w.heap.size 40 _ rfl hOr agg_slots info_slots ?_)
        refine (X1.out _).mono ?_
        rintro e w5 ⟨A5, c5, rfl, hO5, hE5⟩
        go_wp2_with (go_at_call 22; refine (law9_awake _).mono ?_; rintro e w6 ⟨rfl, hE6⟩)
        go_ret
        exact ⟨rfl, hF.trans (hE5.trans hE6)⟩
      case pos =>
      rw [hAll.2 ha]
      have X1 := hide (fun w => Lay_slots ss HL.out ha w)
      have x2 := fun A n c w h hb => dir_Read A n c (layDL ss) w h hb
      rw [(readD_laid HL.out ha).1, (readD_laid HL.out ha).2] at x2
      have X2 := hide x2
      have hfk : ∀ k, k < 4 → ((nS ss k).1 == 0) = false → findL ss (nS ss k).2.2 = (k : Int) := by
        intro k hk hz
        have := ha k hk
        unfold goodS at this
        rw [hz] at this
        simp at this
        exact this.2
      have HFK := hide hfk
      have hbb := Bytes.layDL ss
      clear hAll ha x2 hfk
      go_wp2_with (with_reducible refine ag_load rfl 40 (.tmp 1) rfl w.heap.size 12 w.heap.size 40 _ rfl hOr agg_slots info_slots ?_)
      refine (X1.out _).mono ?_
      rintro e w5 ⟨A5, c5, rfl, hO5, hE5⟩
      replace hOr := hOr.ext hE5
      replace hF := hF.trans hE5
      go_wp2_with fail
      refine (X2.out _ _ _ _ hO5.sl hbb).mono ?_
      rintro e w6 ⟨rfl, hE6⟩
      replace hOr := hOr.ext hE6
      replace hF := hF.trans hE6
      go_wp2_with (first
        | (with_reducible refine ag_alloc (o := ⟨some 8, _, _, _, _, _⟩) rfl 40 rfl _ 12 zero_slots rfl (by omega) (LV_one _) w6.heap.size (Nat.le_refl _) ?_; intro w7 hR7 hE7 hz7)
        | (with_reducible refine ag_store (o := ⟨none, _, _, _, _, _⟩) rfl 40 (.tmp 8) (.tmp 76) rfl w6.heap.size 12 w6.heap.size 40 _ (LV ss) rfl rfl hR7 HLL.out (LV_one _) info_slots ?_; intro w8 hU hG8
           have hE8 := hE7.grown hG8 (by simp)
           replace hOr := hOr.ext hE8
           replace hF := hF.trans hE8))
      clear hR7 hE7 hz7 hG8 hE8 hE6 hE5 hO5 hE hO hbb X1 X2 hE1 hE2
      obtain ⟨wo, rfl⟩ : ∃ wo : World, wo = wr := ⟨_, rfl⟩
      go_loopw [10] (fun j wr => ∃ k : Nat, k ≤ 4 ∧ j = .int .i64 k ∧ Ext w8 wr) (fun j _ => 4 - (intOf j).toNat)
      case atStart => exact ⟨0, by omega, rfl, Ext.refl _⟩
      case round =>
        obtain ⟨k, hk, rfl, hE⟩ := hrel
        have hOk := hOr.ext hE
        by_cases hlt : k < 4
        · have hi4 : (k : Int) < 4 := by omega
          obtain ⟨x0, x1, x2⟩ := LA.out k hlt
          have hfk := HFK.out k hlt
          have hfc := fun w => dir_Find ss HL.out (nS ss k).2.2 w
          generalize nS ss k = s at x0 x1 x2 hfk hfc
          obtain ⟨i, d, a⟩ := s
          dsimp only at hfk hfc
          have keepC : ∀ w', Ext wr w' → w'.cell? ⟨w.heap.size, k * 3, none⟩ = some (.int .i64 i) ∧ w'.cell? ⟨w.heap.size, k * 3 + 2, none⟩ = some (.string a) := fun w' hE' =>
            ⟨((hOk.ext hE').cellAt (k * 3) (by omega)).trans x0, ((hOk.ext hE').cellAt (k * 3 + 2) (by omega)).trans x2⟩
          have c0 := (keepC _ (Ext.refl _)).1
          have c2 := (keepC _ (Ext.refl _)).2
          clear x0 x1 x2
          cases hz : (i == 0)
          · rw [hfk hz] at hfc
            have HFC := hide hfc
            have hz' : (i != 0) = true := by simpa using hz
            clear hfk hfc
            go_upto_region 19 with fail
            have hu := Try.underlying40
            have hi1 : (Try.prog.info? 40).map (·.size) = some (LV ss).length := by rw [HLL.out]; exact info_slots
            have keepS : ∀ w', Ext wr w' → (w'.cell? ⟨w.heap.size, k * 3, none⟩ = some (.int .i64 i) ∧ w'.cell? ⟨w.heap.size, k * 3 + 2, none⟩ = some (.string a)) ∧ w'.rangeAt w.heap.size 0 (LV ss) := fun w' hE' => ⟨keepC w' hE', (hOk.ext hE').range⟩
            refine wp_region_held_drew (S := fun w' => (w'.cell? ⟨w.heap.size, k * 3, none⟩ = some (.int .i64 i) ∧ w'.cell? ⟨w.heap.size, k * 3 + 2, none⟩ = some (.string a)) ∧ w'.rangeAt w.heap.size 0 (LV ss)) (by kernel_rfl) (keepS _ (Ext.drew (Ext.refl _))) (fun hHeld => ?_)
            clear c0 c2
            refine held_take 0 rfl (by kernel_rfl) (by kernel_rfl) (by kernel_rfl) (fun _ _ _ _ h => h) (by rfl) ?_ ?_ (by assumption) ?_
            rotate_left
            · (intro wx hSx; (try dsimp only at hSx); go_simp)
              all_goals with_reducible rfl
            (try simp only [Act.put, List.setIfInBounds_toArray, List.set_cons_zero, List.set_cons_succ])
            refine held_take 1 rfl (by kernel_rfl) (by kernel_rfl) (by kernel_rfl) (fun _ _ _ _ h => h) (by rfl) ?_ ?_ (by assumption) ?_
            rotate_left
            · (intro wx hSx; (try dsimp only at hSx); go_simp)
              all_goals with_reducible rfl
            (try simp only [Act.put, List.setIfInBounds_toArray, List.set_cons_zero, List.set_cons_succ])
            refine held_take 2 rfl (by kernel_rfl) (by kernel_rfl) (by kernel_rfl) (fun _ _ _ _ h => h) (by rfl) ?_ ?_ (by assumption) ?_
            rotate_left
            · (intro wx hSx; (try dsimp only at hSx); go_simp)
              all_goals with_reducible rfl
            (try simp only [Act.put, List.setIfInBounds_toArray, List.set_cons_zero, List.set_cons_succ])
            refine held_take 3 rfl (by kernel_rfl) (by kernel_rfl) (by kernel_rfl) (fun _ _ _ _ h => h) (by rfl) ?_ ?_ (by assumption) ?_
            rotate_left
            · (intro wx hSx; (try dsimp only at hSx); go_simp)
              all_goals with_reducible rfl
            (try simp only [Act.put, List.setIfInBounds_toArray, List.set_cons_zero, List.set_cons_succ])
            refine held_take 4 rfl (by kernel_rfl) (by kernel_rfl) (by kernel_rfl) (fun _ _ _ _ h => h) (by rfl) ?_ ?_ (by assumption) ?_
            rotate_left
            · (intro wx hSx; (try dsimp only at hSx); go_simp)
              all_goals with_reducible rfl
            (try simp only [Act.put, List.setIfInBounds_toArray, List.set_cons_zero, List.set_cons_succ])
            refine held_take 5 rfl (by kernel_rfl) (by kernel_rfl) (by kernel_rfl) (fun _ _ _ _ h => h) (by rfl) ?_ ?_ (by assumption) ?_
            rotate_left
            · (intro wx hSx; (try dsimp only at hSx); go_simp)
              all_goals with_reducible rfl
            (try simp only [Act.put, List.setIfInBounds_toArray, List.set_cons_zero, List.set_cons_succ])
            refine held_load 6 rfl (by kernel_rfl) (by kernel_rfl) (by kernel_rfl) (fun _ _ _ _ h => h) (by rfl) 40 (.tmp 1) rfl w.heap.size (LV ss) _ rfl (fun wx hSx => hSx.2) hu rfl hi1 (by assumption) ?_
            (try simp only [Act.put, List.setIfInBounds_toArray, List.set_cons_zero, List.set_cons_succ])
            refine held_take 7 rfl (by kernel_rfl) (by kernel_rfl) (by kernel_rfl) (fun _ _ _ _ h => h) (by rfl) ?_ ?_ (by assumption) ?_
            rotate_left
            · (intro wx hSx; (try dsimp only at hSx); go_simp)
              all_goals with_reducible rfl
            (try simp only [Act.put, List.setIfInBounds_toArray, List.set_cons_zero, List.set_cons_succ])
            refine held_take 8 rfl (by kernel_rfl) (by kernel_rfl) (by kernel_rfl) (fun _ _ _ _ h => h) (by rfl) ?_ ?_ (by assumption) ?_
            rotate_left
            · (intro wx hSx; (try dsimp only at hSx); go_simp)
              all_goals with_reducible rfl
            (try simp only [Act.put, List.setIfInBounds_toArray, List.set_cons_zero, List.set_cons_succ])
            refine held_take 9 rfl (by kernel_rfl) (by kernel_rfl) (by kernel_rfl) (fun _ _ _ _ h => h) (by rfl) ?_ ?_ (by assumption) ?_
            rotate_left
            · (intro wx hSx; (try dsimp only at hSx); go_simp)
              all_goals with_reducible rfl
            (try simp only [Act.put, List.setIfInBounds_toArray, List.set_cons_zero, List.set_cons_succ])
            refine held_take 10 rfl (by kernel_rfl) (by kernel_rfl) (by kernel_rfl) (fun _ _ _ _ h => h) (by rfl) ?_ ?_ (by assumption) ?_
            rotate_left
            · (intro wx hSx; (try dsimp only at hSx); go_simp)
              all_goals with_reducible rfl
            (try simp only [Act.put, List.setIfInBounds_toArray, List.set_cons_zero, List.set_cons_succ])
            refine held_take 12 rfl (by kernel_rfl) (by kernel_rfl) (by kernel_rfl) (fun _ _ _ _ h => h) (by rfl) ?_ ?_ (by assumption) ?_
            rotate_left
            · (intro wx hSx; (try dsimp only at hSx); go_simp)
              all_goals with_reducible rfl
            (try simp only [Act.put, List.setIfInBounds_toArray, List.set_cons_zero, List.set_cons_succ])
            refine held_call 11 rfl (by kernel_rfl) (fun K hK => ?_)
            go_simp
            go_at_call 31
            refine (HFC.out _).mono ?_
            rintro e w9 ⟨rfl, hE9⟩
            replace hE9 : Ext wr w9 := (Ext.drew (Ext.refl _)).trans hE9
            go_wp2_with fail
            refine hK.out _ _ (keepS _ hE9) (fun hHeld => ?_)
            clear hK K
            (try simp only [Act.put, List.setIfInBounds_toArray, List.set_cons_zero, List.set_cons_succ])
            refine held_take 13 rfl (by kernel_rfl) (by kernel_rfl) (by kernel_rfl) (fun _ _ _ _ h => h) (by rfl) ?_ ?_ (by assumption) ?_
            rotate_left
            · (intro wx hSx; (try dsimp only at hSx); go_simp)
              all_goals with_reducible rfl
            (try simp only [Act.put, List.setIfInBounds_toArray, List.set_cons_zero, List.set_cons_succ])
            refine held_take 14 rfl (by kernel_rfl) (by kernel_rfl) (by kernel_rfl) (fun _ _ _ _ h => h) (by rfl) ?_ ?_ (by assumption) ?_
            rotate_left
            · (intro wx hSx; (try dsimp only at hSx); go_simp)
              all_goals with_reducible rfl
            (try simp only [Act.put, List.setIfInBounds_toArray, List.set_cons_zero, List.set_cons_succ])
            refine wpAnyH_done (by kernel_rfl) ?_ _
            clear hHeld keepS keepC hu hi1
            go_wp2_with fail
            go_roundw
            case rel => exact ⟨k + 1, by omega, by go_num, hE.trans hE9⟩
            case measure => simp [intOf]; omega
          · have hz' : (i != 0) = false := by simpa using hz
            clear hfk hfc
            go_upto_region 19 with fail
            refine wp_region_held_drew (S := fun w' => w'.cell? ⟨w.heap.size, k * 3, none⟩ = some (.int .i64 i) ∧ w'.cell? ⟨w.heap.size, k * 3 + 2, none⟩ = some (.string a)) (by kernel_rfl) (keepC _ (Ext.drew (Ext.refl _))) (fun hHeld => ?_)
            clear c0 c2
            refine held_take 0 rfl (by kernel_rfl) (by kernel_rfl) (by kernel_rfl) (fun _ _ _ _ h => h) (by rfl) ?_ ?_ (by assumption) ?_
            rotate_left
            · (intro wx hSx; (try dsimp only at hSx); go_simp)
              all_goals with_reducible rfl
            (try simp only [Act.put, List.setIfInBounds_toArray, List.set_cons_zero, List.set_cons_succ])
            refine held_take 1 rfl (by kernel_rfl) (by kernel_rfl) (by kernel_rfl) (fun _ _ _ _ h => h) (by rfl) ?_ ?_ (by assumption) ?_
            rotate_left
            · (intro wx hSx; (try dsimp only at hSx); go_simp)
              all_goals with_reducible rfl
            (try simp only [Act.put, List.setIfInBounds_toArray, List.set_cons_zero, List.set_cons_succ])
            refine held_take 2 rfl (by kernel_rfl) (by kernel_rfl) (by kernel_rfl) (fun _ _ _ _ h => h) (by rfl) ?_ ?_ (by assumption) ?_
            rotate_left
            · (intro wx hSx; (try dsimp only at hSx); go_simp)
              all_goals with_reducible rfl
            (try simp only [Act.put, List.setIfInBounds_toArray, List.set_cons_zero, List.set_cons_succ])
            refine held_take 3 rfl (by kernel_rfl) (by kernel_rfl) (by kernel_rfl) (fun _ _ _ _ h => h) (by rfl) ?_ ?_ (by assumption) ?_
            rotate_left
            · (intro wx hSx; (try dsimp only at hSx); go_simp)
              all_goals with_reducible rfl
            (try simp only [Act.put, List.setIfInBounds_toArray, List.set_cons_zero, List.set_cons_succ])
            refine held_take 4 rfl (by kernel_rfl) (by kernel_rfl) (by kernel_rfl) (fun _ _ _ _ h => h) (by rfl) ?_ ?_ (by assumption) ?_
            rotate_left
            · (intro wx hSx; (try dsimp only at hSx); go_simp)
              all_goals with_reducible rfl
            (try simp only [Act.put, List.setIfInBounds_toArray, List.set_cons_zero, List.set_cons_succ])
            refine held_take 5 rfl (by kernel_rfl) (by kernel_rfl) (by kernel_rfl) (fun _ _ _ _ h => h) (by rfl) ?_ ?_ (by assumption) ?_
            rotate_left
            · (intro wx hSx; (try dsimp only at hSx); go_simp)
              all_goals with_reducible rfl
            (try simp only [Act.put, List.setIfInBounds_toArray, List.set_cons_zero, List.set_cons_succ])
            refine held_skip 6 rfl (by kernel_rfl) (by kernel_rfl) (by kernel_rfl) (fun _ _ _ _ h => h) (by rfl) (by assumption) ?_
            (try simp only [Act.put, List.setIfInBounds_toArray, List.set_cons_zero, List.set_cons_succ])
            refine held_skip 7 rfl (by kernel_rfl) (by kernel_rfl) (by kernel_rfl) (fun _ _ _ _ h => h) (by rfl) (by assumption) ?_
            (try simp only [Act.put, List.setIfInBounds_toArray, List.set_cons_zero, List.set_cons_succ])
            refine held_skip 8 rfl (by kernel_rfl) (by kernel_rfl) (by kernel_rfl) (fun _ _ _ _ h => h) (by rfl) (by assumption) ?_
            (try simp only [Act.put, List.setIfInBounds_toArray, List.set_cons_zero, List.set_cons_succ])
            refine held_skip 9 rfl (by kernel_rfl) (by kernel_rfl) (by kernel_rfl) (fun _ _ _ _ h => h) (by rfl) (by assumption) ?_
            (try simp only [Act.put, List.setIfInBounds_toArray, List.set_cons_zero, List.set_cons_succ])
            refine held_skip 10 rfl (by kernel_rfl) (by kernel_rfl) (by kernel_rfl) (fun _ _ _ _ h => h) (by rfl) (by assumption) ?_
            (try simp only [Act.put, List.setIfInBounds_toArray, List.set_cons_zero, List.set_cons_succ])
            refine held_skip 11 rfl (by kernel_rfl) (by kernel_rfl) (by kernel_rfl) (fun _ _ _ _ h => h) (by rfl) (by assumption) ?_
            (try simp only [Act.put, List.setIfInBounds_toArray, List.set_cons_zero, List.set_cons_succ])
            refine held_skip 12 rfl (by kernel_rfl) (by kernel_rfl) (by kernel_rfl) (fun _ _ _ _ h => h) (by rfl) (by assumption) ?_
            (try simp only [Act.put, List.setIfInBounds_toArray, List.set_cons_zero, List.set_cons_succ])
            refine held_skip 13 rfl (by kernel_rfl) (by kernel_rfl) (by kernel_rfl) (fun _ _ _ _ h => h) (by rfl) (by assumption) ?_
            (try simp only [Act.put, List.setIfInBounds_toArray, List.set_cons_zero, List.set_cons_succ])
            refine held_take 14 rfl (by kernel_rfl) (by kernel_rfl) (by kernel_rfl) (fun _ _ _ _ h => h) (by rfl) ?_ ?_ (by assumption) ?_
            rotate_left
            · (intro wx hSx; (try dsimp only at hSx); go_simp)
              all_goals with_reducible rfl
            (try simp only [Act.put, List.setIfInBounds_toArray, List.set_cons_zero, List.set_cons_succ])
            refine wpAnyH_done (by kernel_rfl) ?_ _
            clear hHeld keepC
            go_wp2_with fail
            go_roundw
            case rel => exact ⟨k + 1, by omega, by go_num, hE.drew⟩
            case measure => simp [intOf]; omega
        · obtain rfl : k = 4 := by omega
          have hUk := hU.ext hE
          have heq := fun w => eq_slots ss ss HL.out HL.out w
          rw [decide_eq_true rfl] at heq
          go_wp2_with (first
            | (with_reducible refine ag_load rfl 40 (.tmp 8) rfl w6.heap.size 12 w6.heap.size 40 _ rfl hUk agg_slots info_slots ?_)
            | (with_reducible refine ag_load rfl 40 (.tmp 1) rfl w.heap.size 12 w.heap.size 40 _ rfl hOk agg_slots info_slots ?_)
            | (go_at_call 22; refine (law9_awake _).mono ?_; rintro e w9 ⟨rfl, hE9⟩))
          go_ret
          exact ⟨rfl, hF.trans (hE.trans hE9)⟩
theorem law_DirBack (w : World) (x : Slot × Slot × Slot × Slot) : Calls Try.prog 6 #[.agg (ssV x).toArray] w fun e w' => e = .returned (.bool true) ∧ Ext w w' :=
  law9_back w [x.1, x.2.1, x.2.2.1, x.2.2.2] rfl
end Go.Proofs.Ytngffmchjjpfbaa
