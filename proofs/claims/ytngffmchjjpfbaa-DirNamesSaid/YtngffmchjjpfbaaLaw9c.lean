/- The statements on directories: names. -/
import Derived.Test.YtngffmchjjpfbaaLaw9
import Derived.Deep.DeepCutAuto
namespace Go.Proofs.Ytngffmchjjpfbaa
set_option linter.unusedVariables false
open Go.RowKit

theorem may9z : mayS zS = true := by decide +kernel
def g9 (s : ByteArray) : Bool := decide (1 ≤ s.toList.length) && (decide (s.toList.length ≤ 24) && (!(s.toList == [46]) && !(s.toList == [46, 46])))
def gd9 (s : ByteArray) (k : Nat) : Bool := g9 s && !((s.toList.take k).any badB)
theorem gd9_zero (s : ByteArray) : gd9 s 0 = g9 s := by simp [gd9]
theorem gd9_step {s : ByteArray} {k : Nat} {x : UInt8} (h : s.toList[k]? = some x) : gd9 s (k + 1) = (gd9 s k && !(badB x)) := by
  unfold gd9
  rw [List.take_add_one, h]
  simp [List.any_append, Bool.and_assoc]
theorem gd9_end {s : ByteArray} {k : Nat} (h : s.toList.length ≤ k) : gd9 s k = okN s := by
  unfold gd9 g9 okN okL
  rw [List.take_of_length_le h]
  cases decide (1 ≤ s.toList.length) <;> cases decide (s.toList.length ≤ 24) <;> cases (s.toList == [46]) <;> cases (s.toList == [46, 46]) <;> cases s.toList.any badB <;> rfl
def nl9 (s : ByteArray) : List Slot := [(1, 1, s), zS, zS, zS]
theorem nl9_may (s : ByteArray) : mayS (1, 1, s) = okN s := by
  unfold mayS
  have h : ¬ ((1, 1, s) : Slot) = zS := by intro h; cases h
  rw [decide_eq_false h]
  simp [inW]
theorem nl9_all (s : ByteArray) : allS (nl9 s) 4 ↔ okN s = true := by
  have z : ∀ j, j = 1 ∨ j = 2 ∨ j = 3 → goodS (nl9 s) j = true := by
    rintro j (rfl | rfl | rfl) <;> (unfold goodS; show (mayS zS && ((0 : Int) == 0 || _)) = true; rw [may9z]; rfl)
  have g : goodS (nl9 s) 0 = okN s := by
    unfold goodS
    show (mayS (1, 1, s) && ((1 : Int) == 0 || findL (nl9 s) s == ((0 : Nat) : Int))) = okN s
    have hf : findL (nl9 s) s = 0 := by
      unfold findL nl9 findA isNm
      simp
    rw [nl9_may, hf]
    cases okN s <;> rfl
  constructor
  · intro h
    rw [← g]
    exact h 0 (by omega)
  · intro h j hj
    rcases (show j = 0 ∨ (j = 1 ∨ j = 2 ∨ j = 3) by omega) with rfl | hj
    · rw [g]; exact h
    · exact z j hj
theorem bld9n (s : ByteArray) (w : World) : (Instr.build 39 #[(0, .int .i64 1), (1, .int .i64 1), (2, .string s)]).run Try.prog w = .ok (.agg (sV (1, 1, s)).toArray) w := by kernel_rfl
theorem bld9m (s : ByteArray) (w : World) : (Instr.build 40 #[(0, .agg (sV (1, 1, s)).toArray)]).run Try.prog w = .ok (.agg (LV (nl9 s)).toArray) w := by kernel_rfl
theorem nl9_zero (s : ByteArray) : sV (1, 1, s) = ((LV (nl9 s)).drop 0).take 3 := rfl
theorem Lay_nl9 (s : ByteArray) (b : Bool) (hb : okN s = b) (w : World) : Calls Try.prog 23 #[.agg (LV (nl9 s)).toArray] w fun e w' => ∃ A' n' c', e = .returned (.tuple #[.slice A' n' c', .int .i64 (if b = true then 0 else 2)]) ∧ Ext w w' :=
  (dir_Lay (nl9 s) rfl w).mono (by
    rintro e w' ⟨A', n', c', rfl, hn, hO, hE⟩
    refine ⟨A', n', c', ?_, hE⟩
    congr 3
    cases b
    · have : ¬ allS (nl9 s) 4 := by rw [nl9_all, hb]; decide
      rw [(layDL_bad this).2]; rfl
    · have : allS (nl9 s) 4 := by rw [nl9_all, hb]
      rw [(layDL_good this).2.1]; rfl)
section
variable {P : Program} {w : World} {ops : Array Oper} {rest : List Oper} {o : Oper} {a : Act} {Q : Exit → Act → World → Prop}
theorem ag_loadIs9 (us : List Value) (hw : Region.wanted o (yielded ops a.tmps) = true) (t : TypeId) (x : Operand) (ho : o.op = .load t x) (g off k n c B e : Nat) (vs : List Value) (hu : us = (vs.drop off).take k)
    (hx : a.eval x = .pointer (some ⟨g, off, none⟩)) (hO : Own w B e (some ⟨g, 0, none⟩) n c vs) (hagg : ∀ w1, (isAgg t).run P w1 = .ok true w1) (hi : (P.info? t).map (·.size) = some k) (hk : off + k ≤ n)
    (h : wpList P ops Q rest (a.put o.dst (.agg us.toArray)) w) : wpList P ops Q (o :: rest) a w :=
  ag_loadAt hw t x ho g off k n c B e vs hx hO hagg hi hk (hu ▸ h)
end
set_option maxRecDepth 100000 in
set_option maxHeartbeats 2000000 in
theorem law_DirNames (w : World) (s : ByteArray) (_hs : s.size ≤ maxLen) : Calls Try.prog 7 #[.string s] w fun e w' => e = .returned (.bool true) ∧ Ext w w' := by
  clear _hs
  have hl := len_toList s
  by_cases l1 : (60 : Int) < s.size
  · clear hl
    go_enter Try.func7, Try.ntmps7
    go_wp2_with (go_at_call 22; refine (law9_awake _).mono ?_; rintro e w5 ⟨rfl, hE5⟩)
    go_ret
    exact ⟨rfl, hE5⟩
  have HL := hide hl
  have hcase : (g9 s = false ∧ ¬ (1 : Int) ≤ s.size) ∨ (g9 s = false ∧ (1 : Int) ≤ s.size ∧ ¬ (s.size : Int) ≤ 24) ∨ (g9 s = false ∧ (1 : Int) ≤ s.size ∧ (s.size : Int) ≤ 24 ∧ (s.toList == [46]) = true) ∨
      (g9 s = false ∧ (1 : Int) ≤ s.size ∧ (s.size : Int) ≤ 24 ∧ (s.toList == [46]) = false ∧ (s.toList == [46, 46]) = true) ∨ (g9 s = true ∧ (1 : Int) ≤ s.size ∧ (s.size : Int) ≤ 24 ∧ (s.toList == [46]) = false ∧ (s.toList == [46, 46]) = false) := by
    unfold g9
    by_cases h1 : (1 : Int) ≤ s.size
    · rw [decide_eq_true (p := 1 ≤ s.toList.length) (by omega)]
      by_cases h2 : (s.size : Int) ≤ 24
      · rw [decide_eq_true (p := s.toList.length ≤ 24) (by omega)]
        cases h3 : (s.toList == [46])
        · cases h4 : (s.toList == [46, 46])
          · exact .inr (.inr (.inr (.inr ⟨rfl, h1, h2, rfl, rfl⟩)))
          · exact .inr (.inr (.inr (.inl ⟨rfl, h1, h2, rfl, rfl⟩)))
        · exact .inr (.inr (.inl ⟨by simp, h1, h2, rfl⟩))
      · exact .inr (.inl ⟨by rw [decide_eq_false (p := s.toList.length ≤ 24) (by omega)]; rfl, h1, h2⟩)
    · exact .inl ⟨by rw [decide_eq_false (p := 1 ≤ s.toList.length) (by omega)]; rfl, h1⟩
  have HCA := hide hcase
  clear hcase hl
  go_enter Try.func7, Try.ntmps7
  go_upto_region 3 with fail
  go_cut [3] (fun v wx => v = .bool (g9 s) ∧ w = wx)
  case first =>
    rcases HCA.out with ⟨hg, h1⟩ | ⟨hg, h1, h2⟩ | ⟨hg, h1, h2, h3⟩ | ⟨hg, h1, h2, h3, h4⟩ | ⟨hg, h1, h2, h3, h4⟩ <;>
      (have HG := hide hg; clear hg; go_wp2_with fail; go_meet; exact ⟨by rw [HG.out], rfl⟩)
  case rest =>
  obtain ⟨rfl, rfl⟩ := hcut
  go_wp2_with fail
  go_loopw [3, 4] (fun v j wr => ∃ k : Nat, k ≤ s.size ∧ v = .bool (gd9 s k) ∧ j = .int .i64 k ∧ w = wr) (fun _ j _ => s.size - (intOf j).toNat)
  case atStart => exact ⟨0, by omega, by rw [gd9_zero], rfl, rfl⟩
  case round =>
    obtain ⟨k, hk, rfl, rfl, rfl⟩ := hrel
    by_cases hlt : k < s.size
    · have hlt' : (k : Int) < (s.size : Int) := by omega
      obtain ⟨x, hx⟩ : ∃ x : UInt8, s[k]'hlt = x := ⟨_, rfl⟩
      have hxl : s.toList[k]? = some x := by rw [Lib.toList_data, ← hx]; exact Lib.data_getElem? s k hlt
      have HS := hide (gd9_step hxl)
      clear hxl
      cases hg : gd9 s k
      · have HG := hide hg
        clear hg
        go_wp2_with fail
        go_roundw
        case rel => exact ⟨k + 1, by omega, by rw [HS.out, HG.out]; rfl, by go_num, trivial⟩
        case measure => simp [intOf]; omega
      · have HG := hide hg
        clear hg
        by_cases h47 : x = 47
        · subst h47
          have k1 : (((47 : UInt8).toNat : Int) == 47) = true := rfl
          go_wp2_with fail
          go_roundw
          case rel => exact ⟨k + 1, by omega, by rw [HS.out, HG.out]; rfl, by go_num, trivial⟩
          case measure => simp [intOf]; omega
        · by_cases h0 : x = 0
          · subst h0
            have k1 : (((0 : UInt8).toNat : Int) == 0) = true := rfl
            go_wp2_with fail
            go_roundw
            case rel => exact ⟨k + 1, by omega, by rw [HS.out, HG.out]; rfl, by go_num, trivial⟩
            case measure => simp [intOf]; omega
          · have hb' : badB x = false := by simp [badB, h47, h0]
            have k1 : ¬ (x.toNat : Int) = 47 := fun e => h47 (UInt8.toNat_inj.1 (by show x.toNat = 47; omega))
            have k2 : ¬ (x.toNat : Int) = 0 := fun e => h0 (UInt8.toNat_inj.1 (by show x.toNat = 0; omega))
            have HB := hide hb'
            clear hb' h47 h0
            go_wp2_with fail
            go_roundw
            case rel => exact ⟨k + 1, by omega, by rw [HS.out, HG.out, HB.out]; simp [k1]; omega, by go_num, trivial⟩
            case measure => simp [intOf]; omega
    · obtain rfl : k = s.size := by omega
      rw [gd9_end (by rw [HL.out]; exact Nat.le_refl _)]
      have x1 := fun b (hb : okN s = b) w => Lay_nl9 s b hb w
      have x2 := fun w => dir_Name s w
      have x3 := fun w => dir_May (1, 1, s) w
      rw [nl9_may] at x3
      have hF := Ext.refl w
      clear HCA hlt
      cases hok : okN s
      all_goals
        have X1 := hide (x1 _ hok)
        rw [hok] at x2 x3
        have X2 := hide x2
        have X3 := hide x3
        clear x1 x2 x3 hok
        go_wp2_with (first
          | (refine ag_build (o := ⟨some 48, _, _, _, _, _⟩) rfl 39 _ rfl _ (bld9n s _) ?_)
          | (refine ag_build (o := ⟨some 49, _, _, _, _, _⟩) rfl 40 _ rfl _ (bld9m s _) ?_)
          | (with_reducible refine ag_alloc (o := ⟨some 5, _, _, _, _, _⟩) rfl 40 rfl _ 12 zero_slots rfl (by omega) (LV_one zL) w.heap.size (Nat.le_refl _) ?_; intro w1 hR1 hE1 hz1; replace hF := hF.trans hE1)
          | (with_reducible refine ag_store (o := ⟨none, _, _, _, _, _⟩) rfl 40 (.tmp 5) (.tmp 49) rfl w.heap.size 12 w.heap.size 40 _ (LV (nl9 s)) rfl rfl hR1 rfl (LV_one _) info_slots ?_; intro w2 hB hG2; replace hF := hF.grown hG2 (by simp))
          | (with_reducible refine ag_load rfl 40 (.tmp 5) rfl w.heap.size 12 w.heap.size 40 _ rfl hB agg_slots info_slots ?_))
        refine (X1.out _).mono ?_
        rintro e w3 ⟨A1, n1, c1, rfl, hE3⟩
        replace hB := hB.ext hE3
        replace hF := hF.trans hE3
        go_wp2_with fail
        refine (X2.out _).mono ?_
        rintro e w4 ⟨rfl, hE4⟩
        replace hB := hB.ext hE4
        replace hF := hF.trans hE4
        go_wp2_with (with_reducible refine ag_loadIs9 (sV (1, 1, s)) rfl 39 _ rfl w.heap.size 0 3 12 12 w.heap.size 40 _ (nl9_zero s) rfl hB agg_slot info_slot (by omega) ?_)
        refine (X3.out _).mono ?_
        rintro e w5 ⟨rfl, hE5⟩
        go_wp2_with (go_at_call 22; refine (law9_awake _).mono ?_; rintro e w6 ⟨rfl, hE6⟩)
        go_ret
        exact ⟨rfl, hF.trans (hE5.trans hE6)⟩
end Go.Proofs.Ytngffmchjjpfbaa
