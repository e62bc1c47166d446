/- The walk of slices' symMerge, whole. -/
import Derived.Test.YtillhbbeghbfeaaDoorSrtN
import Derived.Deep.DeepCutAuto
import Derived.Deep.CutBlock
namespace Go.Proofs.YtillhbbeghbfeaaDoor
set_option linter.unusedVariables false
set_option linter.unusedSimpArgs false
open Go.RowKit

theorem Within.perm {m : Nat} {a b : List Int} (h : Within m a) (p : b.Perm a) : Within m b := fun z hz => h z (p.mem_iff.1 hz)
/-- What symMerge does with at most d elements. -/
def SymAt (w0 : World) (bx g n c m0 : Nat) (K : Int → Int) (d : Nat) : Prop :=
  ∀ (w : World) (X L R Y : List Int) (a m b : Nat), L ≠ [] → R ≠ [] → L.length + R.length ≤ d → Row w0 w g n c (X ++ (L ++ (R ++ Y))) → Within m0 (X ++ (L ++ (R ++ Y))) → Two K L R → a = X.length → m = a + L.length → b = m + R.length →
    Calls Tryd.prog 57 #[.slice (some ⟨g, 0, none⟩) n c, .int .i64 a, .int .i64 m, .int .i64 b, cmpV bx] w fun e w' =>
      e = .returned (.tuple #[]) ∧ ∃ Z, Z.Pairwise (LT K) ∧ Z.Perm (L ++ R) ∧ Row w0 w' g n c (X ++ (Z ++ Y))
/-- The bounds of the search. -/
def LoHi (a m b mid n lo hi : Nat) : Prop := (mid < m ∧ lo = n - b ∧ hi = mid) ∨ (m ≤ mid ∧ lo = a ∧ hi = m)
set_option maxRecDepth 100000 in
set_option maxHeartbeats 8000000 in
theorem sym_gen {w0 w : World} {bx g n c m0 d : Nat} {K : Int → Int} {X L R Y : List Int} (HC : CmpAt w0 bx m0 K) (ih : SymAt w0 bx g n c m0 K d) (h : Row w0 w g n c (X ++ (L ++ (R ++ Y)))) (hw : Within m0 (X ++ (L ++ (R ++ Y)))) (hT : Two K L R) (hn : n ≤ 1000000) (a m b : Nat) (ha : a = X.length) (hm : m = a + L.length) (hb : b = m + R.length) (hl2 : 2 ≤ L.length) (hr2 : 2 ≤ R.length) (hd : L.length + R.length ≤ d + 1) :
    Calls Tryd.prog 57 #[.slice (some ⟨g, 0, none⟩) n c, .int .i64 a, .int .i64 m, .int .i64 b, cmpV bx] w fun e w' =>
      e = .returned (.tuple #[]) ∧ ∃ Z, Z.Pairwise (LT K) ∧ Z.Perm (L ++ R) ∧ Row w0 w' g n c (X ++ (Z ++ Y)) := by
  have hlen := h.len
  simp only [List.length_append] at hlen
  have hc := h.1.sl.nc
  have hcm := h.1.sl.cm
  obtain ⟨zs, hzs⟩ : ∃ zs, zs = X ++ (L ++ (R ++ Y)) := ⟨_, rfl⟩
  have hzl : zs.length = n := by rw [hzs]; exact h.len
  have hbn : b ≤ n := by omega
  obtain ⟨mid, hmid⟩ : ∃ mid, mid = (a + b) / 2 := ⟨_, rfl⟩
  obtain ⟨n1, hn1⟩ : ∃ n1, n1 = mid + m := ⟨_, rfl⟩
  obtain ⟨q, hq⟩ : ∃ q, q = n1 - 1 := ⟨_, rfl⟩
  have W0 : IntKind.i64.wrap ((m : Int) - (a : Int)) = ((m - a : Nat) : Int) := wrap_sub (by omega) (by omega)
  obtain ⟨ma, hma⟩ : ∃ ma, ma = m - a := ⟨_, rfl⟩
  rw [← hma] at W0
  have W1 : IntKind.i64.wrap ((b : Int) - (m : Int)) = ((b - m : Nat) : Int) := wrap_sub (by omega) (by omega)
  obtain ⟨bm, hbm⟩ : ∃ bm, bm = b - m := ⟨_, rfl⟩
  rw [← hbm] at W1
  have i0 : ((ma : Int) == 1) = false := by simp; omega
  have i1 : ((bm : Int) == 1) = false := by simp; omega
  have eh : ((a : Int) + (b : Int)) / 2 = (mid : Int) := by omega
  have W2 : IntKind.i64.wrap ((mid : Int) + (m : Int)) = (n1 : Int) := by rw [wrap_nat2 (by omega), hn1]
  have W3 : IntKind.i64.wrap ((n1 : Int) - 1) = (q : Int) := by
    have := wrap_sub (a := n1) (b := 1) (by omega) (by omega)
    rw [hq]
    exact this
  have HB4 := hide (show mid < m → b ≤ n1 by omega)
  have hn1n : n1 ≤ 2000000 := by omega
  have hmn : m ≤ n := by omega
  have han : a ≤ n := by omega
  have HMM := hide (show a < mid ∧ mid < b ∧ q + 1 = n1 by omega)
  have HL := hide (And.intro ha (And.intro hm (And.intro hb (And.intro hmid (And.intro hn1 hlen)))))
  have H2 := hide (And.intro hl2 (And.intro hr2 hd))
  have HF := hide (And.intro hT hw)
  have HR := hide h
  have HZ := hide hzs
  clear ha hm hb hmid hn1 hq hlen hl2 hr2 hd hT hw h hma hbm hzs
  unfold cmpV
  go_enter Tryd.func57, Tryd.ntmps57
  go_upto_if 140 with fail
  go_cut [20, 21] from 140 to 146 (fun s20 s21 wx => ∃ lo hi : Nat, s20 = .int .i64 lo ∧ s21 = .int .i64 hi ∧ wx = w ∧ LoHi a m b mid n1 lo hi)
  case first =>
    by_cases hmm : mid < m
    · have i2 : (m : Int) > (mid : Int) := by omega
      have W4 : IntKind.i64.wrap ((n1 : Int) - (b : Int)) = ((n1 - b : Nat) : Int) := wrap_sub (HB4.out hmm) (by omega)
      obtain ⟨lo, hlo⟩ : ∃ lo, lo = n1 - b := ⟨_, rfl⟩
      rw [← hlo] at W4
      have HLO := hide hlo
      clear hlo
      go_wp2_with fail
      go_meet
      case rel => exact ⟨lo, mid, rfl, rfl, rfl, Or.inl ⟨hmm, HLO.out, rfl⟩⟩
    · have i2 : ¬ (m : Int) > (mid : Int) := by omega
      go_wp2_with fail
      go_meet
      case rel => exact ⟨a, m, rfl, rfl, rfl, Or.inr ⟨by omega, rfl, rfl⟩⟩
  case rest =>
    obtain ⟨lo, hi, rfl, rfl, rfl, hlo⟩ := hcut
    obtain ⟨G, hG⟩ : ∃ G : Nat → Prop, G = fun t => LT K (dAt zs t) (dAt zs (q - t)) := ⟨_, rfl⟩
    have hlohi : lo ≤ hi ∧ a ≤ lo ∧ hi ≤ m ∧ q < lo + b ∧ m + hi ≤ q + 1 := by
      obtain ⟨q1, q2, q3, q4, q5, q6⟩ := HL.out
      obtain ⟨q7, q8, q9⟩ := HMM.out
      rcases hlo with ⟨e1, e2, e3⟩ | ⟨e1, e2, e3⟩ <;> omega
    have hmono : ∀ s t, lo ≤ s → s < t → t < hi → G t → G s := by
      obtain ⟨q1, q2, q3, q4, q5, q6⟩ := HL.out
      have := mono_two (Y := Y) HF.out.1 q1 q2 q3 q4 q5 HMM.out.2.2 hlo H2.out.1 H2.out.2.1
      rw [hG, HZ.out]
      exact this
    have hs : BinW G lo hi wc (.int .i64 (lo : Nat)) (.int .i64 (hi : Nat)) wc := ⟨lo, hi, rfl, rfl, Bin.start hlohi.1, Ext.refl wc⟩
    have HM := hide (And.intro hmono (And.intro hlo hG))
    have hlohi' := hide hlohi
    clear hmono hlo hG W0 W1 i0 i1 eh W2 hlohi
    go_wp2_with fail
    clear W3
    go_loopw [20, 21] (fun vi vj wr => BinW G lo hi wc vi vj wr) (fun vi vj _ => (intOf vj).toNat - (intOf vi).toNat)
    case atStart => exact hs
    case round =>
      clear hs
      obtain ⟨i, j, rfl, rfl, hB, hE⟩ := hrel
      by_cases hij : i < j
      · have hB1 := hB.1
        have hB3 := hB.2.2.1
        have i2 : (i : Int) < (j : Int) := by omega
        obtain ⟨hh, ehh⟩ : ∃ hh, hh = (i + j) / 2 := ⟨_, rfl⟩
        have eh : ((i : Int) + (j : Int)) / 2 = (hh : Int) := by omega
        have h1 : i ≤ hh := by omega
        have h2 : hh < j := by omega
        have W1 : IntKind.i64.wrap ((q : Int) - (hh : Int)) = ((q - hh : Nat) : Int) := wrap_sub (by have := hlohi'.out; omega) (by have := HMM.out; omega)
        obtain ⟨p, hp⟩ : ∃ p, p = q - hh := ⟨_, rfl⟩
        rw [← hp] at W1
        have hpm : m ≤ p ∧ p < b ∧ a ≤ hh ∧ hh < m := by have := hlohi'.out; omega
        have i3 : (hh : Int) < (n : Int) := by omega
        have i4 : (p : Int) < (n : Int) := by omega
        have hRr := HR.out.ext hE
        rw [← HZ.out] at hRr
        have cy := hRr.cellD (i := hh) (by omega)
        have cx := hRr.cellD (i := p) (by omega)
        obtain ⟨x, hx⟩ : ∃ x, dAt zs p = x := ⟨_, rfl⟩
        obtain ⟨y, hy⟩ : ∃ y, dAt zs hh = y := ⟨_, rfl⟩
        rw [hx] at cx
        rw [hy] at cy
        have hwz := HF.out.2
        rw [← HZ.out] at hwz
        have hxr := dAt_in hwz (i := p) (by omega)
        have hyr := dAt_in hwz (i := hh) (by omega)
        rw [hx] at hxr
        rw [hy] at hyr
        have hyx : y < x := by
          obtain ⟨q1, q2, q3, q4, q5, q6⟩ := HL.out
          refine HF.out.1.lt y ?_ x ?_
          · rw [← hy, HZ.out]
            exact dAt_memL q1 (by omega) (by omega)
          · rw [← hx, HZ.out, show X ++ (L ++ (R ++ Y)) = (X ++ L) ++ (R ++ Y) by simp]
            exact dAt_memL (a := m) (by rw [List.length_append]; omega) (by omega) (by omega)
        obtain ⟨r, hr, hcall⟩ := HC wr.drew (hRr.2.trans (Ext.refl wr).drew) x y hxr.1 hxr.2 hyr.1 hyr.2
        rw [← LT.key hyx] at hr
        have hGx : G hh ↔ LT K y x := by rw [HM.out.2.2]; dsimp only; rw [← hp, hx, hy]
        have HCC := hide hcall
        have HB := hide hB
        have W2 : IntKind.i64.wrap ((hh : Int) + 1) = ((hh + 1 : Nat) : Int) := wrap_nat2 (a := hh) (b := 1) (by omega)
        obtain ⟨h3, eh3⟩ : ∃ h3, h3 = hh + 1 := ⟨_, rfl⟩
        rw [← eh3] at W2
        have E3 := hide (And.intro eh3 (And.intro ehh (And.intro hp hyx)))
        have hB4 : i + j ≤ 2000000 := by omega
        clear hcall hxr hyr hyx hB hRr eh3 ehh hp hpm hwz hx hy
        by_cases hrr : r < 0
        · have HRR := hide (Bin.dn (G := G) HM.out.1 HB.out h1 h2 (fun hg => by have t1 := hr.1 hrr; have t2 := hGx.1 hg; have := E3.out; unfold LT at t1 t2; omega))
          have I8 := hide (show decide (r < 0) = true by simp; omega)
          clear hr hGx
          go_wp2_with fail
          refine wp_region_held_drew (S := (fun w' => w'.cell? ⟨g, p, none⟩ = some (.int .i64 x) ∧ w'.cell? ⟨g, hh, none⟩ = some (.int .i64 y))) (by kernel_rfl) ⟨(Ext.refl wr).drew.cell cx, (Ext.refl wr).drew.cell cy⟩ (fun hHeld => ?_)
          refine held_take 0 rfl (by kernel_rfl) (by kernel_rfl) (by kernel_rfl) (fun _ _ _ _ h => h) (by rfl) ?_ ?_ (by assumption) ?_
          rotate_left
          · (intro wx hSx; (try dsimp only at hSx); go_simp)
            all_goals with_reducible rfl
          (try simp only [Act.put, List.setIfInBounds_toArray, List.set_cons_zero, List.set_cons_succ])
          refine held_take 1 rfl (by kernel_rfl) (by kernel_rfl) (by kernel_rfl) (fun _ _ _ _ h => h) (by rfl) ?_ ?_ (by assumption) ?_
          rotate_left
          · (intro wx hSx; (try dsimp only at hSx); go_simp)
            all_goals with_reducible rfl
          (try simp only [Act.put, List.setIfInBounds_toArray, List.set_cons_zero, List.set_cons_succ])
          refine held_take 2 rfl (by kernel_rfl) (by kernel_rfl) (by kernel_rfl) (fun _ _ _ _ h => h) (by rfl) ?_ ?_ (by assumption) ?_
          rotate_left
          · (intro wx hSx; (try dsimp only at hSx); go_simp)
            all_goals with_reducible rfl
          (try simp only [Act.put, List.setIfInBounds_toArray, List.set_cons_zero, List.set_cons_succ])
          refine held_take 3 rfl (by kernel_rfl) (by kernel_rfl) (by kernel_rfl) (fun _ _ _ _ h => h) (by rfl) ?_ ?_ (by assumption) ?_
          rotate_left
          · (intro wx hSx; (try dsimp only at hSx); go_simp)
            all_goals with_reducible rfl
          (try simp only [Act.put, List.setIfInBounds_toArray, List.set_cons_zero, List.set_cons_succ])
          refine held_take 4 rfl (by kernel_rfl) (by kernel_rfl) (by kernel_rfl) (fun _ _ _ _ h => h) (by rfl) ?_ ?_ (by assumption) ?_
          rotate_left
          · (intro wx hSx; (try dsimp only at hSx); go_simp)
            all_goals with_reducible rfl
          (try simp only [Act.put, List.setIfInBounds_toArray, List.set_cons_zero, List.set_cons_succ])
          refine held_take 5 rfl (by kernel_rfl) (by kernel_rfl) (by kernel_rfl) (fun _ _ _ _ h => h) (by rfl) ?_ ?_ (by assumption) ?_
          rotate_left
          · (intro wx hSx; (try dsimp only at hSx); go_simp)
            all_goals with_reducible rfl
          (try simp only [Act.put, List.setIfInBounds_toArray, List.set_cons_zero, List.set_cons_succ])
          refine held_take 6 rfl (by kernel_rfl) (by kernel_rfl) (by kernel_rfl) (fun _ _ _ _ h => h) (by rfl) ?_ ?_ (by assumption) ?_
          rotate_left
          · (intro wx hSx; (try dsimp only at hSx); go_simp)
            all_goals with_reducible rfl
          (try simp only [Act.put, List.setIfInBounds_toArray, List.set_cons_zero, List.set_cons_succ])
          refine held_take 7 rfl (by kernel_rfl) (by kernel_rfl) (by kernel_rfl) (fun _ _ _ _ h => h) (by rfl) ?_ ?_ (by assumption) ?_
          rotate_left
          · (intro wx hSx; (try dsimp only at hSx); go_simp)
            all_goals with_reducible rfl
          (try simp only [Act.put, List.setIfInBounds_toArray, List.set_cons_zero, List.set_cons_succ])
          refine held_take 8 rfl (by kernel_rfl) (by kernel_rfl) (by kernel_rfl) (fun _ _ _ _ h => h) (by rfl) ?_ ?_ (by assumption) ?_
          rotate_left
          · (intro wx hSx; (try dsimp only at hSx); go_simp)
            all_goals with_reducible rfl
          (try simp only [Act.put, List.setIfInBounds_toArray, List.set_cons_zero, List.set_cons_succ])
          refine held_take 9 rfl (by kernel_rfl) (by kernel_rfl) (by kernel_rfl) (fun _ _ _ _ h => h) (by rfl) ?_ ?_ (by assumption) ?_
          rotate_left
          · (intro wx hSx; (try dsimp only at hSx); go_simp)
            all_goals with_reducible rfl
          (try simp only [Act.put, List.setIfInBounds_toArray, List.set_cons_zero, List.set_cons_succ])
          refine held_take 10 rfl (by kernel_rfl) (by kernel_rfl) (by kernel_rfl) (fun _ _ _ _ h => h) (by rfl) ?_ ?_ (by assumption) ?_
          rotate_left
          · (intro wx hSx; (try dsimp only at hSx); go_simp)
            all_goals with_reducible rfl
          (try simp only [Act.put, List.setIfInBounds_toArray, List.set_cons_zero, List.set_cons_succ])
          refine held_call 11 rfl (by kernel_rfl) (fun K hK => ?_)
          go_simp
          go_at_call 47
          refine HCC.out.mono ?_
          rintro e w5 ⟨rfl, hE5⟩
          have hE5' := hE.trans ((Ext.refl wr).drew.trans hE5)
          go_wp2_with fail
          refine hK.out _ _ ⟨hE5.cell hHeld.1, hE5.cell hHeld.2⟩ (fun hHeld => ?_)
          clear hK K
          (try simp only [Act.put, List.setIfInBounds_toArray, List.set_cons_zero, List.set_cons_succ])
          refine held_take 12 rfl (by kernel_rfl) (by kernel_rfl) (by kernel_rfl) (fun _ _ _ _ h => h) (by rfl) ?_ ?_ (by assumption) ?_
          rotate_left
          · (intro wx hSx; (try dsimp only at hSx); go_simp)
            all_goals with_reducible rfl
          (try simp only [Act.put, List.setIfInBounds_toArray, List.set_cons_zero, List.set_cons_succ])
          (try rw [I8.out])
          refine held_take 13 rfl (by kernel_rfl) (by kernel_rfl) (by kernel_rfl) (fun _ _ _ _ h => h) (by rfl) ?_ ?_ (by assumption) ?_
          rotate_left
          · (intro wx hSx; (try dsimp only at hSx); go_simp)
            all_goals with_reducible rfl
          (try simp only [Act.put, List.setIfInBounds_toArray, List.set_cons_zero, List.set_cons_succ])
          refine wpAnyH_done (by kernel_rfl) ?_ _
          go_wp2_with fail
          go_roundw
          case rel => exact ⟨i, hh, rfl, rfl, HRR.out, hE5'⟩
          case measure =>
            have := E3.out
            simp [intOf]
            omega
        · have HRR := hide (Bin.up (G := G) HM.out.1 HB.out h1 h2 (hGx.2 (LT.tot (fun t1 => hrr (hr.2 t1)) (by have := E3.out; omega))))
          have I8 := hide (show decide (r < 0) = false by simp; omega)
          clear hr hGx
          go_wp2_with fail
          refine wp_region_held_drew (S := (fun w' => w'.cell? ⟨g, p, none⟩ = some (.int .i64 x) ∧ w'.cell? ⟨g, hh, none⟩ = some (.int .i64 y))) (by kernel_rfl) ⟨(Ext.refl wr).drew.cell cx, (Ext.refl wr).drew.cell cy⟩ (fun hHeld => ?_)
          refine held_take 0 rfl (by kernel_rfl) (by kernel_rfl) (by kernel_rfl) (fun _ _ _ _ h => h) (by rfl) ?_ ?_ (by assumption) ?_
          rotate_left
          · (intro wx hSx; (try dsimp only at hSx); go_simp)
            all_goals with_reducible rfl
          (try simp only [Act.put, List.setIfInBounds_toArray, List.set_cons_zero, List.set_cons_succ])
          refine held_take 1 rfl (by kernel_rfl) (by kernel_rfl) (by kernel_rfl) (fun _ _ _ _ h => h) (by rfl) ?_ ?_ (by assumption) ?_
          rotate_left
          · (intro wx hSx; (try dsimp only at hSx); go_simp)
            all_goals with_reducible rfl
          (try simp only [Act.put, List.setIfInBounds_toArray, List.set_cons_zero, List.set_cons_succ])
          refine held_take 2 rfl (by kernel_rfl) (by kernel_rfl) (by kernel_rfl) (fun _ _ _ _ h => h) (by rfl) ?_ ?_ (by assumption) ?_
          rotate_left
          · (intro wx hSx; (try dsimp only at hSx); go_simp)
            all_goals with_reducible rfl
          (try simp only [Act.put, List.setIfInBounds_toArray, List.set_cons_zero, List.set_cons_succ])
          refine held_take 3 rfl (by kernel_rfl) (by kernel_rfl) (by kernel_rfl) (fun _ _ _ _ h => h) (by rfl) ?_ ?_ (by assumption) ?_
          rotate_left
          · (intro wx hSx; (try dsimp only at hSx); go_simp)
            all_goals with_reducible rfl
          (try simp only [Act.put, List.setIfInBounds_toArray, List.set_cons_zero, List.set_cons_succ])
          refine held_take 4 rfl (by kernel_rfl) (by kernel_rfl) (by kernel_rfl) (fun _ _ _ _ h => h) (by rfl) ?_ ?_ (by assumption) ?_
          rotate_left
          · (intro wx hSx; (try dsimp only at hSx); go_simp)
            all_goals with_reducible rfl
          (try simp only [Act.put, List.setIfInBounds_toArray, List.set_cons_zero, List.set_cons_succ])
          refine held_take 5 rfl (by kernel_rfl) (by kernel_rfl) (by kernel_rfl) (fun _ _ _ _ h => h) (by rfl) ?_ ?_ (by assumption) ?_
          rotate_left
          · (intro wx hSx; (try dsimp only at hSx); go_simp)
            all_goals with_reducible rfl
          (try simp only [Act.put, List.setIfInBounds_toArray, List.set_cons_zero, List.set_cons_succ])
          refine held_take 6 rfl (by kernel_rfl) (by kernel_rfl) (by kernel_rfl) (fun _ _ _ _ h => h) (by rfl) ?_ ?_ (by assumption) ?_
          rotate_left
          · (intro wx hSx; (try dsimp only at hSx); go_simp)
            all_goals with_reducible rfl
          (try simp only [Act.put, List.setIfInBounds_toArray, List.set_cons_zero, List.set_cons_succ])
          refine held_take 7 rfl (by kernel_rfl) (by kernel_rfl) (by kernel_rfl) (fun _ _ _ _ h => h) (by rfl) ?_ ?_ (by assumption) ?_
          rotate_left
          · (intro wx hSx; (try dsimp only at hSx); go_simp)
            all_goals with_reducible rfl
          (try simp only [Act.put, List.setIfInBounds_toArray, List.set_cons_zero, List.set_cons_succ])
          refine held_take 8 rfl (by kernel_rfl) (by kernel_rfl) (by kernel_rfl) (fun _ _ _ _ h => h) (by rfl) ?_ ?_ (by assumption) ?_
          rotate_left
          · (intro wx hSx; (try dsimp only at hSx); go_simp)
            all_goals with_reducible rfl
          (try simp only [Act.put, List.setIfInBounds_toArray, List.set_cons_zero, List.set_cons_succ])
          refine held_take 9 rfl (by kernel_rfl) (by kernel_rfl) (by kernel_rfl) (fun _ _ _ _ h => h) (by rfl) ?_ ?_ (by assumption) ?_
          rotate_left
          · (intro wx hSx; (try dsimp only at hSx); go_simp)
            all_goals with_reducible rfl
          (try simp only [Act.put, List.setIfInBounds_toArray, List.set_cons_zero, List.set_cons_succ])
          refine held_take 10 rfl (by kernel_rfl) (by kernel_rfl) (by kernel_rfl) (fun _ _ _ _ h => h) (by rfl) ?_ ?_ (by assumption) ?_
          rotate_left
          · (intro wx hSx; (try dsimp only at hSx); go_simp)
            all_goals with_reducible rfl
          (try simp only [Act.put, List.setIfInBounds_toArray, List.set_cons_zero, List.set_cons_succ])
          refine held_call 11 rfl (by kernel_rfl) (fun K hK => ?_)
          go_simp
          go_at_call 47
          refine HCC.out.mono ?_
          rintro e w5 ⟨rfl, hE5⟩
          have hE5' := hE.trans ((Ext.refl wr).drew.trans hE5)
          go_wp2_with fail
          refine hK.out _ _ ⟨hE5.cell hHeld.1, hE5.cell hHeld.2⟩ (fun hHeld => ?_)
          clear hK K
          (try simp only [Act.put, List.setIfInBounds_toArray, List.set_cons_zero, List.set_cons_succ])
          refine held_take 12 rfl (by kernel_rfl) (by kernel_rfl) (by kernel_rfl) (fun _ _ _ _ h => h) (by rfl) ?_ ?_ (by assumption) ?_
          rotate_left
          · (intro wx hSx; (try dsimp only at hSx); go_simp)
            all_goals with_reducible rfl
          (try simp only [Act.put, List.setIfInBounds_toArray, List.set_cons_zero, List.set_cons_succ])
          (try rw [I8.out])
          refine held_take 13 rfl (by kernel_rfl) (by kernel_rfl) (by kernel_rfl) (fun _ _ _ _ h => h) (by rfl) ?_ ?_ (by assumption) ?_
          rotate_left
          · (intro wx hSx; (try dsimp only at hSx); go_simp)
            all_goals with_reducible rfl
          (try simp only [Act.put, List.setIfInBounds_toArray, List.set_cons_zero, List.set_cons_succ])
          refine wpAnyH_done (by kernel_rfl) ?_ _
          go_wp2_with fail
          go_roundw
          case rel => exact ⟨h3, j, rfl, rfl, by rw [E3.out.1]; exact HRR.out, hE5'⟩
          case measure =>
            have := E3.out
            simp [intOf]
            omega
      · obtain rfl : i = j := by have := hB.2.1; omega
        have i2 : ¬ (i : Int) < (i : Int) := by omega
        obtain ⟨en, hen⟩ : ∃ en, en = n1 - i := ⟨_, rfl⟩
        have hC : a ≤ i ∧ i ≤ m ∧ m ≤ en ∧ en ≤ b ∧ i - a + (en - m) = mid - a ∧ (∀ x ∈ L.take (i - a), ∀ y ∈ R.drop (en - m), LT K x y) ∧ (∀ x ∈ R.take (en - m), ∀ y ∈ L.drop (i - a), LT K x y) := by
          obtain ⟨q1, q2, q3, q4, q5, q6⟩ := HL.out
          rw [HM.out.2.2, HZ.out] at hB
          exact cut_two HF.out.1 q1 q2 q3 q4 q5 HMM.out.2.2 H2.out.1 H2.out.2.1 HM.out.2.1 hB hen
        have W5 : IntKind.i64.wrap ((n1 : Int) - (i : Int)) = ((n1 - i : Nat) : Int) := wrap_sub (by have := hB.2.2.1; have := hlohi'.out; have := HMM.out; omega) (by omega)
        rw [← hen] at W5
        obtain ⟨L1, hL1⟩ : ∃ L1, L1 = L.take (i - a) := ⟨_, rfl⟩
        obtain ⟨L2, hL2⟩ : ∃ L2, L2 = L.drop (i - a) := ⟨_, rfl⟩
        obtain ⟨R1, hR1⟩ : ∃ R1, R1 = R.take (en - m) := ⟨_, rfl⟩
        obtain ⟨R2, hR2⟩ : ∃ R2, R2 = R.drop (en - m) := ⟨_, rfl⟩
        have hLL : L = L1 ++ L2 := by rw [hL1, hL2, List.take_append_drop]
        have hRR : R = R1 ++ R2 := by rw [hR1, hR2, List.take_append_drop]
        rw [← hL1, ← hL2, ← hR1, ← hR2] at hC
        have hlens : L1.length = i - a ∧ L2.length = m - i ∧ R1.length = en - m ∧ R2.length = b - en ∧ mid = i + (en - m) ∧ i ≤ n ∧ en ≤ n := by
          obtain ⟨q1, q2, q3, q4, q5, q6⟩ := HL.out
          rw [hL1, hL2, hR1, hR2, List.length_take, List.length_drop, List.length_take, List.length_drop]
          have := HMM.out
          omega
        have hin : i ≤ n := hlens.2.2.2.2.2.1
        have henn : en ≤ n := hlens.2.2.2.2.2.2
        have hRow := HR.out.ext hE
        have hsplit : X ++ (L ++ (R ++ Y)) = X ++ (L1 ++ L2) ++ (R1 ++ (R2 ++ Y)) := by rw [hLL, hRR]; simp
        rw [hsplit] at hRow
        have HRow := hide hRow
        have HS := hide (And.intro hLL (And.intro hRR hsplit))
        have HC2 := hide hC
        have HLn := hide hlens
        clear hRow hLL hRR hC hlens hL1 hL2 hR1 hR2 hsplit hB hE hij hen
        go_upto_region 39 with fail
        go_cut [185] from 178 to 185 (fun s wx => ∃ bb : Bool, s = .bool bb ∧ (bb = true ↔ (i < m ∧ m < en)) ∧ wx = wr)
        case first =>
          by_cases h1 : i < m
          · have i3 : (i : Int) < (m : Int) := by omega
            by_cases h2 : m < en
            · have i4 : (m : Int) < (en : Int) := by omega
              go_wp2_with fail
              go_meet
              case rel => exact ⟨true, rfl, by simp [h1, h2], rfl⟩
            · have i4 : ¬ (m : Int) < (en : Int) := by omega
              go_wp2_with fail
              go_meet
              case rel => exact ⟨false, rfl, by simp [h2], rfl⟩
          · have i3 : ¬ (i : Int) < (m : Int) := by omega
            go_wp2_with fail
            go_meet
            case rel => exact ⟨false, rfl, by simp [h1], rfl⟩
        case rest =>
        obtain ⟨bb, rfl, hbb, hww⟩ := hcut
        subst wc
        have HBB := hide hbb
        clear hbb
        go_upto_if 185 with fail
        go_cut [] from 186 to 191 (fun wx => Row w0 wx g n c (X ++ (L1 ++ (R1 ++ (L2 ++ (R2 ++ Y))))))
        case first =>
          cases bb with
          | true =>
            have hab := HBB.out.1 rfl
            obtain ⟨e1, e2, e3, e4, e5, e6, e7⟩ := HLn.out
            obtain ⟨q1, q2, q3, q4, q5, q6⟩ := HL.out
            have hrot := hide (rot_mid (X := X) (L1 := L1) (L2 := L2) (R1 := R1) (T := R2 ++ Y) (a := i) (m := m) (b := en) (by rw [List.length_append]; have := HC2.out; omega) (by have := HC2.out; omega) (by have := HC2.out; omega))
            have HRT := hide (rotate_row HRow.out i m en hab.1 hab.2 henn hn (.func (.func 47) #[] #[.pointer (some ⟨bx, 0, none⟩)]))
            clear e1 e2 e3 e4 e5 e6 e7 q1 q2 q3 q4 q5 q6
            go_wp2_with (go_at_call 63; with_reducible refine HRT.out.mono ?_; rintro e w5 ⟨rfl, hR5⟩)
            go_meet
            case rel =>
              rw [hrot.out] at hR5
              simpa using hR5
          | false =>
            have hab : ¬ (i < m ∧ m < en) := fun h => by cases HBB.out.2 h
            have he : X ++ (L1 ++ L2) ++ (R1 ++ (R2 ++ Y)) = X ++ (L1 ++ (R1 ++ (L2 ++ (R2 ++ Y)))) := by
              obtain ⟨e1, e2, e3, e4, e5, e6, e7⟩ := HLn.out
              have hc2 := HC2.out
              by_cases hz : L2.length = 0
              · rw [List.eq_nil_of_length_eq_zero hz]; simp
              · rw [List.eq_nil_of_length_eq_zero (show R1.length = 0 by omega)]; simp
            have HRW := HRow.out
            rw [he] at HRW
            have HRW2 := hide HRW
            clear HRW he
            go_wp2_with fail
            go_meet
            case rel => exact HRW2.out
        case rest =>
        rename World => w1
        have HRow1 := hide hcut
        clear hcut
        go_upto_region 41 with fail
        go_cut [199] from 192 to 199 (fun s wx => ∃ bb : Bool, s = .bool bb ∧ (bb = true ↔ (a < i ∧ i < mid)) ∧ wx = w1)
        case first =>
          by_cases h1 : a < i
          · have i3 : (a : Int) < (i : Int) := by omega
            by_cases h2 : i < mid
            · have i4 : (i : Int) < (mid : Int) := by omega
              go_wp2_with fail
              go_meet
              case rel => exact ⟨true, rfl, by simp [h1, h2], rfl⟩
            · have i4 : ¬ (i : Int) < (mid : Int) := by omega
              go_wp2_with fail
              go_meet
              case rel => exact ⟨false, rfl, by simp [h2], rfl⟩
          · have i3 : ¬ (a : Int) < (i : Int) := by omega
            go_wp2_with fail
            go_meet
            case rel => exact ⟨false, rfl, by simp [h1], rfl⟩
        case rest =>
        obtain ⟨bb, rfl, hbb, hww⟩ := hcut
        subst wc
        have HBB := hide hbb
        clear hbb
        go_upto_if 199 with fail
        go_cut [] from 200 to 205 (fun wx => ∃ Z1 : List Int, Z1.Pairwise (LT K) ∧ Z1.Perm (L1 ++ R1) ∧ Row w0 wx g n c (X ++ (Z1 ++ (L2 ++ (R2 ++ Y)))))
        case first =>
          cases bb with
          | true =>
            have hab := HBB.out.1 rfl
            have H1 : Calls Tryd.prog 57 #[.slice (some ⟨g, 0, none⟩) n c, .int .i64 a, .int .i64 i, .int .i64 mid, cmpV bx] w1 fun e w' => e = .returned (.tuple #[]) ∧ ∃ Z, Z.Pairwise (LT K) ∧ Z.Perm (L1 ++ R1) ∧ Row w0 w' g n c (X ++ (Z ++ (L2 ++ (R2 ++ Y)))) := by
              obtain ⟨e1, e2, e3, e4, e5, e6, e7⟩ := HLn.out
              obtain ⟨q1, q2, q3, q4, q5, q6⟩ := HL.out
              have hc2 := HC2.out
              have hT := HF.out.1
              rw [HS.out.1, HS.out.2.1] at hT
              have h2 := H2.out
              refine ih w1 X L1 R1 (L2 ++ (R2 ++ Y)) a i mid (fun e => by rw [e] at e1; simp at e1; omega) (fun e => by rw [e] at e3; simp at e3; omega) (by have := HMM.out; omega) HRow1.out (Within.perm HF.out.2 ?_) ⟨(List.pairwise_append.1 hT.sl).1, (List.pairwise_append.1 hT.sr).1, fun x hx y hy => hT.lt x (List.mem_append_left _ hx) y (List.mem_append_left _ hy)⟩ q1 (by omega) (by omega)
              rw [HS.out.2.2]
              simp only [List.append_assoc]
              refine List.Perm.append_left X (List.Perm.append_left L1 ?_)
              rw [← List.append_assoc R1, ← List.append_assoc L2]
              exact List.Perm.append_right _ List.perm_append_comm
            unfold cmpV at H1
            have HH1 := hide H1
            clear H1
            go_wp2_with (go_at_call 57; with_reducible refine HH1.out.mono ?_; rintro e w5 ⟨rfl, hR5⟩)
            go_meet
            case rel => exact hR5
          | false =>
            have hab : ¬ (a < i ∧ i < mid) := fun h => by cases HBB.out.2 h
            have hz : ∃ Z1 : List Int, Z1.Pairwise (LT K) ∧ Z1.Perm (L1 ++ R1) ∧ Row w0 w1 g n c (X ++ (Z1 ++ (L2 ++ (R2 ++ Y)))) := by
              have hT := HF.out.1
              rw [HS.out.1, HS.out.2.1] at hT
              refine ⟨L1 ++ R1, ?_, List.Perm.refl _, by simpa using HRow1.out⟩
              obtain ⟨e1, e2, e3, e4, e5, e6, e7⟩ := HLn.out
              have hc2 := HC2.out
              by_cases hz : L1.length = 0
              · rw [List.eq_nil_of_length_eq_zero hz]; exact (List.pairwise_append.1 hT.sr).1
              · rw [List.eq_nil_of_length_eq_zero (show R1.length = 0 by omega), List.append_nil]; exact (List.pairwise_append.1 hT.sl).1
            have HZ1 := hide hz
            clear hz
            go_wp2_with fail
            go_meet
            case rel => exact HZ1.out
        case rest =>
        rename World => w2
        obtain ⟨Z1, hz1, hz2, hz3⟩ := hcut
        have HZ1 := hide (And.intro hz1 hz2)
        have HRow2 := hide hz3
        clear hz1 hz2 hz3
        go_upto_region 43 with fail
        go_cut [213] from 206 to 213 (fun s wx => ∃ bb : Bool, s = .bool bb ∧ (bb = true ↔ (mid < en ∧ en < b)) ∧ wx = w2)
        case first =>
          by_cases h1 : mid < en
          · have i3 : (mid : Int) < (en : Int) := by omega
            by_cases h2 : en < b
            · have i4 : (en : Int) < (b : Int) := by omega
              go_wp2_with fail
              go_meet
              case rel => exact ⟨true, rfl, by simp [h1, h2], rfl⟩
            · have i4 : ¬ (en : Int) < (b : Int) := by omega
              go_wp2_with fail
              go_meet
              case rel => exact ⟨false, rfl, by simp [h2], rfl⟩
          · have i3 : ¬ (mid : Int) < (en : Int) := by omega
            go_wp2_with fail
            go_meet
            case rel => exact ⟨false, rfl, by simp [h1], rfl⟩
        case rest =>
        obtain ⟨bb, rfl, hbb, hww⟩ := hcut
        subst wc
        have HBB := hide hbb
        clear hbb
        cases bb with
        | true =>
          have hab := HBB.out.1 rfl
          have H1 : Calls Tryd.prog 57 #[.slice (some ⟨g, 0, none⟩) n c, .int .i64 mid, .int .i64 en, .int .i64 b, cmpV bx] w2 fun e w' => e = .returned (.tuple #[]) ∧ ∃ Z, Z.Pairwise (LT K) ∧ Z.Perm (L2 ++ R2) ∧ Row w0 w' g n c ((X ++ Z1) ++ (Z ++ Y)) := by
            obtain ⟨e1, e2, e3, e4, e5, e6, e7⟩ := HLn.out
            obtain ⟨q1, q2, q3, q4, q5, q6⟩ := HL.out
            have hc2 := HC2.out
            have hT := HF.out.1
            rw [HS.out.1, HS.out.2.1] at hT
            have h2 := H2.out
            have hz1 := HZ1.out.2.length_eq
            rw [List.length_append] at hz1
            refine ih w2 (X ++ Z1) L2 R2 Y mid en b (fun e => by rw [e] at e2; simp at e2; omega) (fun e => by rw [e] at e4; simp at e4; omega) (by have := HMM.out; omega) (by simpa using HRow2.out) (Within.perm HF.out.2 ?_) ⟨(List.pairwise_append.1 hT.sl).2.1, (List.pairwise_append.1 hT.sr).2.1, fun x hx y hy => hT.lt x (List.mem_append_right _ hx) y (List.mem_append_right _ hy)⟩ (by rw [List.length_append]; omega) (by omega) (by omega)
            rw [HS.out.2.2]
            simp only [List.append_assoc]
            refine List.Perm.append_left X ((List.Perm.append_right _ HZ1.out.2).trans ?_)
            rw [List.append_assoc]
            refine List.Perm.append_left L1 ?_
            rw [← List.append_assoc R1, ← List.append_assoc L2]
            exact List.Perm.append_right _ List.perm_append_comm
          unfold cmpV at H1
          have HH1 := hide H1
          clear H1
          go_wp2_with (go_at_call 57; with_reducible refine HH1.out.mono ?_; rintro e w5 ⟨rfl, Z2, hz1, hz2, hz3⟩)
          have hfin : ∃ Z, Z.Pairwise (LT K) ∧ Z.Perm (L ++ R) ∧ Row w0 w5 g n c (X ++ (Z ++ Y)) := by
            have hT := HF.out.1
            rw [HS.out.1, HS.out.2.1] at hT
            have := merge_cut hT.sl hT.sr HC2.out.2.2.2.2.2.1 HC2.out.2.2.2.2.2.2 HZ1.out.1 HZ1.out.2 hz1 hz2
            rw [← HS.out.1, ← HS.out.2.1] at this
            exact ⟨Z1 ++ Z2, this.1, this.2, by simpa using hz3⟩
          have HFin := hide hfin
          clear hfin hz1 hz2 hz3
          go_wp2_with fail
          go_end0
          exact ⟨rfl, HFin.out⟩
        | false =>
          have hab : ¬ (mid < en ∧ en < b) := fun h => by cases HBB.out.2 h
          have hz : ∃ Z2 : List Int, Z2.Pairwise (LT K) ∧ Z2.Perm (L2 ++ R2) ∧ Row w0 w2 g n c (X ++ (Z1 ++ (Z2 ++ Y))) := by
            have hT := HF.out.1
            rw [HS.out.1, HS.out.2.1] at hT
            refine ⟨L2 ++ R2, ?_, List.Perm.refl _, by simpa using HRow2.out⟩
            obtain ⟨e1, e2, e3, e4, e5, e6, e7⟩ := HLn.out
            have hc2 := HC2.out
            by_cases hz : L2.length = 0
            · rw [List.eq_nil_of_length_eq_zero hz]; exact (List.pairwise_append.1 hT.sr).2.1
            · rw [List.eq_nil_of_length_eq_zero (show R2.length = 0 by omega), List.append_nil]; exact (List.pairwise_append.1 hT.sl).2.1
          obtain ⟨Z2, hz1, hz2, hz3⟩ := hz
          have hfin : ∃ Z, Z.Pairwise (LT K) ∧ Z.Perm (L ++ R) ∧ Row w0 w2 g n c (X ++ (Z ++ Y)) := by
            have hT := HF.out.1
            rw [HS.out.1, HS.out.2.1] at hT
            have := merge_cut hT.sl hT.sr HC2.out.2.2.2.2.2.1 HC2.out.2.2.2.2.2.2 HZ1.out.1 HZ1.out.2 hz1 hz2
            rw [← HS.out.1, ← HS.out.2.1] at this
            exact ⟨Z1 ++ Z2, this.1, this.2, by simpa using hz3⟩
          have HFin := hide hfin
          clear hfin hz1 hz2 hz3
          go_wp2_with fail
          go_end0
          exact ⟨rfl, HFin.out⟩
end Go.Proofs.YtillhbbeghbfeaaDoor
