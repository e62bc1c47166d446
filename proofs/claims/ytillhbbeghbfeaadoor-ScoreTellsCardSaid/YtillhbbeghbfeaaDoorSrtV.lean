/- The walk of slices' stable sort, of at most 40 elements. -/
import Derived.Test.YtillhbbeghbfeaaDoorSrtO
namespace Go.Proofs.YtillhbbeghbfeaaDoor
set_option linter.unusedVariables false
set_option linter.unusedSimpArgs false
open Go.RowKit

/-- The places 0, 1, .. -/
def idx (n : Nat) : List Int := (List.range n).map (fun i : Nat => (i : Int))
theorem idx_len (n : Nat) : (idx n).length = n := by simp [idx]
theorem idx_lt (n : Nat) : (idx n).Pairwise (· < ·) := by
  unfold idx
  rw [List.pairwise_map]
  exact List.pairwise_lt_range.imp (fun h => by omega)
theorem idx_in (n : Nat) : Within n (idx n) := by
  intro z hz
  obtain ⟨i, hi, rfl⟩ := List.mem_map.1 hz
  rw [List.mem_range] at hi
  omega
theorem sym_all {w0 : World} {bx g n c m0 : Nat} {K : Int → Int} (HC : CmpAt w0 bx m0 K) (hn : n ≤ 1000000) : ∀ d, SymAt w0 bx g n c m0 K d
  | 0 => fun w X L R Y a m b hL hR hd => by
    have : L.length = 0 := by omega
    exact absurd (List.eq_nil_of_length_eq_zero this) hL
  | d + 1 => fun w X L R Y a m b hL hR hd h hw hT ha hm hb => by
    by_cases h1 : L.length = 1
    · obtain ⟨y, rfl⟩ := List.length_eq_one_iff.1 h1
      refine (sym_ahead (R := R) (Y := Y) HC (by simpa using h) (by simpa using hw) hT.sr (fun z hz => hT.lt y (by simp) z hz) hn a m b ha hm hb).mono ?_
      rintro e w' ⟨rfl, Z, z1, z2, z3⟩
      exact ⟨rfl, Z, z1, by simpa using z2, by simpa using z3⟩
    · by_cases h2 : R.length = 1
      · obtain ⟨y, rfl⟩ := List.length_eq_one_iff.1 h2
        refine (sym_behind HC h hw hT.sl (fun z hz => hT.lt z hz y (by simp)) hn a m b ha hm (by simpa using hb) h1).mono ?_
        rintro e w' ⟨rfl, Z, z1, z2, z3⟩
        exact ⟨rfl, Z, z1, z2, by simpa using z3⟩
      · have h3 : L.length ≠ 0 := fun e => hL (List.eq_nil_of_length_eq_zero e)
        have h4 : R.length ≠ 0 := fun e => hR (List.eq_nil_of_length_eq_zero e)
        exact sym_gen HC (sym_all HC hn d) h hw hT hn a m b ha hm hb (by omega) (by omega) hd
theorem insertion_at {w0 w : World} {bx g n c m : Nat} {K : Int → Int} {X L Y : List Int} (HC : CmpAt w0 bx m K) (h : Row w0 w g n c (X ++ (L ++ Y))) (hw : Within m (X ++ (L ++ Y))) (hr : L.Pairwise (· < ·)) (hn : n ≤ 1000000) (a b : Nat) (ha : a = X.length) (hb : b = a + L.length) :
    Calls Tryd.prog 56 #[.slice (some ⟨g, 0, none⟩) n c, .int .i64 a, .int .i64 b, cmpV bx] w fun e w' =>
      e = .returned (.tuple #[]) ∧ ∃ Z, Z.Pairwise (LT K) ∧ Z.Perm L ∧ Row w0 w' g n c (X ++ (Z ++ Y)) := by
  subst ha
  refine (insertion_row HC (by simpa using h) (by simpa using hw) hr hn b hb).mono ?_
  rintro e w' ⟨rfl, Z, z1, z2, z3⟩
  exact ⟨rfl, Z, z1, z2, by simpa using z3⟩
/-- The first row of blocks: how far the blocks are sorted. -/
def Blk (w0 : World) (g n c : Nat) (K : Int → Int) (va vb : Value) (wr : World) : Prop :=
  (va = .int .i64 0 ∧ vb = .int .i64 20 ∧ Row w0 wr g n c (idx n)) ∨
  (20 ≤ n ∧ va = .int .i64 20 ∧ vb = .int .i64 40 ∧ ∃ Z1, Z1.Pairwise (LT K) ∧ Z1.Perm ((idx n).take 20) ∧ Row w0 wr g n c (Z1 ++ (idx n).drop 20)) ∨
  (n = 40 ∧ va = .int .i64 40 ∧ vb = .int .i64 60 ∧ ∃ Z1 Z2, Z1.Pairwise (LT K) ∧ Z1.Perm ((idx n).take 20) ∧ Z2.Pairwise (LT K) ∧ Z2.Perm ((idx n).drop 20) ∧ Row w0 wr g n c (Z1 ++ Z2))
/-- All blocks sorted. -/
def Blks (w0 : World) (g n c : Nat) (K : Int → Int) (wr : World) : Prop :=
  ∃ Z1 Z2, Z1.Pairwise (LT K) ∧ Z1.Perm ((idx n).take 20) ∧ Z2.Pairwise (LT K) ∧ Z2.Perm ((idx n).drop 20) ∧ Row w0 wr g n c (Z1 ++ Z2)
def Srtd (w0 : World) (g n c : Nat) (K : Int → Int) (wr : World) : Prop := ∃ Z, Z.Pairwise (LT K) ∧ Z.Perm (idx n) ∧ Row w0 wr g n c Z
theorem Blks.done {w0 wr : World} {g n c : Nat} {K : Int → Int} (h : Blks w0 g n c K wr) (hn : n ≤ 20) : Srtd w0 g n c K wr := by
  obtain ⟨Z1, Z2, h1, h2, h3, h4, h5⟩ := h
  have e : (idx n).drop 20 = [] := List.drop_eq_nil_of_le (by rw [idx_len]; exact hn)
  rw [e] at h4
  have := h4.eq_nil
  subst this
  rw [List.take_of_length_le (by rw [idx_len]; exact hn)] at h2
  exact ⟨Z1, h1, h2, by simpa using h5⟩
theorem Blks.len {n : Nat} {Z1 : List Int} (h2 : Z1.Perm ((idx n).take 20)) (h : 20 ≤ n) : Z1.length = 20 := by
  rw [h2.length_eq, List.length_take, idx_len]
  omega
theorem Blks.two {n : Nat} {K : Int → Int} {Z1 Z2 : List Int} (h1 : Z1.Pairwise (LT K)) (h2 : Z1.Perm ((idx n).take 20)) (h3 : Z2.Pairwise (LT K)) (h4 : Z2.Perm ((idx n).drop 20)) : Two K Z1 Z2 := by
  refine ⟨h1, h3, fun x hx y hy => ?_⟩
  have hl := idx_lt n
  rw [← List.take_append_drop 20 (idx n)] at hl
  exact (List.pairwise_append.1 hl).2.2 x (h2.mem_iff.1 hx) y (h4.mem_iff.1 hy)
theorem Blks.perm {n : Nat} {Z1 Z2 : List Int} (h2 : Z1.Perm ((idx n).take 20)) (h4 : Z2.Perm ((idx n).drop 20)) : (Z1 ++ Z2).Perm (idx n) := by
  have := h2.append h4
  rwa [List.take_append_drop] at this
/-- One merge of both blocks. -/
theorem sym_blks {w0 wr : World} {bx g n c : Nat} {K : Int → Int} (HC : CmpAt w0 bx n K) (h : Blks w0 g n c K wr) (h20 : 20 < n) (hn : n ≤ 40) (b : Int) (hb : b = (n : Int)) :
    Calls Tryd.prog 57 #[.slice (some ⟨g, 0, none⟩) n c, .int .i64 0, .int .i64 20, .int .i64 b, cmpV bx] wr fun e w' => e = .returned (.tuple #[]) ∧ Srtd w0 g n c K w' := by
  subst hb
  obtain ⟨Z1, Z2, h1, h2, h3, h4, h5⟩ := h
  have l1 := Blks.len h2 (by omega)
  have l2 : Z2.length = n - 20 := by rw [h4.length_eq, List.length_drop, idx_len]
  obtain ⟨d, hd⟩ : ∃ d, d = 100 := ⟨_, rfl⟩
  have := sym_all (n := n) (g := g) (c := c) HC (by omega) d wr [] Z1 Z2 [] 0 20 n (fun e => by rw [e] at l1; simp at l1) (fun e => by rw [e] at l2; simp at l2; omega) (by omega) (by simpa using h5) (Within.perm (idx_in n) (by simpa using Blks.perm h2 h4)) (Blks.two h1 h2 h3 h4) rfl (by omega) (by omega)
  refine this.mono ?_
  rintro e w' ⟨rfl, Z, z1, z2, z3⟩
  exact ⟨rfl, Z, z1, z2.trans (Blks.perm h2 h4), by simpa using z3⟩
theorem ins_first {w0 wr : World} {bx g n c : Nat} {K : Int → Int} (HC : CmpAt w0 bx n K) (h : Row w0 wr g n c (idx n)) (h20 : 20 ≤ n) (hn : n ≤ 40) :
    Calls Tryd.prog 56 #[.slice (some ⟨g, 0, none⟩) n c, .int .i64 0, .int .i64 20, cmpV bx] wr fun e w' => e = .returned (.tuple #[]) ∧ ∃ Z1, Z1.Pairwise (LT K) ∧ Z1.Perm ((idx n).take 20) ∧ Row w0 w' g n c (Z1 ++ (idx n).drop 20) := by
  have hl := idx_lt n
  rw [← List.take_append_drop 20 (idx n)] at hl
  have := insertion_at (X := []) (L := (idx n).take 20) (Y := (idx n).drop 20) HC (by simpa using h) (by simpa using idx_in n) (List.pairwise_append.1 hl).1 (by omega) 0 20 rfl (by rw [List.length_take, idx_len]; omega)
  refine this.mono ?_
  rintro e w' ⟨rfl, Z, z1, z2, z3⟩
  exact ⟨rfl, Z, z1, z2, by simpa using z3⟩
theorem ins_second {w0 wr : World} {bx g n c : Nat} {K : Int → Int} {Z1 : List Int} (HC : CmpAt w0 bx n K) (h1 : Z1.Pairwise (LT K)) (h2 : Z1.Perm ((idx n).take 20)) (h : Row w0 wr g n c (Z1 ++ (idx n).drop 20)) (h20 : 20 ≤ n) (hn : n ≤ 40) (b : Int) (hb : b = (n : Int)) :
    Calls Tryd.prog 56 #[.slice (some ⟨g, 0, none⟩) n c, .int .i64 20, .int .i64 b, cmpV bx] wr fun e w' => e = .returned (.tuple #[]) ∧ Blks w0 g n c K w' := by
  subst hb
  have hl := idx_lt n
  rw [← List.take_append_drop 20 (idx n)] at hl
  have l1 := Blks.len h2 (by omega)
  have := insertion_at (X := Z1) (L := (idx n).drop 20) (Y := []) HC (by simpa using h) (Within.perm (idx_in n) (by simpa using Blks.perm h2 (List.Perm.refl _))) (List.pairwise_append.1 hl).2.1 (by omega) 20 n l1.symm (by rw [List.length_drop, idx_len]; omega)
  refine this.mono ?_
  rintro e w' ⟨rfl, Z, z1, z2, z3⟩
  exact ⟨rfl, Z1, Z, h1, h2, z1, z2, by simpa using z3⟩
theorem ins_small {w0 wr : World} {bx g n c : Nat} {K : Int → Int} (HC : CmpAt w0 bx n K) (h : Row w0 wr g n c (idx n)) (hn : n < 20) :
    Calls Tryd.prog 56 #[.slice (some ⟨g, 0, none⟩) n c, .int .i64 0, .int .i64 n, cmpV bx] wr fun e w' => e = .returned (.tuple #[]) ∧ Blks w0 g n c K w' := by
  have := insertion_at (X := []) (L := idx n) (Y := []) HC (by simpa using h) (by simpa using idx_in n) (idx_lt n) (by omega) 0 n rfl (by rw [idx_len]; omega)
  refine this.mono ?_
  rintro e w' ⟨rfl, Z, z1, z2, z3⟩
  refine ⟨rfl, Z, [], z1, ?_, List.Pairwise.nil, ?_, by simpa using z3⟩
  · rw [List.take_of_length_le (by rw [idx_len]; omega)]; exact z2
  · rw [List.drop_eq_nil_of_le (by rw [idx_len]; omega)]
theorem ins_none {w0 wr : World} {bx g n c : Nat} {K : Int → Int} {Z1 Z2 : List Int} (HC : CmpAt w0 bx n K) (h1 : Z1.Pairwise (LT K)) (h2 : Z1.Perm ((idx n).take 20)) (h3 : Z2.Pairwise (LT K)) (h4 : Z2.Perm ((idx n).drop 20)) (h : Row w0 wr g n c (Z1 ++ Z2)) (h40 : n = 40) :
    Calls Tryd.prog 56 #[.slice (some ⟨g, 0, none⟩) n c, .int .i64 40, .int .i64 n, cmpV bx] wr fun e w' => e = .returned (.tuple #[]) ∧ Blks w0 g n c K w' := by
  have l1 := Blks.len h2 (by omega)
  have l2 : Z2.length = 20 := by rw [h4.length_eq, List.length_drop, idx_len]; omega
  have := insertion_at (X := Z1 ++ Z2) (L := []) (Y := []) HC (by simpa using h) (Within.perm (idx_in n) (by simpa using Blks.perm h2 h4)) List.Pairwise.nil (by omega) 40 n (by rw [List.length_append]; omega) (by simpa using h40)
  refine this.mono ?_
  rintro e w' ⟨rfl, Z, z1, z2, z3⟩
  have := z2.eq_nil
  subst this
  exact ⟨rfl, Z1, Z2, h1, h2, h3, h4, by simpa using z3⟩
set_option maxRecDepth 100000 in
set_option maxHeartbeats 8000000 in
theorem stable_row {w0 w : World} {bx g n c : Nat} {K : Int → Int} (HC : CmpAt w0 bx n K) (h : Row w0 w g n c (idx n)) (hn : n ≤ 40) :
    Calls Tryd.prog 51 #[.slice (some ⟨g, 0, none⟩) n c, .int .i64 n, cmpV bx] w fun e w' => e = .returned (.tuple #[]) ∧ Srtd w0 g n c K w' := by
  have hs : Blk w0 g n c K (.int .i64 0) (.int .i64 20) w := Or.inl ⟨rfl, rfl, h⟩
  have hc := h.1.sl.nc
  have hcm := h.1.sl.cm
  unfold cmpV
  have HCC := hide HC
  clear HC h
  go_enter Tryd.func51, Tryd.ntmps51
  go_wp2_with fail
  go_loopw [7, 8] (fun va vb wr => Blk w0 g n c K va vb wr) (fun _ vb _ => 100 - (intOf vb).toNat)
  case atStart => exact hs
  case round =>
    clear hs
    rcases hrel with ⟨rfl, rfl, hR⟩ | ⟨h20, rfl, rfl, Z1, z1, z2, hR⟩ | ⟨h40, rfl, rfl, Z1, Z2, z1, z2, z3, z4, hR⟩
    · by_cases h20 : 20 ≤ n
      · have i2 : (20 : Int) ≤ (n : Int) := by omega
        have HS := ins_first HCC.out hR h20 hn
        unfold cmpV at HS
        have HSS := hide HS
        clear HS hR
        go_wp2_with (go_at_call 56; with_reducible refine HSS.out.mono ?_; rintro e w5 ⟨rfl, hR5⟩)
        go_roundw
        case rel => exact Or.inr (Or.inl ⟨h20, rfl, rfl, hR5⟩)
        case measure => simp [intOf]
      · have i2 : ¬ (20 : Int) ≤ (n : Int) := by omega
        have HS := ins_small HCC.out hR (by omega)
        unfold cmpV at HS
        have HSS := hide HS
        clear HS hR
        go_wp2_with (go_at_call 56; with_reducible refine HSS.out.mono ?_; rintro e w5 ⟨rfl, hB⟩)
        have HB := hide hB
        clear hB
        go_loopw [6] (fun v6 wr => (v6 = .int .i64 20 ∧ Blks w0 g n c K wr) ∨ (v6 = .int .i64 40 ∧ Srtd w0 g n c K wr)) (fun v6 _ => 100 - (intOf v6).toNat)
        case atStart => exact Or.inl ⟨rfl, HB.out⟩
        case round =>
          rcases hrel with ⟨rfl, hB⟩ | ⟨rfl, hB⟩
          · by_cases h20 : 20 < n
            · have i2 : (20 : Int) < (n : Int) := by omega
              have HB2 := hide hB
              clear hB
              go_wp2_with fail
              go_loopw [7, 8] (fun va vb wr => (va = .int .i64 0 ∧ vb = .int .i64 40 ∧ Blks w0 g n c K wr) ∨ (n = 40 ∧ va = .int .i64 40 ∧ vb = .int .i64 80 ∧ Srtd w0 g n c K wr)) (fun _ vb _ => 100 - (intOf vb).toNat)
              case atStart => exact Or.inl ⟨rfl, rfl, HB2.out⟩
              case round =>
                rcases hrel with ⟨rfl, rfl, hB⟩ | ⟨h40, rfl, rfl, hB⟩
                · by_cases h40 : 40 ≤ n
                  · have H40 := hide (show n = 40 by omega)
                    have i3 : (40 : Int) ≤ (n : Int) := by omega
                    have HS := sym_blks HCC.out hB (by omega) (by omega) 40 (by have := H40.out; omega)
                    unfold cmpV at HS
                    have HSS := hide HS
                    clear HS hB
                    go_wp2_with (go_at_call 57; with_reducible refine HSS.out.mono ?_; rintro e w5 ⟨rfl, hR5⟩)
                    go_roundw
                    case rel => exact Or.inr ⟨H40.out, rfl, rfl, hR5⟩
                    case measure => simp [intOf]
                  · have i3 : ¬ (40 : Int) ≤ (n : Int) := by omega
                    have HS := sym_blks HCC.out hB (by omega) (by omega) n rfl
                    unfold cmpV at HS
                    have HSS := hide HS
                    clear HS hB
                    go_wp2_with (go_at_call 57; with_reducible refine HSS.out.mono ?_; rintro e w5 ⟨rfl, hR5⟩)
                    go_roundw
                    case rel => exact Or.inr ⟨rfl, hR5⟩
                    case measure => simp [intOf]
                · have i3 : ¬ (80 : Int) ≤ (n : Int) := by omega
                  have i4 : ¬ (60 : Int) < (n : Int) := by omega
                  have HB3 := hide hB
                  clear hB h40
                  go_wp2_with fail
                  go_roundw
                  case rel => exact Or.inr ⟨rfl, HB3.out⟩
                  case measure => simp [intOf]
            · have i2 : ¬ (20 : Int) < (n : Int) := by omega
              have HB2 := hide (hB.done (by omega))
              clear hB
              go_wp2_with fail
              go_end0
              exact ⟨rfl, HB2.out⟩
          · have i2 : ¬ (40 : Int) < (n : Int) := by omega
            have HB2 := hide hB
            clear hB
            go_wp2_with fail
            go_end0
            exact ⟨rfl, HB2.out⟩
    · by_cases h40 : 40 ≤ n
      · have H40 := hide (show n = 40 by omega)
        have i2 : (40 : Int) ≤ (n : Int) := by omega
        have HS := ins_second HCC.out z1 z2 hR h20 hn 40 (by have := H40.out; omega)
        unfold cmpV at HS
        have HSS := hide HS
        clear HS hR z1 z2
        go_wp2_with (go_at_call 56; with_reducible refine HSS.out.mono ?_; rintro e w5 ⟨rfl, hR5⟩)
        go_roundw
        case rel =>
          obtain ⟨Z1, Z2, h1, h2, h3, h4, h5⟩ := hR5
          exact Or.inr (Or.inr ⟨H40.out, rfl, rfl, Z1, Z2, h1, h2, h3, h4, h5⟩)
        case measure => simp [intOf]
      · have i2 : ¬ (40 : Int) ≤ (n : Int) := by omega
        have HS := ins_second HCC.out z1 z2 hR h20 hn n rfl
        unfold cmpV at HS
        have HSS := hide HS
        clear HS hR z1 z2
        go_wp2_with (go_at_call 56; with_reducible refine HSS.out.mono ?_; rintro e w5 ⟨rfl, hB⟩)
        have HB := hide hB
        clear hB
        go_loopw [6] (fun v6 wr => (v6 = .int .i64 20 ∧ Blks w0 g n c K wr) ∨ (v6 = .int .i64 40 ∧ Srtd w0 g n c K wr)) (fun v6 _ => 100 - (intOf v6).toNat)
        case atStart => exact Or.inl ⟨rfl, HB.out⟩
        case round =>
          rcases hrel with ⟨rfl, hB⟩ | ⟨rfl, hB⟩
          · by_cases h20 : 20 < n
            · have i2 : (20 : Int) < (n : Int) := by omega
              have HB2 := hide hB
              clear hB
              go_wp2_with fail
              go_loopw [7, 8] (fun va vb wr => (va = .int .i64 0 ∧ vb = .int .i64 40 ∧ Blks w0 g n c K wr) ∨ (n = 40 ∧ va = .int .i64 40 ∧ vb = .int .i64 80 ∧ Srtd w0 g n c K wr)) (fun _ vb _ => 100 - (intOf vb).toNat)
              case atStart => exact Or.inl ⟨rfl, rfl, HB2.out⟩
              case round =>
                rcases hrel with ⟨rfl, rfl, hB⟩ | ⟨h40, rfl, rfl, hB⟩
                · by_cases h40 : 40 ≤ n
                  · have H40 := hide (show n = 40 by omega)
                    have i3 : (40 : Int) ≤ (n : Int) := by omega
                    have HS := sym_blks HCC.out hB (by omega) (by omega) 40 (by have := H40.out; omega)
                    unfold cmpV at HS
                    have HSS := hide HS
                    clear HS hB
                    go_wp2_with (go_at_call 57; with_reducible refine HSS.out.mono ?_; rintro e w5 ⟨rfl, hR5⟩)
                    go_roundw
                    case rel => exact Or.inr ⟨H40.out, rfl, rfl, hR5⟩
                    case measure => simp [intOf]
                  · have i3 : ¬ (40 : Int) ≤ (n : Int) := by omega
                    have HS := sym_blks HCC.out hB (by omega) (by omega) n rfl
                    unfold cmpV at HS
                    have HSS := hide HS
                    clear HS hB
                    go_wp2_with (go_at_call 57; with_reducible refine HSS.out.mono ?_; rintro e w5 ⟨rfl, hR5⟩)
                    go_roundw
                    case rel => exact Or.inr ⟨rfl, hR5⟩
                    case measure => simp [intOf]
                · have i3 : ¬ (80 : Int) ≤ (n : Int) := by omega
                  have i4 : ¬ (60 : Int) < (n : Int) := by omega
                  have HB3 := hide hB
                  clear hB h40
                  go_wp2_with fail
                  go_roundw
                  case rel => exact Or.inr ⟨rfl, HB3.out⟩
                  case measure => simp [intOf]
            · have i2 : ¬ (20 : Int) < (n : Int) := by omega
              have HB2 := hide (hB.done (by omega))
              clear hB
              go_wp2_with fail
              go_end0
              exact ⟨rfl, HB2.out⟩
          · have i2 : ¬ (40 : Int) < (n : Int) := by omega
            have HB2 := hide hB
            clear hB
            go_wp2_with fail
            go_end0
            exact ⟨rfl, HB2.out⟩
    · have i2 : ¬ (60 : Int) ≤ (n : Int) := by omega
      have HS := ins_none HCC.out z1 z2 z3 z4 hR h40
      unfold cmpV at HS
      have HSS := hide HS
      clear HS hR z1 z2 z3 z4 h40
      go_wp2_with (go_at_call 56; with_reducible refine HSS.out.mono ?_; rintro e w5 ⟨rfl, hB⟩)
      have HB := hide hB
      clear hB
      go_loopw [6] (fun v6 wr => (v6 = .int .i64 20 ∧ Blks w0 g n c K wr) ∨ (v6 = .int .i64 40 ∧ Srtd w0 g n c K wr)) (fun v6 _ => 100 - (intOf v6).toNat)
      case atStart => exact Or.inl ⟨rfl, HB.out⟩
      case round =>
        rcases hrel with ⟨rfl, hB⟩ | ⟨rfl, hB⟩
        · by_cases h20 : 20 < n
          · have i2 : (20 : Int) < (n : Int) := by omega
            have HB2 := hide hB
            clear hB
            go_wp2_with fail
            go_loopw [7, 8] (fun va vb wr => (va = .int .i64 0 ∧ vb = .int .i64 40 ∧ Blks w0 g n c K wr) ∨ (n = 40 ∧ va = .int .i64 40 ∧ vb = .int .i64 80 ∧ Srtd w0 g n c K wr)) (fun _ vb _ => 100 - (intOf vb).toNat)
            case atStart => exact Or.inl ⟨rfl, rfl, HB2.out⟩
            case round =>
              rcases hrel with ⟨rfl, rfl, hB⟩ | ⟨h40, rfl, rfl, hB⟩
              · by_cases h40 : 40 ≤ n
                · have H40 := hide (show n = 40 by omega)
                  have i3 : (40 : Int) ≤ (n : Int) := by omega
                  have HS := sym_blks HCC.out hB (by omega) (by omega) 40 (by have := H40.out; omega)
                  unfold cmpV at HS
                  have HSS := hide HS
                  clear HS hB
                  go_wp2_with (go_at_call 57; with_reducible refine HSS.out.mono ?_; rintro e w5 ⟨rfl, hR5⟩)
                  go_roundw
                  case rel => exact Or.inr ⟨H40.out, rfl, rfl, hR5⟩
                  case measure => simp [intOf]
                · have i3 : ¬ (40 : Int) ≤ (n : Int) := by omega
                  have HS := sym_blks HCC.out hB (by omega) (by omega) n rfl
                  unfold cmpV at HS
                  have HSS := hide HS
                  clear HS hB
                  go_wp2_with (go_at_call 57; with_reducible refine HSS.out.mono ?_; rintro e w5 ⟨rfl, hR5⟩)
                  go_roundw
                  case rel => exact Or.inr ⟨rfl, hR5⟩
                  case measure => simp [intOf]
              · have i3 : ¬ (80 : Int) ≤ (n : Int) := by omega
                have i4 : ¬ (60 : Int) < (n : Int) := by omega
                have HB3 := hide hB
                clear hB h40
                go_wp2_with fail
                go_roundw
                case rel => exact Or.inr ⟨rfl, HB3.out⟩
                case measure => simp [intOf]
          · have i2 : ¬ (20 : Int) < (n : Int) := by omega
            have HB2 := hide (hB.done (by omega))
            clear hB
            go_wp2_with fail
            go_end0
            exact ⟨rfl, HB2.out⟩
        · have i2 : ¬ (40 : Int) < (n : Int) := by omega
          have HB2 := hide hB
          clear hB
          go_wp2_with fail
          go_end0
          exact ⟨rfl, HB2.out⟩
end Go.Proofs.YtillhbbeghbfeaaDoor
