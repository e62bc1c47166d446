/- Paths: a target is relative, or begins at the root; behind a slash its parts are a path's. -/
import Derived.Test.YtngffmchjjpfbaaDoorPthX
namespace Go.Proofs.YtngffmchjjpfbaaDoor
set_option linter.unusedVariables false
open Go.RowKit

/-- A target, and the path of a slash and it. -/
theorem tgt_spl (l : L8) (h : l.length ≤ 150) :
    (tgtE l ≠ 0 ∧ tgtPs l = [] ∧ tgtR l = false ∧ (l.isEmpty = true ∨ (l.isEmpty = false ∧ (100 : Int) < (l.length : Int)) ∨ (l.isEmpty = false ∧ ¬ (100 : Int) < (l.length : Int) ∧ splE (47 :: l) ≠ 0))) ∨
    (tgtE l = 0 ∧ splE (47 :: l) = 0 ∧ l.isEmpty = false ∧ tgtPs l = splPs (47 :: l) ∧ tgtR l = Lib.hasPrefix l [47]) := by
  have hp : prt (47 :: l) = prt l := prt_slash l
  have ho : okPs (47 :: l) = okPs l := by unfold okPs; rw [hp]
  have hm : mayP (47 :: l) = !(l.contains 0) := by
    unfold mayP
    rw [show Lib.hasPrefix (47 :: l) [47] = true from by simp [Lib.hasPrefix]]
    simp
  have hE : tgtE l = if (l.isEmpty || l.contains 0) = true then 2 else if (okPs l && decide (l.length ≤ 100)) = true then 0 else 11 := rfl
  have hF : splE (47 :: l) = if (!(l.contains 0)) = true then (if (okPs l && decide ((47 :: l).length ≤ 200)) = true then 0 else 11) else 2 := by unfold splE; rw [hm, ho]
  have h2 : decide ((47 :: l).length ≤ 200) = true := decide_eq_true (by simp; omega)
  rw [h2] at hF
  have hPs : tgtPs l = if tgtE l = 0 then prt l else [] := rfl
  have hR : tgtR l = if tgtE l = 0 then Lib.hasPrefix l [47] else false := rfl
  have hQ : splPs (47 :: l) = if splE (47 :: l) = 0 then prt l else [] := by unfold splPs; rw [hp]
  generalize splE (47 :: l) = F at *
  generalize splPs (47 :: l) = Q at *
  generalize tgtE l = E at *
  generalize tgtPs l = T at *
  generalize tgtR l = R at *
  generalize okPs l = ok at *
  generalize l.contains 0 = z at *
  cases he : l.isEmpty
  · rw [he] at hE
    cases z
    · cases ok
      · obtain rfl : E = 11 := hE
        obtain rfl : F = 11 := hF
        by_cases h1 : (100 : Int) < (l.length : Int)
        · exact .inl ⟨by omega, hPs, hR, .inr (.inl ⟨rfl, h1⟩)⟩
        · exact .inl ⟨by omega, hPs, hR, .inr (.inr ⟨rfl, h1, by omega⟩)⟩
      · obtain rfl : F = 0 := hF
        by_cases h1 : (100 : Int) < (l.length : Int)
        · rw [decide_eq_false (by omega)] at hE
          obtain rfl : E = 11 := hE
          exact .inl ⟨by omega, hPs, hR, .inr (.inl ⟨rfl, h1⟩)⟩
        · rw [decide_eq_true (by omega)] at hE
          obtain rfl : E = 0 := hE
          exact .inr ⟨rfl, rfl, rfl, by rw [hPs, hQ], hR⟩
    · obtain rfl : E = 2 := hE
      obtain rfl : F = 2 := hF
      by_cases h1 : (100 : Int) < (l.length : Int)
      · exact .inl ⟨by omega, hPs, hR, .inr (.inl ⟨rfl, h1⟩)⟩
      · exact .inl ⟨by omega, hPs, hR, .inr (.inr ⟨rfl, h1, by omega⟩)⟩
  · rw [he] at hE
    obtain rfl : E = 2 := hE
    exact .inl ⟨by omega, hPs, hR, .inl rfl⟩
theorem slash_data (s : ByteArray) : ((⟨#[47]⟩ : ByteArray) ++ s).data.toList = 47 :: s.data.toList := by simp
theorem first_byte (s : ByteArray) (h : s.data.toList.isEmpty = false) : ∃ h0 : 0 < s.size, Lib.hasPrefix s.data.toList [47] = (s[0]'h0 == 47) := by
  have hl : s.data.toList.length = s.size := (Lib.size_eq s).symm
  have h0 : 0 < s.size := by
    cases h2 : s.data.toList with
    | nil => rw [h2] at h; cases h
    | cons _ _ => rw [h2] at hl; simp at hl; omega
  refine ⟨h0, ?_⟩
  have hx := Lib.data_getElem? s 0 h0
  cases h : s.data.toList with
  | nil => rw [h] at hl; simp at hl; omega
  | cons a r =>
    rw [h] at hx
    have ha : a = s[0]'h0 := by simpa using hx
    unfold Lib.hasPrefix
    rw [ha]
    simp [List.isPrefixOf]
    rw [Bool.eq_iff_iff]
    simp
    exact eq_comm
theorem byte47 (x : UInt8) : ((x.toNat : Int) == 47) = (x == 47) := by
  by_cases h : x = 47
  · subst h; rfl
  · rw [show (x == 47) = false from by simpa using h]
    simp
    intro e
    exact h (UInt8.toNat_inj.1 (by show x.toNat = 47; omega))
set_option maxHeartbeats 2000000 in
theorem law_PathTargets (w : World) (s : ByteArray) (hs : s.size ≤ maxLen) : Calls Tryd.prog 6 #[.string s] w fun e w' => e = .returned (.bool true) ∧ Ext w w' := by
  by_cases h4 : (150 : Int) < (s.size : Int)
  · go_enter Tryd.func6, Tryd.ntmps6
    go_wp2_with fail
    refine (law12_awake _).mono ?_
    rintro e w1 ⟨rfl, hE1⟩
    go_wp2_with fail
    go_ret
    exact ⟨rfl, hE1⟩
  · have hsz : s.size ≤ 1000000 := by omega
    have hl : s.data.toList.length = s.size := (Lib.size_eq s).symm
    have x1 := fun w => path_Target s w hsz
    have x2 := fun w => path_Split (⟨#[47]⟩ ++ s) w (by rw [ByteArray.size_append]; have : (⟨#[47]⟩ : ByteArray).size = 1 := rfl; omega)
    rw [slash_data] at x2
    have hcase := tgt_spl s.data.toList (by omega)
    have hfb := first_byte s
    have hem : s.toList.isEmpty = s.data.toList.isEmpty := by rw [ByteArray.toList_eq]
    rw [hl] at hcase
    have hnot : ¬ 9223372036854775807 < 1 + s.size := by omega
    have p2 := tgtPs_len s.data.toList
    generalize splE (47 :: s.data.toList) = F at *
    generalize splPs (47 :: s.data.toList) = Q at *
    generalize tgtE s.data.toList = E at *
    generalize tgtPs s.data.toList = T at *
    generalize tgtR s.data.toList = R at *
    generalize Lib.hasPrefix s.data.toList [47] = hp at *
    generalize s.data.toList.isEmpty = em at *
    clear hl
    have H1 := hide x1
    have H2 := hide x2
    clear x1 x2
    rcases hcase with ⟨he, rfl, rfl, hc⟩ | ⟨rfl, rfl, rfl, rfl, rfl⟩
    · have he0 : ((E : Int) != 0) = true := by simp; omega
      clear hfb p2 he
      rcases hc with rfl | ⟨rfl, h5⟩ | ⟨rfl, h5, h6⟩
      case inl =>
        have hnil : s.toList = [] := by simpa using hem
        go_enter Tryd.func6, Tryd.ntmps6
        go_wp2_with fail
        refine (H1.out _).mono ?_
        rintro e w1 ⟨A1, n1, k1, rfl, hn1, hO1, hE1⟩
        obtain rfl : n1 = 0 := by have := hO1.len; rw [vT_len, mB_len] at this; exact this.symm
        go_wp2_with fail
        refine (H2.out _).mono ?_
        rintro e w2 ⟨A2, n2, k2, rfl, hn2, hO2, hE2⟩
        go_wp2_with fail
        refine (law12_awake _).mono ?_
        rintro e w3 ⟨rfl, hE3⟩
        go_wp2_with fail
        go_ret
        exact ⟨rfl, hE1.trans (hE2.trans hE3)⟩
      case inr.inl =>
        go_enter Tryd.func6, Tryd.ntmps6
        go_wp2_with fail
        refine (H1.out _).mono ?_
        rintro e w1 ⟨A1, n1, k1, rfl, hn1, hO1, hE1⟩
        obtain rfl : n1 = 0 := by have := hO1.len; rw [vT_len, mB_len] at this; exact this.symm
        go_wp2_with fail
        refine (H2.out _).mono ?_
        rintro e w2 ⟨A2, n2, k2, rfl, hn2, hO2, hE2⟩
        go_wp2_with fail
        refine (law12_awake _).mono ?_
        rintro e w3 ⟨rfl, hE3⟩
        go_wp2_with fail
        go_ret
        exact ⟨rfl, hE1.trans (hE2.trans hE3)⟩
      case inr.inr =>
        have hf0 : ((F : Int) != 0) = true := by simp; omega
        clear h6
        go_enter Tryd.func6, Tryd.ntmps6
        go_wp2_with fail
        refine (H1.out _).mono ?_
        rintro e w1 ⟨A1, n1, k1, rfl, hn1, hO1, hE1⟩
        obtain rfl : n1 = 0 := by have := hO1.len; rw [vT_len, mB_len] at this; exact this.symm
        go_wp2_with fail
        refine (H2.out _).mono ?_
        rintro e w2 ⟨A2, n2, k2, rfl, hn2, hO2, hE2⟩
        go_wp2_with fail
        refine (law12_awake _).mono ?_
        rintro e w3 ⟨rfl, hE3⟩
        go_wp2_with fail
        go_ret
        exact ⟨rfl, hE1.trans (hE2.trans hE3)⟩
    · obtain ⟨h0, hpx⟩ := hfb rfl
      have h0' : (0 : Int) < (s.size : Int) := by omega
      obtain ⟨x, hx⟩ : ∃ x : UInt8, s[0]'h0 = x := ⟨_, rfl⟩
      rw [hx] at hpx
      rw [← byte47] at hpx
      replace hpx := hpx.symm
      clear hfb p2
      go_enter Tryd.func6, Tryd.ntmps6
      go_wp2_with fail
      refine (H1.out _).mono ?_
      rintro e w1 ⟨A1, n1, k1, rfl, hn1, hO1, hE1⟩
      go_wp2_with fail
      refine (H2.out _).mono ?_
      rintro e w2 ⟨A2, n2, k2, rfl, hn2, hO2, hE2⟩
      have hS1 := hO1.sl.ext hE2
      go_wp2_with fail
      refine (SameT hS1 hO2.sl rfl).mono ?_
      rintro e w3 ⟨rfl, k3, rfl⟩
      go_wp2_with fail
      refine (law12_awake _).mono ?_
      rintro e w4 ⟨rfl, hE4⟩
      go_wp2_with fail
      go_ret
      exact ⟨rfl, (hE1.trans (hE2.drewN _)).trans hE4⟩
end Go.Proofs.YtngffmchjjpfbaaDoor
