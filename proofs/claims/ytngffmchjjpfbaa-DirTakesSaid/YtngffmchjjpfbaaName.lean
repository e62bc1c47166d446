/- Whether a name may be. -/
import Derived.Test.YtngffmchjjpfbaaAny
namespace Go.Proofs.Ytngffmchjjpfbaa
set_option linter.unusedVariables false
open Go.RowKit

/-- May a name be? -/
def okL (l : List UInt8) : Bool := decide (1 ≤ l.length) && (decide (l.length ≤ 24) && (!(l.any badB) && (!(l == [46]) && !(l == [46, 46]))))
def okN (s : ByteArray) : Bool := okL s.toList
theorem len_toList (s : ByteArray) : s.toList.length = s.size := by rw [Lib.toList_data, ← Lib.size_eq]
set_option maxHeartbeats 1000000 in
theorem dir_Name (s : ByteArray) (w : World) : Calls Try.prog 27 #[.string s] w fun e w' => e = .returned (.bool (okN s)) ∧ Ext w w' := by
  have hl := len_toList s
  have hC := fun (h : s.size ≤ 1000000) w => Contains2 s h w
  rw [← Lib.toList_data] at hC
  by_cases h0 : s.toList = []
  · have HK := hide (show okN s = false by unfold okN; rw [h0]; rfl)
    go_enter Try.func27, Try.ntmps27
    go_wp2_with fail
    go_ret
    exact ⟨ret_bool HK.out.symm, Ext.refl _⟩
  have hne : s.toList.isEmpty = false := by simpa using h0
  have hpos : decide (1 ≤ s.toList.length) = true := by
    rcases hh : s.toList with _ | ⟨x, l⟩
    · exact absurd hh h0
    · simp
  by_cases h1 : 24 < s.size
  · have HK := hide (show okN s = false by unfold okN okL; rw [hl, show decide (s.size ≤ 24) = false from decide_eq_false (by omega)]; simp)
    have h1' : ¬ (s.size : Int) ≤ 24 := by omega
    go_enter Try.func27, Try.ntmps27
    go_wp2_with fail
    go_ret
    exact ⟨ret_bool HK.out.symm, Ext.refl _⟩
  have h1' : (s.size : Int) ≤ 24 := by omega
  have h24 : decide (s.toList.length ≤ 24) = true := decide_eq_true (by omega)
  have hok : okN s = (!(s.toList.any badB) && (!(s.toList == [46]) && !(s.toList == [46, 46]))) := by
    unfold okN okL
    rw [hpos, h24]
    simp
  have HK := hide hok
  have HC := hide (fun w => hC (by omega) w)
  clear hok hC hpos h24 hl h0
  cases hb : s.toList.any badB
  · cases h2 : (s.toList == [46])
    · cases h3 : (s.toList == [46, 46])
      · go_enter Try.func27, Try.ntmps27
        go_wp2_with (go_at_call 45; refine (HC.out _).mono ?_; rintro e w' ⟨rfl, hE⟩; rw [hb])
        go_ret
        exact ⟨ret_bool (by rw [HK.out, hb, h2, h3]; rfl), hE⟩
      · go_enter Try.func27, Try.ntmps27
        go_wp2_with (go_at_call 45; refine (HC.out _).mono ?_; rintro e w' ⟨rfl, hE⟩; rw [hb])
        go_ret
        exact ⟨ret_bool (by rw [HK.out, hb, h2, h3]; rfl), hE⟩
    · go_enter Try.func27, Try.ntmps27
      go_wp2_with (go_at_call 45; refine (HC.out _).mono ?_; rintro e w' ⟨rfl, hE⟩; rw [hb])
      go_ret
      exact ⟨ret_bool (by rw [HK.out, hb, h2]; rfl), hE⟩
  · go_enter Try.func27, Try.ntmps27
    go_wp2_with (go_at_call 45; refine (HC.out _).mono ?_; rintro e w' ⟨rfl, hE⟩; rw [hb])
    go_ret
    exact ⟨ret_bool (by rw [HK.out, hb]; rfl), hE⟩
set_option maxHeartbeats 1000000 in
theorem ref9_Name (s : ByteArray) (w : World) : Calls Try.prog 28 #[.string s] w fun e w' => e = .returned (.bool (okN s)) ∧ w' = w := by
  have hl := len_toList s
  by_cases h1 : 24 < s.size
  · have HK := hide (show okN s = false by unfold okN okL; rw [hl, show decide (s.size ≤ 24) = false from decide_eq_false (by omega)]; simp)
    have h1' : ¬ (s.size : Int) ≤ 24 := by omega
    have h2' : (0 : Int) < (s.size : Int) := by omega
    have h3' : (1 : Int) ≤ (s.size : Int) := by omega
    go_enter Try.func28, Try.ntmps28
    go_wp2_with fail
    go_loopg [3] 0 (fun _ j wx => j = .int .i64 0 ∧ wx = w)
    case atStart => exact ⟨rfl, rfl⟩
    case round =>
      obtain ⟨rfl, rfl⟩ := hrel
      go_wp2_with fail
      go_ret
      exact ⟨ret_bool HK.out.symm, rfl⟩
  have h1' : (s.size : Int) ≤ 24 := by omega
  have h24 : decide (s.toList.length ≤ 24) = true := decide_eq_true (by omega)
  have hok : okN s = (decide (1 ≤ s.toList.length) && (!(s.toList.any badB) && (!(s.toList == [46]) && !(s.toList == [46, 46])))) := by
    unfold okN okL
    rw [h24]
    simp
  have HK := hide hok
  have HL := hide hl
  clear hok h24 hl h1
  go_enter Try.func28, Try.ntmps28
  go_wp2_with fail
  go_loopg [3] s.size (fun g j wx => ∃ i : Nat, i + g = s.size ∧ j = .int .i64 i ∧ wx = w ∧ Hid (∀ j b, j < i → s.toList[j]? = some b → badB b = false))
  case atStart => exact ⟨0, by omega, rfl, rfl, fun j b hj => by omega⟩
  case round =>
    obtain ⟨i, hig, rfl, rfl, hno⟩ := hrel
    cases gk with
    | succ g =>
      have hi : i < s.size := by omega
      have hi' : (i : Int) < (s.size : Int) := by omega
      obtain ⟨x, hx⟩ : ∃ x : UInt8, s[i]'hi = x := ⟨_, rfl⟩
      have hxl : s.toList[i]? = some x := by rw [Lib.toList_data, ← hx]; exact Lib.data_getElem? s i hi
      have HX := hide hxl
      clear hxl
      by_cases hb : badB x = true
      · have hany : s.toList.any badB = true := List.any_eq_true.2 ⟨x, List.mem_of_getElem? HX.out, hb⟩
        have HA := hide hany
        clear hany
        by_cases h47 : x = 47
        · subst h47
          have k1 : (((47 : UInt8).toNat : Int) == 47) = true := rfl
          go_wp2_with fail
          go_ret
          exact ⟨ret_bool (by rw [HK.out, HA.out]; simp), rfl⟩
        · have h0 : x = 0 := by
            unfold badB at hb
            simp at hb
            rcases hb with hb | hb
            · exact absurd hb h47
            · exact hb
          subst h0
          have k1 : (((0 : UInt8).toNat : Int) == 0) = true := rfl
          go_wp2_with fail
          go_ret
          exact ⟨ret_bool (by rw [HK.out, HA.out]; simp), rfl⟩
      · have hb' : badB x = false := by simpa using hb
        have k1 : ¬ (x.toNat : Int) = 47 := fun e => hb (by
          have : x = 47 := UInt8.toNat_inj.1 (by show x.toNat = 47; omega)
          rw [this]; rfl)
        have k2 : ¬ (x.toNat : Int) = 0 := fun e => hb (by
          have : x = 0 := UInt8.toNat_inj.1 (by show x.toNat = 0; omega)
          rw [this]; rfl)
        have k3 : ((x.toNat : Int) == 47) = false := beq_eq_false_iff_ne.2 k1
        have k4 : ((x.toNat : Int) == 0) = false := beq_eq_false_iff_ne.2 k2
        clear hb
        go_wp2_with fail
        go_roundg g
        case measure => omega
        case rel =>
          refine ⟨i + 1, by omega, by go_num, rfl, fun j b hj hjb => ?_⟩
          by_cases e : j = i
          · subst e
            rw [HX.out] at hjb
            injection hjb with e2
            rw [← e2]; exact hb'
          · exact hno.out j b (by omega) hjb
    | zero =>
      have hend : ¬ (i : Int) < (s.size : Int) := by omega
      have hany : s.toList.any badB = false := List.any_eq_false.2 (fun b hb => by
        obtain ⟨j, hj, hjb⟩ := List.getElem_of_mem hb
        have := hno.out j b (by have := HL.out; omega) (by rw [List.getElem?_eq_getElem hj, hjb])
        simp [this])
      have HA := hide hany
      clear hany hno
      by_cases h0 : s.size = 0
      · have k0 : ¬ (1 : Int) ≤ (s.size : Int) := by omega
        have HE := hide (show s.toList.length = 0 by rw [HL.out, h0])
        go_wp2_with fail
        go_ret
        exact ⟨ret_bool (by rw [HK.out, HE.out]; simp), rfl⟩
      · have k0 : (1 : Int) ≤ (s.size : Int) := by omega
        have HE := hide (show decide (1 ≤ s.toList.length) = true from decide_eq_true (by rw [HL.out]; omega))
        cases h2 : (s.toList == [46])
        · cases h3 : (s.toList == [46, 46])
          · go_wp2_with fail
            go_ret
            exact ⟨ret_bool (by rw [HK.out, HE.out, HA.out, h2, h3]; rfl), rfl⟩
          · go_wp2_with fail
            go_ret
            exact ⟨ret_bool (by rw [HK.out, HE.out, HA.out, h2, h3]; rfl), rfl⟩
        · go_wp2_with fail
          go_ret
          exact ⟨ret_bool (by rw [HK.out, HE.out, HA.out, h2]; rfl), rfl⟩
end Go.Proofs.Ytngffmchjjpfbaa
