/- Paths: what the program answers: Split, Join, Clean. -/
import Derived.Test.YtngffmchjjpfbaaDoorPthQ
namespace Go.Proofs.YtngffmchjjpfbaaDoor
set_option linter.unusedVariables false
open Go.RowKit

/-- What a path is refused as; its parts. -/
def mayP (l : L8) : Bool := Lib.hasPrefix l [47] && !(l.contains 0)
def splE (l : L8) : Nat := if mayP l = true then (if (okPs l && decide (l.length ≤ 200)) = true then 0 else 11) else 2
def splPs (l : L8) : List L8 := if splE l = 0 then prt l else []
theorem idx_zero (l : L8) : decide (0 ≤ Lib.indexByte l 0) = l.contains 0 := by
  by_cases h : l.contains 0 = true
  · rw [h, decide_eq_true_iff]
    have hge := Lib.indexByte_ge l 0
    have hne : Lib.indexByte l 0 ≠ -1 := fun e => by
      have hn := Lib.indexByte_none e
      rw [List.contains_iff_mem] at h
      obtain ⟨j, hj, e⟩ := List.getElem_of_mem h
      exact hn j (by rw [List.getElem?_eq_getElem hj, e])
    omega
  · have hb : l.contains 0 = false := by simpa using h
    rw [hb, decide_eq_false_iff_not]
    intro hi
    obtain ⟨o, ho⟩ : ∃ o : Nat, Lib.indexByte l 0 = o := ⟨(Lib.indexByte l 0).toNat, by omega⟩
    have := (Lib.indexByte_some ho).1
    exact h (by rw [List.contains_iff_mem]; exact List.mem_of_getElem? this)
set_option maxHeartbeats 1000000 in
theorem path_Split (s : ByteArray) (w : World) (hs : s.size ≤ 1000000) : Calls Tryd.prog 9 #[.string s] w fun e w' =>
    ∃ A' n c, e = .returned (.tuple #[.slice A' n c, .int .i64 (splE s.data.toList : Nat)]) ∧ n ≤ 1000001 ∧ Own w' w.heap.size 9 A' n c (vT (mB (splPs s.data.toList))) ∧ Ext w w' := by
  have h1 := fun w => Tryd.strings_HasPrefix s ⟨#[47]⟩ w
  have h2 := fun w => Tryd.strings_Contains_one s 0 w
  have h3 := fun w => path_parts s w hs
  rw [idx_zero] at h2
  have e47 : (⟨#[47]⟩ : ByteArray).data.toList = [47] := rfl
  rw [e47] at h1
  have hl : s.data.toList.length = s.size := (Lib.size_eq s).symm
  have hE : splE s.data.toList = if mayP s.data.toList = true then (if (okPs s.data.toList && decide (s.data.toList.length ≤ 200)) = true then 0 else 11) else 2 := rfl
  have hPs : splPs s.data.toList = if splE s.data.toList = 0 then prt s.data.toList else [] := rfl
  have hm : mayP s.data.toList = (Lib.hasPrefix s.data.toList [47] && !(s.data.toList.contains 0)) := rfl
  rw [hl] at hE
  obtain ⟨ok, hok⟩ : ∃ b, okPs s.data.toList = b := ⟨_, rfl⟩
  obtain ⟨hp, hhp⟩ : ∃ b, Lib.hasPrefix s.data.toList [47] = b := ⟨_, rfl⟩
  obtain ⟨z, hz⟩ : ∃ b, s.data.toList.contains 0 = b := ⟨_, rfl⟩
  rw [hok] at h3 hE
  rw [hhp] at h1 hm
  rw [hz] at h2 hm
  clear hl e47 hok hhp hz
  have H1 := hide h1
  have H2 := hide h2
  have H3 := hide h3
  have HC : (hp = false ∧ splE s.data.toList = 2) ∨ (hp = true ∧ z = true ∧ splE s.data.toList = 2) ∨ (hp = true ∧ z = false ∧ ok = false ∧ splE s.data.toList = 11) ∨ (hp = true ∧ z = false ∧ ok = true ∧ (200 : Int) < s.size ∧ splE s.data.toList = 11) ∨ (hp = true ∧ z = false ∧ ok = true ∧ ¬ (200 : Int) < s.size ∧ splE s.data.toList = 0) := by
    rw [hE, hm]
    cases hp
    · exact .inl ⟨rfl, rfl⟩
    · cases z
      · cases ok
        · exact .inr (.inr (.inl ⟨rfl, rfl, rfl, rfl⟩))
        · by_cases h : (200 : Int) < s.size
          · exact .inr (.inr (.inr (.inl ⟨rfl, rfl, rfl, h, by rw [decide_eq_false (by omega)]; rfl⟩)))
          · exact .inr (.inr (.inr (.inr ⟨rfl, rfl, rfl, h, by rw [decide_eq_true (by omega)]; rfl⟩)))
      · exact .inr (.inl ⟨rfl, rfl, rfl⟩)
  have HP := hide hPs
  clear h1 h2 h3 hE hm hPs
  rcases HC with ⟨rfl, he⟩ | ⟨rfl, rfl, he⟩ | ⟨rfl, rfl, rfl, he⟩ | ⟨rfl, rfl, rfl, hgt, he⟩ | ⟨rfl, rfl, rfl, hgt, he⟩
  case inl =>
    have HE := hide he
    clear he
    go_enter Tryd.func9, Tryd.ntmps9
    go_wp2_with (go_at_call 21; refine (H1.out _).mono ?_; rintro e w' ⟨rfl, rfl⟩)
    go_ret2
    exact ⟨none, 0, 0, (by rw [HE.out]; try rfl), by omega, by rw [HP.out, HE.out]; exact Own.nilS _ _ _, Ext.refl _⟩
  case inr.inl =>
    have HE := hide he
    clear he
    go_enter Tryd.func9, Tryd.ntmps9
    go_wp2_with (first
      | (go_at_call 21; refine (H1.out _).mono ?_; rintro e w' ⟨rfl, rfl⟩)
      | (go_at_call 22; refine (H2.out _).mono ?_; rintro e w' ⟨rfl, rfl⟩))
    go_ret2
    exact ⟨none, 0, 0, (by rw [HE.out]; try rfl), by omega, by rw [HP.out, HE.out]; exact Own.nilS _ _ _, Ext.refl _⟩
  case inr.inr.inr.inr =>
    have HE := hide he
    clear he
    go_enter Tryd.func9, Tryd.ntmps9
    go_wp2_with (first
      | (go_at_call 21; refine (H1.out _).mono ?_; rintro e w' ⟨rfl, rfl⟩)
      | (go_at_call 22; refine (H2.out _).mono ?_; rintro e w' ⟨rfl, rfl⟩)
      | (go_at_call 23; refine (H3.out _).mono ?_; rintro e w1 ⟨A1, n1, c1, vs, rfl, hn1, hO1, hv1, hE1⟩))
    go_ret2
    exact ⟨A1, n1, c1, (by rw [HE.out]; try rfl), hn1, by rw [HP.out, HE.out, if_pos rfl, ← hv1 (by trivial)]; exact hO1, hE1⟩
  all_goals
    have HE := hide he
    clear he
    go_enter Tryd.func9, Tryd.ntmps9
    go_wp2_with (first
      | (go_at_call 21; refine (H1.out _).mono ?_; rintro e w' ⟨rfl, rfl⟩)
      | (go_at_call 22; refine (H2.out _).mono ?_; rintro e w' ⟨rfl, rfl⟩)
      | (go_at_call 23; refine (H3.out _).mono ?_; rintro e w1 ⟨A1, n1, c1, vs, rfl, hn1, hO1, hv1, hE1⟩))
    go_ret2
    exact ⟨none, 0, 0, (by rw [HE.out]; try rfl), by omega, by rw [HP.out, HE.out]; exact Own.nilS _ _ _, hE1⟩
set_option maxHeartbeats 1000000 in
theorem path_Join (ps : List L8) (A : Option Addr) (n c : Nat) (w : World) (h : Sl w A n c (vT (mB ps))) (hlen : (joinL ps).length ≤ 100000000000000) : Calls Tryd.prog 19 #[.slice A n c] w fun e w' => e = .returned (.string (toB (joinL ps))) ∧ Ext w w' := by
  have hn : n = ps.length := by have := h.len; rw [vT_len, mB_len] at this; exact this.symm
  have hnc := h.nc
  have hcm := h.cm
  have hj : Calls Tryd.prog 28 #[.slice A n c, .string ⟨#[47]⟩] w fun e w' => e = .returned (.string (toB (Lib.join ps [47]))) ∧ Ext w w' := by
    by_cases h0 : n = 0
    · subst h0
      have hp : ps = [] := List.eq_nil_of_length_eq_zero hn.symm
      subst hp
      exact (Tryd.strings_Join_none A c ⟨#[47]⟩ w).mono fun e w' ⟨h1, h2⟩ => ⟨h1, h2 ▸ Ext.refl _⟩
    · obtain ⟨bk, o, u, rfl, _, hc0⟩ := h.at_ (k := 0) (by omega)
      have hbk := World.block_lt_of_cell? w _ hc0
      have hjl : (Lib.join ps [47]).length ≤ 100000000000000 := by unfold joinL at hlen; simp at hlen; omega
      have hpl : ps.length ≤ 140737488355328 := by
        have h2 : ps.length ≤ (Lib.join ps [47]).length + 1 := by
          cases ps with
          | nil => simp
          | cons x r =>
            rw [Lib.join_length]
            simp <;> omega
        omega
      have hm : (mB ps).map (fun s => s.data.toList) = ps := by
        unfold mB
        rw [List.map_map]
        conv => rhs; rw [← List.map_id ps]
        exact List.map_congr_left fun a _ => rfl
      have hJ := Tryd.strings_Join bk o c (mB ps) ⟨#[47]⟩ w (fun j x hx => by
        have hu : (vT (mB ps))[j]? = some (.string x) := by unfold vT; rw [List.getElem?_map, hx]; rfl
        obtain ⟨b2, o2, hA, hc⟩ := h.cell j _ hu
        simp at hA
        obtain ⟨rfl, rfl⟩ := hA
        exact hc) (by simpa using hbk) (by rw [mB_len]; exact hpl) (by rw [mB_len]; omega) (by rw [hm]; show (Lib.join ps [47]).length ≤ _; omega)
      rw [hm, mB_len, ← hn] at hJ
      exact hJ
  have hadd : (⟨#[47]⟩ : ByteArray) ++ toB (Lib.join ps [47]) = toB (joinL ps) := by
    apply ByteArray.ext
    apply Array.ext'
    simp [toB, joinL]
  have HA := hide hadd
  have hnot : ¬ 9223372036854775807 < 1 + (toB (Lib.join ps [47])).size := by rw [toB_size]; unfold joinL at hlen; simp at hlen; omega
  clear hn hadd hlen
  go_enter Tryd.func19, Tryd.ntmps19
  go_wp2_with (go_at_call 28; refine hj.mono ?_; rintro e w' ⟨rfl, hE⟩)
  go_ret
  exact ⟨by rw [← HA.out]; rfl, hE⟩
end Go.Proofs.YtngffmchjjpfbaaDoor
