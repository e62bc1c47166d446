/- Lines of operations: the library's answers, and what is laid. -/
import Derived.Test.YtmfenegkeiipnaaDoorSpE
import Derived.Lib.AppendIntMem
namespace Go.Proofs.YtmfenegkeiipnaaDoor
set_option linter.unusedVariables false
set_option linter.unusedSimpArgs false
open Go.RowKit

/-- What start-up lays. -/
structure Laid (w : World) : Prop where
  tab : Lib.TabIs Tryd.prog w "internal/strconv.uint64pow10" .u64 Lib.pow10Tab
  wrd : ∃ t fz, w.heap[0]? = some (.cells (vT (mB wordsL)).toArray t fz)
  syn : ∃ te pe, w.cell? ⟨2, 0, none⟩ = some (.iface te pe)
  ran : ∃ te pe, w.cell? ⟨3, 0, none⟩ = some (.iface te pe)
theorem Laid.ext {w w' : World} (h : Laid w) (hE : Ext w w') : Laid w' := by
  obtain ⟨t, fz, h2⟩ := h.wrd
  obtain ⟨a, b, h3⟩ := h.syn
  obtain ⟨c, d, h4⟩ := h.ran
  refine ⟨Lib.tabBelow_of_tabIs h.tab w' hE, ⟨t, fz, ?_⟩, ⟨a, b, hE.cell h3⟩, ⟨c, d, hE.cell h4⟩⟩
  have hlt := (Array.getElem?_eq_some_iff.1 h2).1
  exact (hE.block _ hlt).trans h2
theorem key_none {p : L8} (h : (61 : UInt8) ∉ p) : keyOf p = p ∧ valOf p = [] := by
  induction p with
  | nil => exact ⟨rfl, rfl⟩
  | cons b p ih =>
    have h1 : b ≠ 61 := fun e => h (by simp [e])
    obtain ⟨i1, i2⟩ := ih (fun e => h (by simp [e]))
    unfold keyOf valOf at *
    simp only [List.takeWhile_cons, List.dropWhile_cons]
    rw [show (b != 61) = true by simpa using h1]
    exact ⟨by simp [i1], by simpa using i2⟩
theorem key_at : ∀ {p : L8} {i : Nat}, p[i]? = some 61 → (∀ j, j < i → p[j]? ≠ some 61) → keyOf p = p.take i ∧ valOf p = p.drop (i + 1)
  | b :: p, 0, h, _ => by
    simp at h
    subst h
    exact ⟨rfl, rfl⟩
  | b :: p, i + 1, h, h2 => by
    have h1 : b ≠ 61 := fun e => h2 0 (by omega) (by simp [e])
    obtain ⟨i1, i2⟩ := key_at (p := p) (i := i) (by simpa using h) (fun j hj => by have := h2 (j + 1) (by omega); simpa using this)
    unfold keyOf valOf at *
    simp only [List.takeWhile_cons, List.dropWhile_cons]
    rw [show (b != 61) = true by simpa using h1]
    exact ⟨by simp [i1], by simpa using i2⟩
  | [], i, h, _ => by simp at h
set_option maxHeartbeats 1000000 in
theorem f_cut0 (p : L8) (w : World) (hn : p.length ≤ 1000000) : Calls Tryd.prog 31 #[.string (toB p), .string ⟨#[61]⟩] w fun e w' => ∃ b, e = .returned (.tuple #[.string (toB (keyOf p)), .string (toB (valOf p)), .bool b]) ∧ Ext w w' := by
  have hI := Tryd.stringslite_Index_one (toB p) 61
  rw [toB_data] at hI
  obtain ⟨n, hnl⟩ : ∃ n, n = p.length := ⟨_, rfl⟩
  have hsz := toB_size p
  by_cases hm : Lib.indexByte p 61 = -1
  · have hnot : (61 : UInt8) ∉ p := by
      intro hmm
      obtain ⟨j, hj, e⟩ := List.getElem_of_mem hmm
      exact Lib.indexByte_none hm j (by rw [List.getElem?_eq_getElem hj, e])
    obtain ⟨e1, e2⟩ := key_none hnot
    rw [e1, e2]
    rw [hm] at hI
    generalize toB p = s at *
    clear e1 e2 hnot hm
    go_enter Tryd.func31, Tryd.ntmps31
    go_wp2_with (go_at_call 40; refine (hI _).mono ?_; rintro e w' ⟨rfl, rfl⟩)
    go_ret3
    exact ⟨false, rfl, Ext.refl _⟩
  · have hge := Lib.indexByte_ge p 61
    obtain ⟨i, hi⟩ : ∃ i : Nat, Lib.indexByte p 61 = i := ⟨(Lib.indexByte p 61).toNat, by omega⟩
    obtain ⟨h1, h2⟩ := Lib.indexByte_some hi
    obtain ⟨e1, e2⟩ := key_at h1 h2
    have hil : i < p.length := (List.getElem?_eq_some_iff.1 h1).1
    have x1 : (toB p).extract 0 i = toB (keyOf p) := by
      rw [e1]
      apply ByteArray.ext
      apply Array.ext'
      simp [toB]
    have x2 : (toB p).extract (i + 1) p.length = toB (valOf p) := by
      rw [e2]
      apply ByteArray.ext
      apply Array.ext'
      simp [toB]
      exact List.take_of_length_le (by simp)
    rw [hi] at hI
    rw [← hnl] at hsz hil hn x2
    generalize toB p = s at *
    generalize toB (keyOf p) = y1 at *
    generalize toB (valOf p) = y2 at *
    have W1 : IntKind.i64.wrap ((i : Int) + 1) = (i : Int) + 1 := IntWalk.i64_in _ (by omega)
    have i1 : (i : Int) ≥ 0 := by omega
    have i2 : (i : Int) ≤ (n : Int) := by omega
    have i3 : (i : Int) + 1 ≤ (n : Int) := by omega
    have i4 : (0 : Int) ≤ (i : Int) + 1 := by omega
    have i5 : i ≤ n := by omega
    have i6 : i + 1 ≤ n := by omega
    have HX := hide (And.intro h1 h2)
    clear e1 e2 h1 h2 hm hge hi hnl hn
    go_enter Tryd.func31, Tryd.ntmps31
    go_wp2_with (go_at_call 40; refine (hI _).mono ?_; rintro e w' ⟨rfl, rfl⟩)
    refine wp_region_held_drew (S := (fun w' => True)) (by kernel_rfl) trivial (fun hHeld => ?_)
    refine held_take 0 rfl (by kernel_rfl) (by kernel_rfl) (by kernel_rfl) (fun _ _ _ _ h => h) (by rfl) ?_ ?_ (by assumption) ?_
    rotate_left
    · (intro wx hSx; (try dsimp only at hSx); go_simp)
      all_goals with_reducible rfl
    (try simp only [Act.put, List.setIfInBounds_toArray, List.set_cons_zero, List.set_cons_succ])
    refine held_take 1 rfl (by kernel_rfl) (by kernel_rfl) (by kernel_rfl) (fun _ _ _ _ h => h) (by rfl) ?_ ?_ (by assumption) ?_
    rotate_left
    · (intro wx hSx; (try dsimp only at hSx); go_simp)
      all_goals with_reducible rfl
    (try simp only [Act.put, List.setIfInBounds_toArray, List.set_cons_zero, List.set_cons_succ])
    refine held_take 2 rfl (by kernel_rfl) (by kernel_rfl) (by kernel_rfl) (fun _ _ _ _ h => h) (by rfl) ?_ ?_ (by assumption) ?_
    rotate_left
    · (intro wx hSx; (try dsimp only at hSx); go_simp)
      all_goals with_reducible rfl
    (try simp only [Act.put, List.setIfInBounds_toArray, List.set_cons_zero, List.set_cons_succ])
    refine held_take 3 rfl (by kernel_rfl) (by kernel_rfl) (by kernel_rfl) (fun _ _ _ _ h => h) (by rfl) ?_ ?_ (by assumption) ?_
    rotate_left
    · (intro wx hSx; (try dsimp only at hSx); go_simp)
      all_goals with_reducible rfl
    (try simp only [Act.put, List.setIfInBounds_toArray, List.set_cons_zero, List.set_cons_succ])
    refine held_take 4 rfl (by kernel_rfl) (by kernel_rfl) (by kernel_rfl) (fun _ _ _ _ h => h) (by rfl) ?_ ?_ (by assumption) ?_
    rotate_left
    · (intro wx hSx; (try dsimp only at hSx); go_simp)
      all_goals with_reducible rfl
    (try simp only [Act.put, List.setIfInBounds_toArray, List.set_cons_zero, List.set_cons_succ])
    refine held_take 5 rfl (by kernel_rfl) (by kernel_rfl) (by kernel_rfl) (fun _ _ _ _ h => h) (by rfl) ?_ ?_ (by assumption) ?_
    rotate_left
    · (intro wx hSx; (try dsimp only at hSx); go_simp)
      all_goals with_reducible rfl
    (try simp only [Act.put, List.setIfInBounds_toArray, List.set_cons_zero, List.set_cons_succ])
    refine held_take 6 rfl (by kernel_rfl) (by kernel_rfl) (by kernel_rfl) (fun _ _ _ _ h => h) (by rfl) ?_ ?_ (by assumption) ?_
    rotate_left
    · (intro wx hSx; (try dsimp only at hSx); go_simp)
      all_goals with_reducible rfl
    (try simp only [Act.put, List.setIfInBounds_toArray, List.set_cons_zero, List.set_cons_succ])
    refine held_take 7 rfl (by kernel_rfl) (by kernel_rfl) (by kernel_rfl) (fun _ _ _ _ h => h) (by rfl) ?_ ?_ (by assumption) ?_
    rotate_left
    · (intro wx hSx; (try dsimp only at hSx); go_simp)
      all_goals with_reducible rfl
    (try simp only [Act.put, List.setIfInBounds_toArray, List.set_cons_zero, List.set_cons_succ])
    refine held_take 8 rfl (by kernel_rfl) (by kernel_rfl) (by kernel_rfl) (fun _ _ _ _ h => h) (by rfl) ?_ ?_ (by assumption) ?_
    rotate_left
    · (intro wx hSx; (try dsimp only at hSx); go_simp)
      all_goals with_reducible rfl
    (try simp only [Act.put, List.setIfInBounds_toArray, List.set_cons_zero, List.set_cons_succ])
    refine held_take 9 rfl (by kernel_rfl) (by kernel_rfl) (by kernel_rfl) (fun _ _ _ _ h => h) (by rfl) ?_ ?_ (by assumption) ?_
    rotate_left
    · (intro wx hSx; (try dsimp only at hSx); go_simp)
      all_goals with_reducible rfl
    (try simp only [Act.put, List.setIfInBounds_toArray, List.set_cons_zero, List.set_cons_succ])
    refine held_take 10 rfl (by kernel_rfl) (by kernel_rfl) (by kernel_rfl) (fun _ _ _ _ h => h) (by rfl) ?_ ?_ (by assumption) ?_
    rotate_left
    · (intro wx hSx; (try dsimp only at hSx); go_simp)
      all_goals with_reducible rfl
    (try simp only [Act.put, List.setIfInBounds_toArray, List.set_cons_zero, List.set_cons_succ])
    refine held_take 11 rfl (by kernel_rfl) (by kernel_rfl) (by kernel_rfl) (fun _ _ _ _ h => h) (by rfl) ?_ ?_ (by assumption) ?_
    rotate_left
    · (intro wx hSx; (try dsimp only at hSx); go_simp)
      all_goals with_reducible rfl
    (try simp only [Act.put, List.setIfInBounds_toArray, List.set_cons_zero, List.set_cons_succ])
    refine wpAnyH_done (by kernel_rfl) ?_ _
    go_wp2_with fail
    go_ret3
    exact ⟨true, rfl, (Ext.refl _).drew⟩
set_option maxHeartbeats 400000 in
theorem f_cut (p : L8) (w : World) (hn : p.length ≤ 1000000) : Calls Tryd.prog 17 #[.string (toB p), .string ⟨#[61]⟩] w fun e w' => ∃ b, e = .returned (.tuple #[.string (toB (keyOf p)), .string (toB (valOf p)), .bool b]) ∧ Ext w w' := by
  have h := f_cut0 p w hn
  generalize toB p = s at *
  generalize toB (keyOf p) = y1 at *
  generalize toB (valOf p) = y2 at *
  go_enter Tryd.func17, Tryd.ntmps17
  go_wp2_with fail
  refine h.mono ?_
  rintro e w' ⟨b, rfl, hE⟩
  go_wp2_with fail
  go_ret3
  exact ⟨b, rfl, hE⟩
/-- A number that is heard: what it is, or none. -/
def numS (l : L8) : Option Int := match Lib.atoiAll l with
  | .ok v => some v
  | _ => none
theorem f_Atoi (l : L8) (w : World) (hn : l.length ≤ 1000000) (hL : Laid w) : Calls Tryd.prog 18 #[.string (toB l)] w fun e w' => ∃ (x : Int) (ev : Value), e = .returned (.tuple #[.int .i64 x, ev]) ∧ Ext w w' ∧ ((numS l = some x ∧ ev = .nilIface) ∨ (numS l = none ∧ ∃ t a, ev = .iface t (.pointer (some a)))) := by
  have hs : (toB l).size ≤ 1000000 := by rw [toB_size]; exact hn
  rcases h : Lib.atoiAll l with v | _ | _
  · refine (Tryd.strconv_Atoi_ok (toB l) (by omega) v h w).mono ?_
    rintro e w' ⟨h1, h2⟩
    refine ⟨v, .nilIface, h1, ?_, Or.inl ⟨by unfold numS; rw [h], rfl⟩⟩
    rcases h2 with rfl | ⟨t, rfl⟩
    · exact Ext.refl _
    · exact bw_ext _ _ _
  · obtain ⟨te, pe, hv⟩ := hL.syn
    refine (Any.strconv_Atoi_syntax Tryd.laysC172 (toB l) (by omega) h (.iface te pe) w hv (Or.inr ⟨te, pe, rfl⟩)).mono ?_
    rintro e w' ⟨N, h1, h2, h3, h4⟩
    exact ⟨0, _, h1, h4, Or.inr ⟨by unfold numS; rw [h], _, _, rfl⟩⟩
  · obtain ⟨te, pe, hv⟩ := hL.ran
    refine (Tryd.strconv_Atoi_range (toB l) (by omega) h (.iface te pe) w hv (Or.inr ⟨te, pe, rfl⟩)).mono ?_
    rintro e w' ⟨N, h1, h2, h3, h4⟩
    exact ⟨_, _, h1, h4, Or.inr ⟨by unfold numS; rw [h], _, _, rfl⟩⟩
theorem grow_ext (w : World) (k : Nat) (os : Array Obj) : Ext w (Sort.grow (w.drewN k) os) := by
  refine ⟨rfl, rfl, rfl, ?_, ?_⟩
  · show w.heap.size ≤ (w.heap ++ os).size
    simp
  · intro b hb
    show (w.heap ++ os)[b]? = w.heap[b]?
    exact Array.getElem?_append_left hb
theorem f_Itoa (x : Int) (w : World) (hx : InR x) (hL : Laid w) : Calls Tryd.prog 24 #[.int .i64 x] w fun e w' => e = .returned (.string (toB (Lib.itoa x))) ∧ Ext w w' := by
  refine (Tryd.strconv_Itoa x hx.1 hx.2 w hL.tab).mono ?_
  rintro e w' ⟨h1, k, os, rfl⟩
  exact ⟨h1, grow_ext _ _ _⟩
/-- The pieces of a text. -/
def pcs (l : L8) : List ByteArray := mB (spb l)
theorem pcs_split (l : L8) : Lib.splitB ⟨#[32]⟩ 0 (Lib.countB (toB l) ⟨#[32]⟩) (toB l) = pcs l ∧ (pcs l).length = Lib.countB (toB l) ⟨#[32]⟩ + 1 := by
  have h := Lib.splitB_data ⟨#[32]⟩ 0 (Lib.countB (toB l) ⟨#[32]⟩) (toB l)
  have hc : Lib.countB (toB l) ⟨#[32]⟩ = l.count 32 := Lib.count_one 32 l
  have h2 := splitK_spb (Lib.countB (toB l) ⟨#[32]⟩) l (by omega)
  have e : (Lib.splitB ⟨#[32]⟩ 0 (Lib.countB (toB l) ⟨#[32]⟩) (toB l)) = pcs l := by
    have h3 : ((Lib.splitB ⟨#[32]⟩ 0 (Lib.countB (toB l) ⟨#[32]⟩) (toB l)).map fun b => b.data.toList) = spb l := h.trans h2
    unfold pcs mB
    rw [← h3, List.map_map]
    conv => lhs; rw [← List.map_id (Lib.splitB ⟨#[32]⟩ 0 (Lib.countB (toB l) ⟨#[32]⟩) (toB l))]
    apply List.map_congr_left
    intro a _
    exact (toB_of a).symm
  exact ⟨e, by rw [← e]; exact Lib.splitB_all _ (by decide) 0 _ (toB l) rfl⟩
theorem spb_len (l : L8) : (spb l).length ≤ l.length + 1 := by
  induction l with
  | nil => simp [spb]
  | cons b l ih =>
    unfold spb
    split
    · simp; omega
    · split
      · simp
      · rename_i p ps h
        rw [h] at ih
        simp at ih ⊢
        omega
theorem spb_plen (l : L8) : ∀ p ∈ spb l, p.length ≤ l.length := by
  induction l with
  | nil => intro p hp; simp [spb] at hp; subst hp; simp
  | cons b l ih =>
    intro p hp
    unfold spb at hp
    split at hp
    · rcases List.mem_cons.1 hp with rfl | hp
      · simp
      · have := ih p hp; simp; omega
    · split at hp
      · simp at hp; subst hp; simp
      · rename_i q qs h
        rcases List.mem_cons.1 hp with rfl | hp
        · have := ih q (by rw [h]; simp); simp; omega
        · have := ih p (by rw [h]; simp [hp]); simp; omega
set_option maxHeartbeats 400000 in
theorem f_Split (l : L8) (w : World) (hs : l.length ≤ 1000000) : Calls Tryd.prog 16 #[.string (toB l), .string ⟨#[32]⟩] w fun e w' =>
    ∃ g n, e = .returned (.slice (some ⟨g, 0, none⟩) n n) ∧ Sl w' (some ⟨g, 0, none⟩) n n (vT (pcs l)) ∧ n = (pcs l).length ∧ Ext w w' := by
  obtain ⟨e1, e2⟩ := pcs_split l
  have hle : Lib.countB (toB l) ⟨#[32]⟩ ≤ (toB l).size := Lib.countB_le _ (by decide) (toB l).size (toB l) (Nat.le_refl _)
  have hsz := toB_size l
  have hg : Calls Tryd.prog 30 #[.string (toB l), .string ⟨#[32]⟩, .int .i64 0, .int .i64 (-1)] w fun e w' =>
      e = .returned (.slice (some ⟨w.heap.size, 0, none⟩) (pcs l).length (pcs l).length) ∧ w' = w.alloc (.cells (vT (pcs l)).toArray 9) := by
    have h := Any.strings_genSplit_core Tryd.lays221 (by kernel_rfl) (toB l) ⟨#[32]⟩ 0 (-1) (Lib.countB (toB l) ⟨#[32]⟩ + 1) w (by omega) (by decide) (Nat.zero_le _)
      (fun x c hx => (Any.strings_Index_one { Tryd.lays221 with } x 32 _).mono fun e w' ⟨h1, h2⟩ => ⟨by rw [h1]; unfold Lib.indexB; rw [show (⟨#[32]⟩ : ByteArray).data.toList = [32] from rfl, Lib.index_one], h2⟩)
      ((Any.strings_Count_one { Tryd.lays221 with } (toB l) 32 w).mono fun e w' ⟨h1, h2⟩ => ⟨by
        rw [h1]
        show _ = Ending.returned (Value.int .i64 ((Lib.count (toB l).data.toList [32] : Nat) : Int))
        rw [Lib.count_one]; rfl, h2⟩)
      (by decide) (by decide) (by rw [if_pos (by decide)]; omega)
    rw [Nat.add_sub_cancel, e1, ← e2] at h
    have ec : Lib.cellsOf (pcs l) (pcs l).length = (vT (pcs l)).toArray := Lib.cellsOf_full _
    rw [ec] at h
    exact h
  have hsl : Sl (w.alloc (.cells (vT (pcs l)).toArray 9)) (some ⟨w.heap.size, 0, none⟩) (pcs l).length (pcs l).length (vT (pcs l)) := by
    have h := Sl.lit w (vT (pcs l)).toArray 9 (pcs l).length (by simp [vT]) (by omega) (by simpa using vT_one _)
    simpa using h
  clear e1 e2 hle
  generalize (pcs l) = P at *
  generalize toB l = s at *
  generalize hn : P.length = n at *
  have HN := hide hn
  clear hn
  go_enter Tryd.func16, Tryd.ntmps16
  go_wp2_with (go_at_call 30; refine hg.mono ?_; rintro e w' ⟨rfl, hw⟩; rw [hw])
  go_ret
  exact ⟨_, n, rfl, hsl, rfl, (Ext.refl w).alloc _⟩
end Go.Proofs.YtmfenegkeiipnaaDoor
