/- strings.IndexAny at the two bytes that no name may have: for any text. -/
import Derived.Test.YtngffmchjjpfbaaShelf
import Derived.Test.YtngffmchjjpfbaaBase
import Derived.Laws.RangeAny
import Derived.Laws.Runes
import Derived.Deep.LoopGhost
import Derived.BigQuiet
import Derived.Test.YtngffmchjjpfbaaFlat
namespace Go.Proofs.Ytngffmchjjpfbaa
set_option linter.unusedVariables false
open Go.RowKit

theorem get_in (s : ByteArray) (k : Nat) (h : k < s.size) : s.get! k = s[k]'h := get_at s k h
/-- What a rune beyond ASCII covers: bytes beyond ASCII alone. -/
theorem decode_span (s : ByteArray) (pos : Nat) (h : pos < s.size) (ha : 128 ≤ (s[pos]'h).toNat) :
    pos + (Utf8.decode s pos).2 ≤ s.size ∧ ∀ j (hj : j < s.size), pos ≤ j → j < pos + (Utf8.decode s pos).2 → 128 ≤ (s[j]'hj).toNat := by
  have one : pos + 1 ≤ s.size ∧ ∀ j (hj : j < s.size), pos ≤ j → j < pos + 1 → 128 ≤ (s[j]'hj).toNat := by
    refine ⟨by omega, fun j hj h1 h2 => ?_⟩
    obtain rfl : j = pos := by omega
    exact ha
  have cont : ∀ k, (decide (pos + k < s.size) && (s.get! (pos + k)).toNat / 64 == 2) = true → ∃ hk : pos + k < s.size, 128 ≤ (s[pos + k]'hk).toNat := by
    intro k hk
    simp only [Bool.and_eq_true, decide_eq_true_eq, beq_iff_eq] at hk
    refine ⟨hk.1, ?_⟩
    rw [← get_in s (pos + k) hk.1]
    omega
  have hn : ¬ (s[pos]'h).toNat < 128 := by omega
  simp only [Utf8.decode, get_at s pos h, hn, if_false]
  split
  · rename_i hc
    simp only [Bool.and_eq_true] at hc
    obtain ⟨k1, c1⟩ := cont 1 (by simpa using hc.2)
    split
    · refine ⟨by show pos + 2 ≤ s.size; omega, fun j hj h1 h2 => ?_⟩
      have h2' : j < pos + 2 := h2
      rcases (show j = pos ∨ j = pos + 1 by omega) with rfl | rfl
      · exact ha
      · exact c1
    · exact one
  · split
    · rename_i hc
      simp only [Bool.and_eq_true] at hc
      obtain ⟨k1, c1⟩ := cont 1 (by simpa using hc.1.2)
      obtain ⟨k2, c2⟩ := cont 2 (by simpa using hc.2)
      split
      · refine ⟨by show pos + 3 ≤ s.size; omega, fun j hj h1 h2 => ?_⟩
        have h2' : j < pos + 3 := h2
        rcases (show j = pos ∨ j = pos + 1 ∨ j = pos + 2 by omega) with rfl | rfl | rfl
        · exact ha
        · exact c1
        · exact c2
      · exact one
    · split
      · rename_i hc
        simp only [Bool.and_eq_true] at hc
        obtain ⟨k1, c1⟩ := cont 1 (by simpa using hc.1.1.2)
        obtain ⟨k2, c2⟩ := cont 2 (by simpa using hc.1.2)
        obtain ⟨k3, c3⟩ := cont 3 (by simpa using hc.2)
        split
        · refine ⟨by show pos + 4 ≤ s.size; omega, fun j hj h1 h2 => ?_⟩
          have h2' : j < pos + 4 := h2
          rcases (show j = pos ∨ j = pos + 1 ∨ j = pos + 2 ∨ j = pos + 3 by omega) with rfl | rfl | rfl | rfl
          · exact ha
          · exact c1
          · exact c2
          · exact c3
        · exact one
      · exact one

set_option maxHeartbeats 2000000 in
set_option maxRecDepth 100000 in
theorem ir_high (r : Int) (h0 : 128 ≤ r) (h1 : r ≤ 2147483647) (w : World) :
    Calls Try.prog 53 #[.string ⟨#[47, 0]⟩, .int .i32 r] w fun e w' => e = .returned (.int .i64 (-1)) ∧ Ext w w' := by
  have b0 : ¬ r < 128 := by omega
  have b1 : 0 ≤ r := by omega
  by_cases he : r = 65533
  · have hn0 := fun ty => run_next_ascii (P := Try.prog) w ⟨#[47, 0]⟩ 0 ty (by decide) (by decide)
    have hn1 := fun ty => run_next_ascii (P := Try.prog) w ⟨#[47, 0]⟩ 1 ty (by decide) (by decide)
    have hn2 := fun ty => run_next_end (P := Try.prog) w ⟨#[47, 0]⟩ 2 ty (by decide)
    subst he
    go_enter Try.func53, Try.ntmps53
    go_wp2_with fail
    go_loopg [5, 6] 2 (fun g _ _ wx => ∃ i : Nat, i + g = 2 ∧ wx = w.iter ⟨#[47, 0]⟩ i)
    case atStart => exact ⟨0, by omega, rfl⟩
    case round =>
      obtain ⟨i, hig, rfl⟩ := hrel
      rcases (show (i = 0 ∧ gk = 2) ∨ (i = 1 ∧ gk = 1) ∨ i = 2 by omega) with ⟨rfl, rfl⟩ | ⟨rfl, rfl⟩ | rfl
      · go_wp2_with fail
        go_roundg 1
        case measure => omega
        case rel => exact ⟨1, by omega, rfl⟩
      · go_wp2_with fail
        go_roundg 0
        case measure => omega
        case rel => exact ⟨2, by omega, rfl⟩
      · go_wp2_with fail
        go_ret
        exact ⟨rfl, (Ext.refl w).alloc _⟩
  · by_cases hv : Lib.validRune r = true
    · have hfac := encode_facts r (by rw [validRune_eq]; exact hv) h0
      obtain ⟨m1, m2, m3⟩ := hfac
      obtain ⟨bs, hbs⟩ : ∃ bs, Utf8.encode r = bs := ⟨_, rfl⟩
      rw [hbs] at m1 m2 m3
      by_cases hm : bs.size = 2
      · have hz : (bs.size : Int) = 2 := by omega
        have hlt1 : 1 < bs.size := by omega
        have hlast : 128 ≤ (bs[1]'hlt1).toNat := by
          have := m3 (by omega)
          simp only [hm] at this
          exact this
        obtain ⟨x, hx⟩ : ∃ x, bs[1]'hlt1 = x := ⟨_, rfl⟩
        rw [hx] at hlast
        clear m3
        go_enter Try.func53, Try.ntmps53
        go_wp2_with (go_at_call 58; refine (Try.utf8_ValidRune _ _).mono ?_; rintro e w' ⟨rfl, hw'⟩; rw [hw', hv])
        go_step3
        go_wp2_with fail
        go_loopg [9, 10] 0 (fun _ i j wx => i = .int .i64 1 ∧ j = .int .i64 0 ∧ wx = w)
        case atStart => exact ⟨rfl, rfl, rfl⟩
        case round =>
          obtain ⟨rfl, rfl, rfl⟩ := hrel
          have hw3 : IntKind.i64.wrap 2 = 2 := by decide
          have hne : (((({ data := #[47, 0] } : ByteArray)[1]'(by decide)).toNat : Int) != (x.toNat : Int)) = true := by
            rw [show ((({ data := #[47, 0] } : ByteArray)[1]'(by decide)).toNat) = 0 from rfl]
            simp; omega
          go_wp2_with fail
          go_step3
          go_wp2_with fail
          go_quiet (fail)
          go_wp2_with fail
          refine wp_region_held_drew (S := fun _ => True) (by kernel_rfl) trivial (fun hHeld => ?_)
          refine held_take 0 rfl (by kernel_rfl) (by kernel_rfl) (by kernel_rfl) (fun _ _ _ _ h => h) (by rfl) ?_ ?_ (by assumption) ?_
          rotate_left
          · (intro wx hSx; (try dsimp only at hSx); go_simp)
            all_goals with_reducible rfl
          (try simp only [Act.put, List.setIfInBounds_toArray, List.set_cons_zero, List.set_cons_succ])
          refine held_take 1 rfl (by kernel_rfl) (by kernel_rfl) (by kernel_rfl) (fun _ _ _ _ h => h) (by rfl) ?_ ?_ (by assumption) ?_
          rotate_left
          · (intro wx hSx; (try dsimp only at hSx); go_simp)
            all_goals with_reducible rfl
          (try simp only [Act.put, List.setIfInBounds_toArray, List.set_cons_zero, List.set_cons_succ])
          refine held_take 2 rfl (by kernel_rfl) (by kernel_rfl) (by kernel_rfl) (fun _ _ _ _ h => h) (by rfl) ?_ ?_ (by assumption) ?_
          rotate_left
          · (intro wx hSx; (try dsimp only at hSx); go_simp)
            all_goals with_reducible rfl
          (try simp only [Act.put, List.setIfInBounds_toArray, List.set_cons_zero, List.set_cons_succ])
          refine held_take 3 rfl (by kernel_rfl) (by kernel_rfl) (by kernel_rfl) (fun _ _ _ _ h => h) (by rfl) ?_ ?_ (by assumption) ?_
          rotate_left
          · (intro wx hSx; (try dsimp only at hSx); go_simp)
            all_goals with_reducible rfl
          (try simp only [Act.put, List.setIfInBounds_toArray, List.set_cons_zero, List.set_cons_succ])
          refine held_take 4 rfl (by kernel_rfl) (by kernel_rfl) (by kernel_rfl) (fun _ _ _ _ h => h) (by rfl) ?_ ?_ (by assumption) ?_
          rotate_left
          · (intro wx hSx; (try dsimp only at hSx); go_simp)
            all_goals with_reducible rfl
          (try simp only [Act.put, List.setIfInBounds_toArray, List.set_cons_zero, List.set_cons_succ])
          refine held_take 5 rfl (by kernel_rfl) (by kernel_rfl) (by kernel_rfl) (fun _ _ _ _ h => h) (by rfl) ?_ ?_ (by assumption) ?_
          rotate_left
          · (intro wx hSx; (try dsimp only at hSx); go_simp)
            all_goals with_reducible rfl
          (try simp only [Act.put, List.setIfInBounds_toArray, List.set_cons_zero, List.set_cons_succ])
          refine held_take 6 rfl (by kernel_rfl) (by kernel_rfl) (by kernel_rfl) (fun _ _ _ _ h => h) (by rfl) ?_ ?_ (by assumption) ?_
          rotate_left
          · (intro wx hSx; (try dsimp only at hSx); go_simp)
            all_goals with_reducible rfl
          (try simp only [Act.put, List.setIfInBounds_toArray, List.set_cons_zero, List.set_cons_succ])
          refine held_call 7 rfl (by kernel_rfl) (fun K hK => ?_)
          go_simp
          go_at_call 57
          refine (Try.strings_IndexByte _ _ _).mono ?_
          rintro e w2 ⟨rfl, hw2⟩
          rw [hw2]
          go_wp2_with fail
          refine hK.out _ _ trivial (fun hHeld => ?_)
          clear hK K
          (try simp only [Act.put, List.setIfInBounds_toArray, List.set_cons_zero, List.set_cons_succ])
          refine held_take 8 rfl (by kernel_rfl) (by kernel_rfl) (by kernel_rfl) (fun _ _ _ _ h => h) (by rfl) ?_ ?_ (by assumption) ?_
          rotate_left
          · (intro wx hSx; (try dsimp only at hSx); go_simp)
            all_goals with_reducible rfl
          (try simp only [Act.put, List.setIfInBounds_toArray, List.set_cons_zero, List.set_cons_succ])
          refine wpAnyH_done (by kernel_rfl) ?_ _
          clear hHeld hw2
          go_wp2_with fail
          simp only [Exit.inBlock, Exit.noGoto_ret, Exit.then]
          go_ret
          exact ⟨rfl, (Ext.refl _).drewN _⟩
      · have hz : ¬ (bs.size : Int) - 1 < 2 := by omega
        go_enter Try.func53, Try.ntmps53
        go_wp2_with (go_at_call 58; refine (Try.utf8_ValidRune _ _).mono ?_; rintro e w' ⟨rfl, hw'⟩; rw [hw', hv])
        go_step3
        go_wp2_with fail
        go_loopg [9, 10] 0 (fun _ i j wx => i = .int .i64 ((bs.size : Int) - 1) ∧ j = .int .i64 0 ∧ wx = w)
        case atStart => exact ⟨rfl, rfl, rfl⟩
        case round =>
          obtain ⟨rfl, rfl, rfl⟩ := hrel
          go_wp2_with fail
          simp only [Exit.inBlock, Exit.noGoto_ret]
          go_ret
          exact ⟨rfl, Ext.refl _⟩
    · have hvf : Lib.validRune r = false := by simpa using hv
      go_enter Try.func53, Try.ntmps53
      go_wp2_with (go_at_call 58; refine (Try.utf8_ValidRune _ _).mono ?_; rintro e w' ⟨rfl, rfl⟩; rw [hvf])
      go_ret
      exact ⟨rfl, Ext.refl _⟩

/-- An iterator over a text, moved. -/
def itTo (w : World) (g : Nat) (s : ByteArray) (p : Nat) : World := { w with heap := w.heap.setIfInBounds g (.stringIter s p) }
theorem itTo_heap {w : World} {g : Nat} (hg : g < w.heap.size) (s : ByteArray) (p : Nat) : (itTo w g s p).heap[g]? = some (.stringIter s p) := by
  simp [itTo, hg]
theorem itTo_size (w : World) (g : Nat) (s : ByteArray) (p : Nat) : (itTo w g s p).heap.size = w.heap.size := by simp [itTo]
theorem Ext.itTo {a w : World} (h : Ext a w) {g : Nat} (hg : a.heap.size ≤ g) (s : ByteArray) (p : Nat) : Ext a (itTo w g s p) :=
  Below.trans h ⟨rfl, rfl, rfl, by rw [itTo_size]; exact Nat.le_refl _, fun k hk => by
    show (w.heap.setIfInBounds g (.stringIter s p))[k]? = _
    rw [Array.getElem?_setIfInBounds, if_neg (by omega)]⟩
theorem run_next_at {P : Program} (w : World) (g : Nat) (s : ByteArray) (pos : Nat) (ty : TypeId) (hg : w.heap[g]? = some (.stringIter s pos)) (h : pos < s.size) :
    (Instr.next (.pointer (some ⟨g, 0, none⟩)) true ty).run P w = .ok (.tuple #[.bool true, .int .i64 pos, .int .i32 (Utf8.decode s pos).1]) (itTo w g s (pos + (Utf8.decode s pos).2)) := by
  simp only [Instr.next, getObj, setObj, Sem.run_bind, Sem.run, hg, Result.andThen, h, if_true]
  simp [goInt, itTo]
theorem run_next_off {P : Program} (w : World) (g : Nat) (s : ByteArray) (pos : Nat) (ty : TypeId) (hg : w.heap[g]? = some (.stringIter s pos)) (h : ¬ pos < s.size) :
    (Instr.next (.pointer (some ⟨g, 0, none⟩)) true ty).run P w = .ok (.tuple #[.bool false]) w := by
  simp [Instr.next, getObj, Sem.run, hg, h]
theorem Ext.heapAt {w w' : World} (h : Ext w w') {g : Nat} {o : Obj} (hg : w.heap[g]? = some o) : w'.heap[g]? = some o := by
  rw [h.block g (by
    rcases Nat.lt_or_ge g w.heap.size with h1 | h1
    · exact h1
    · rw [Array.getElem?_eq_none h1] at hg; cases hg)]
  exact hg
theorem NoAny.span {s : ByteArray} {cs : List UInt8} {i k : Nat} (hcs : ∀ c ∈ cs, c.toNat < 128) (h : Lib.NoAny s.data.toList cs i) (hk : ∀ j (hj : j < s.size), i ≤ j → j < i + k → 128 ≤ (s[j]'hj).toNat) : Lib.NoAny s.data.toList cs (i + k) := fun j b hj hb => by
  by_cases h1 : j < i
  · exact h j b h1 hb
  · have hjs : j < s.size := by
      have := (List.getElem?_eq_some_iff.1 hb).1
      rw [← Lib.size_eq] at this
      exact this
    have e := Lib.data_getElem? s j hjs
    rw [hb] at e
    injection e with e
    have h2 := hk j hjs (by omega) (by omega)
    rw [← e] at h2
    cases hc : cs.contains b
    · rfl
    · have := hcs b (List.contains_iff_mem.1 hc)
      omega
set_option maxHeartbeats 4000000 in
set_option maxRecDepth 100000 in
theorem ia_short (s : ByteArray) (h8 : s.size ≤ 8) (w : World) :
    Calls Try.prog 51 #[.string s, .string ⟨#[47, 0]⟩] w fun e w' => e = .returned (.int .i64 (Lib.indexAny s.data.toList [47, 0])) ∧ Ext w w' := by
  have h8z : decide ((8 : Int) < (s.size : Int)) = false := decide_eq_false (by omega)
  go_enter Try.func51, Try.ntmps51
  go_wp2_with ((go_at_call 54; refine (Try.strings_shouldUseASCIISet _ _).mono ?_; rintro e w' ⟨rfl, hw⟩; rw [hw, h8z]))
  go_loopg [9, 10] s.size (fun g _ _ wx => ∃ i : Nat, i ≤ s.size ∧ s.size - i ≤ g ∧ wx.heap[w.heap.size]? = some (.stringIter s i) ∧ Ext w wx ∧ Lib.NoAny s.data.toList [47, 0] i)
  case atStart => exact ⟨0, by omega, by omega, World.iter_heap _ _ _, (Ext.refl w).alloc _, Lib.NoAny.zero _ _⟩
  case round =>
    obtain ⟨i, hi, hig, hit, hE, hno⟩ := hrel
    have HN := hide hno
    have hlt := hE.size
    have hg : w.heap.size < wr.heap.size := by
      rcases Nat.lt_or_ge w.heap.size wr.heap.size with h1 | h1
      · exact h1
      · rw [Array.getElem?_eq_none h1] at hit; cases hit
    clear hno hlt
    by_cases hend : i = s.size
    · have hnx := fun ty => run_next_off (P := Try.prog) wr w.heap.size s i ty hit (by omega)
      go_wp2_with fail
      go_ret
      exact ⟨by rw [Lib.indexAny_none (by rw [← Lib.size_eq, ← hend]; exact HN.out)]; rfl, hE⟩
    · have hlt : i < s.size := by omega
      obtain ⟨g, rfl⟩ : ∃ g, gk = g + 1 := ⟨gk - 1, by omega⟩
      have hnx := fun ty => run_next_at (P := Try.prog) wr w.heap.size s i ty hit hlt
      have hE2 := hE.itTo (Nat.le_refl _) s (i + (Utf8.decode s i).2)
      have hit2 := itTo_heap hg s (i + (Utf8.decode s i).2)
      obtain ⟨x, hx⟩ : ∃ x : UInt8, s[i]'hlt = x := ⟨_, rfl⟩
      have hxl : s.data.toList[i]? = some x := by rw [← hx]; exact Lib.data_getElem? s i hlt
      have HX := hide hxl
      by_cases h128 : x.toNat < 128
      · have hd := decode_ascii s i hlt (by rw [hx]; exact h128)
        rw [hx] at hd
        rw [hd] at hnx hE2 hit2
        generalize itTo wr w.heap.size s (i + (x.toNat, 1).2) = wn at hnx hE2 hit2
        have hcon := Lib.contains_iff_indexByte [47, 0] x
        have hback : ((x.toNat : Int)).toNat.toUInt8 = x := by simp
        clear hx hxl hd hit hE hg
        cases hin : ([47, 0] : List UInt8).contains x
        · rw [hin] at hcon
          have hlt : ¬ ((0 : Int) ≤ Lib.indexByte [47, 0] x) := of_decide_eq_false hcon.symm
          clear hcon
          go_wp2_with ((go_at_call 53; refine (Try.strings_IndexRune_ascii _ _ _ (by omega) (by omega)).mono ?_; rintro e w' ⟨rfl, hw⟩; rw [hw, hback]))
          go_roundg g
          case measure => omega
          case rel => exact ⟨i + 1, by omega, by omega, hit2, hE2, HN.out.succ HX.out hin⟩
        · rw [hin] at hcon
          have hge : (0 : Int) ≤ Lib.indexByte [47, 0] x := of_decide_eq_true hcon.symm
          clear hcon
          go_wp2_with ((go_at_call 53; refine (Try.strings_IndexRune_ascii _ _ _ (by omega) (by omega)).mono ?_; rintro e w' ⟨rfl, hw⟩; rw [hw, hback]))
          go_ret
          exact ⟨by rw [Lib.indexAny_hit HN.out HX.out hin]; rfl, hE2⟩
      · have h1 := decode_high s i hlt (by rw [hx]; omega)
        have h2 := decode_le s i
        have h3 := decode_span s i hlt (by rw [hx]; omega)
        have hsp := NoAny.span (cs := [47, 0]) (by decide) HN.out h3.2
        have HSP := hide hsp
        have h4 := h3.1
        clear hx hxl hit hE hg h3 hsp
        generalize (Utf8.decode s i).1 = r at *
        generalize (Utf8.decode s i).2 = k at *
        generalize itTo wr w.heap.size s (i + k) = wn at hnx hE2 hit2
        obtain ⟨h1a, h1b⟩ := h1
        go_wp2_with ((go_at_call 53; refine (ir_high _ (by omega) (by omega) _).mono ?_; rintro e w' ⟨rfl, hE3⟩))
        go_roundg g
        case measure => omega
        case rel => exact ⟨i + k, by omega, by omega, hE3.heapAt hit2, hE2.trans hE3, HSP.out⟩
def badB (b : UInt8) : Bool := b == 47 || b == 0
theorem any_bad : ∀ l : List UInt8, decide (0 ≤ Lib.indexAny l [47, 0]) = l.any badB
  | [] => by decide
  | b :: l => by
    have ih := any_bad l
    have hge := Lib.indexAny_ge [47, 0] l
    have hb : ([47, 0] : List UInt8).contains b = badB b := by
      unfold badB
      rw [Bool.eq_iff_iff]
      simp
    unfold Lib.indexAny
    rw [hb, List.any_cons]
    cases badB b
    · simp only [Bool.false_or]
      rw [← ih]
      by_cases hn : Lib.indexAny l [47, 0] = -1
      · simp [hn]
      · have : (Lib.indexAny l [47, 0] == -1) = false := by simpa using hn
        simp only [this]
        simp
        omega
    · simp
theorem info67 : (Try.prog.info? 67).map (fun i => (i.zero, i.size)) = some (some (.agg (Array.replicate 256 (.bool false))), 256) := by kernel_rfl
theorem set67 (w : World) : (zeroValue 67).run Try.prog w = .ok (.agg (Array.replicate 256 (.bool false))) w := by
  obtain ⟨i, hi, hz⟩ := Option.map_eq_some_iff.1 info67
  have h1 : i.zero = some (.agg (Array.replicate 256 (.bool false))) := congrArg Prod.fst hz
  simp [zeroValue, typeInfo, hi, h1]
theorem ascii2 : ∀ (j : Nat) b, (⟨#[47, 0]⟩ : ByteArray).data.toList[j]? = some b → b.toNat < 128 := fun _ b hb => by
  have := List.mem_of_getElem? hb
  simp at this
  rcases this with rfl | rfl <;> decide
set_option maxHeartbeats 2000000 in
theorem Contains2 (s : ByteArray) (hs : s.size ≤ 1000000) (w : World) :
    Calls Try.prog 45 #[.string s, .string ⟨#[47, 0]⟩] w fun e w' => e = .returned (.bool (s.data.toList.any badB)) ∧ Ext w w' := by
  have hD : decide (0 ≤ Lib.indexAny s.data.toList [47, 0]) = s.data.toList.any badB := any_bad _
  have hI : ∀ w : World, Calls Try.prog 51 #[.string s, .string ⟨#[47, 0]⟩] w fun e w' => e = .returned (.int .i64 (Lib.indexAny s.data.toList [47, 0])) ∧ Ext w w' := by
    intro w
    by_cases h8 : s.size ≤ 8
    · exact ia_short s h8 w
    · refine (Try.strings_IndexAny_long set67 s ⟨#[47, 0]⟩ w (by decide) (by omega) (by omega) (by decide) ascii2).mono ?_
      rintro e w' ⟨rfl, rfl⟩
      exact ⟨rfl, ((Ext.refl w).alloc _).alloc _⟩
  generalize Lib.indexAny s.data.toList [47, 0] = N at hD hI
  generalize s.data.toList.any badB = q at hD
  have HD := hide hD
  clear hD
  go_enter Try.func45, Try.ntmps45
  go_wp2_with (go_at_call 51; refine (hI _).mono ?_; rintro e w' ⟨rfl, hE⟩)
  go_ret
  exact ⟨ret_bool HD.out, hE⟩
end Go.Proofs.Ytngffmchjjpfbaa
