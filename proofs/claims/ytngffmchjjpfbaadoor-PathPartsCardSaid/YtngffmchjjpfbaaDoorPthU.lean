/- Paths: the document's answer: parts. -/
import Derived.Test.YtngffmchjjpfbaaDoorPthT
namespace Go.Proofs.YtngffmchjjpfbaaDoor
set_option linter.unusedVariables false
open Go.RowKit

/-- The state of the walk along a text: what is laid so far, and where the piece at hand begins. -/
def AtP (l : L8) (out : List L8) (f k : Nat) : Prop := (k ≤ l.length ∧ f ≤ k ∧ prt l = out ++ prt (l.drop f) ∧ (47 : UInt8) ∉ (l.drop f).take (k - f)) ∨ (k = l.length + 1 ∧ prt l = out)
theorem AtP.go {l : L8} {out : List L8} {f k : Nat} (h : AtP l out f k) {x : UInt8} (hx : l[k]? = some x) (hne : x ≠ 47) : AtP l out f (k + 1) := by
  have hk := (List.getElem?_eq_some_iff.1 hx).1
  rcases h with ⟨h1, h2, h3, h4⟩ | ⟨h1, _⟩
  · refine .inl ⟨by omega, by omega, h3, ?_⟩
    rw [show k + 1 - f = (k - f) + 1 from by omega, List.take_add_one]
    intro hm
    rcases List.mem_append.1 hm with hm | hm
    · exact h4 hm
    · rw [List.getElem?_drop, show f + (k - f) = k from by omega, hx] at hm
      simp at hm
      exact hne hm.symm
  · omega
theorem AtP.cut {l : L8} {out : List L8} {f k : Nat} (h : AtP l out f k) (hx : l[k]? = some 47) : AtP l (out ++ (if goodP ((l.drop f).take (k - f)) = true then [(l.drop f).take (k - f)] else [])) (k + 1) (k + 1) := by
  have hk := (List.getElem?_eq_some_iff.1 hx).1
  rcases h with ⟨h1, h2, h3, h4⟩ | ⟨h1, _⟩
  · refine .inl ⟨by omega, Nat.le_refl _, ?_, by simp⟩
    have e : l.drop f = (l.drop f).take (k - f) ++ 47 :: l.drop (k + 1) := by
      conv => lhs; rw [← List.take_append_drop (k - f) (l.drop f)]
      rw [List.drop_drop, show f + (k - f) = k from by omega, List.drop_eq_getElem_cons hk]
      rw [List.getElem?_eq_getElem hk] at hx
      injection hx with hx
      rw [hx]
    rw [h3, List.append_assoc]
    congr 1
    conv => lhs; rw [e]
    rw [prt_join]
    congr 1
    unfold prt
    rw [spl_free h4]
    cases hg : goodP ((l.drop f).take (k - f)) <;> simp [hg]
  · omega
theorem AtP.last {l : L8} {out : List L8} {f : Nat} (h : AtP l out f l.length) : AtP l (out ++ (if goodP ((l.drop f).take (l.length - f)) = true then [(l.drop f).take (l.length - f)] else [])) (l.length + 1) (l.length + 1) := by
  rcases h with ⟨h1, h2, h3, h4⟩ | ⟨h1, _⟩
  · refine .inr ⟨rfl, ?_⟩
    have e : (l.drop f).take (l.length - f) = l.drop f := List.take_of_length_le (by simp)
    rw [e] at h4 ⊢
    rw [h3]
    congr 1
    unfold prt
    rw [spl_free h4]
    cases hg : goodP (l.drop f) <;> simp [hg]
  · omega
theorem AtP.le {l : L8} {out : List L8} {f k : Nat} (h : AtP l out f k) (hk : k ≤ l.length) : f ≤ k := by
  rcases h with ⟨_, h2, _⟩ | ⟨h1, _⟩
  · exact h2
  · omega
theorem AtP.len {l : L8} {out : List L8} {f k : Nat} (h : AtP l out f k) : out.length ≤ l.length + 1 := by
  have := prt_len l
  rcases h with ⟨_, _, h3, _⟩ | ⟨_, h3⟩
  · rw [h3, List.length_append] at this; omega
  · rw [h3] at this; exact this
set_option maxHeartbeats 1000000 in
theorem ref12_zero (s : ByteArray) (w : World) (hs : s.size ≤ 1000000) : Calls Tryd.prog 24 #[.string s] w fun e w' => e = .returned (.bool (s.data.toList.contains 0)) ∧ w = w' := by
  have HL := hide (Lib.size_eq s)
  go_enter Tryd.func24, Tryd.ntmps24
  go_wp2_with fail
  go_loopw [3] (fun j wr => ∃ k : Nat, k ≤ s.size ∧ j = .int .i64 k ∧ w = wr ∧ Hid (∀ j b, j < k → s.data.toList[j]? = some b → b ≠ 0)) (fun j _ => s.size - (intOf j).toNat)
  case atStart => exact ⟨0, by omega, rfl, rfl, fun j b hj => by omega⟩
  case round =>
    obtain ⟨k, hk, rfl, rfl, hno⟩ := hrel
    by_cases hlt : k < s.size
    · have hlt' : (k : Int) < (s.size : Int) := by omega
      obtain ⟨x, hx⟩ : ∃ x : UInt8, s[k]'hlt = x := ⟨_, rfl⟩
      have HX := hide (show s.data.toList[k]? = some x by rw [← hx]; exact Lib.data_getElem? s k hlt)
      by_cases h0 : x = 0
      · subst h0
        have k1 : (((0 : UInt8).toNat : Int) == 0) = true := rfl
        have HN := hide (show s.data.toList.contains 0 = true by rw [List.contains_iff_mem]; exact List.mem_of_getElem? HX.out)
        go_wp2_with fail
        go_ret
        exact ⟨ret_bool HN.out.symm, rfl⟩
      · have k2 : ¬ (x.toNat : Int) = 0 := fun e => h0 (UInt8.toNat_inj.1 (by show x.toNat = 0; omega))
        have k4 : ((x.toNat : Int) == 0) = false := beq_eq_false_iff_ne.2 k2
        have HN := hide h0
        clear h0
        go_wp2_with fail
        go_roundw
        case rel =>
          refine ⟨k + 1, by omega, by go_num, trivial, fun j b hj hjb => ?_⟩
          by_cases e : j = k
          · subst e
            rw [HX.out] at hjb
            injection hjb with e2
            rw [← e2]; exact HN.out
          · exact hno.out j b (by omega) hjb
        case measure => simp [intOf]; omega
    · obtain rfl : k = s.size := by omega
      have HN := hide (show s.data.toList.contains 0 = false by
        rw [List.contains_eq_mem, decide_eq_false_iff_not]
        intro hm
        obtain ⟨j, hj, e⟩ := List.getElem_of_mem hm
        exact hno.out j 0 (by rw [HL.out]; exact hj) (by rw [List.getElem?_eq_getElem hj, e]) rfl)
      go_wp2_with fail
      go_ret
      exact ⟨ret_bool HN.out.symm, rfl⟩
set_option maxHeartbeats 1000000 in
theorem ref12_long (ps : List L8) (A : Option Addr) (n c : Nat) (w : World) (h : Sl w A n c (vT (mB ps))) : Calls Tryd.prog 25 #[.slice A n c] w fun e w' => e = .returned (.bool (lngP ps || decide (20 < ps.length))) ∧ w = w' := by
  have hn : n = ps.length := by have := h.len; rw [vT_len, mB_len] at this; exact this.symm
  have hnm : n ≤ 9223372036854775807 := Nat.le_trans h.nc h.cm
  have HN := hide hn
  clear hn
  go_enter Tryd.func25, Tryd.ntmps25
  go_wp2_with fail
  go_loopw [3] (fun j wr => ∃ k : Nat, k ≤ n ∧ j = .int .i64 k ∧ w = wr ∧ Hid (lngP (ps.take k) = false)) (fun j _ => n - (intOf j).toNat)
  case atStart => exact ⟨0, by omega, rfl, rfl, rfl⟩
  case round =>
    obtain ⟨k, hk, rfl, rfl, hno⟩ := hrel
    by_cases hlt : k < n
    · have hlt' : (k : Int) < (n : Int) := by omega
      obtain ⟨b, o, x, rfl, hx, hc⟩ := h.atT hlt
      obtain ⟨p, hp⟩ : ∃ p, ps[k]? = some p := ⟨_, List.getElem?_eq_getElem (by rw [← HN.out]; exact hlt)⟩
      have hxp : x = toB p := by
        have := hx.out
        unfold mB at this
        rw [List.getElem?_map, hp] at this
        simpa using this.symm
      have hst : lngP (ps.take (k + 1)) = (lngP (ps.take k) || decide (24 < p.length)) := by
        unfold lngP
        rw [List.take_add_one, hp, List.any_append]
        simp
      have hmem := List.mem_of_getElem? hp
      have hxs : x.size = p.length := by rw [hxp, toB_size]
      clear hxp hx hp
      by_cases h24 : (24 : Int) < x.size
      · have HR := hide (show (lngP ps || decide (20 < ps.length)) = true by
          have : lngP ps = true := by
            unfold lngP
            rw [List.any_eq_true]
            exact ⟨p, hmem, decide_eq_true (by omega)⟩
          rw [this]; rfl)
        clear hst hmem hxs
        go_wp2_with fail
        go_ret
        exact ⟨ret_bool HR.out.symm, rfl⟩
      · have HR := hide (show lngP (ps.take (k + 1)) = false by rw [hst, hno.out, decide_eq_false (by omega)]; rfl)
        clear hst hmem hxs
        go_wp2_with fail
        go_roundw
        case rel => exact ⟨k + 1, by omega, by go_num, trivial, HR.out⟩
        case measure => simp [intOf]; omega
    · obtain rfl : k = n := by omega
      rw [HN.out, List.take_of_length_le (Nat.le_refl _)] at hno
      have hr : (lngP ps || decide (20 < ps.length)) = decide ((20 : Int) < (k : Int)) := by
        rw [hno.out, ← HN.out]
        by_cases h : (20 : Int) < k
        · rw [decide_eq_true h, decide_eq_true (by omega)]; rfl
        · rw [decide_eq_false h, decide_eq_false (by omega)]; rfl
      have HR := hide hr
      clear hr hlt
      go_wp2_with fail
      go_ret
      exact ⟨ret_bool (by rw [HR.out]; first | done | rfl | simp), rfl⟩
set_option maxHeartbeats 2000000 in
theorem ref12_parts (s : ByteArray) (w : World) (hs : s.size ≤ 1000000) : Calls Tryd.prog 26 #[.string s] w fun e w' =>
    ∃ A' n c, e = .returned (.slice A' n c) ∧ n ≤ 1000001 ∧ Own w' w.heap.size 9 A' n c (vT (mB (prt s.data.toList))) ∧ Ext w w' := by
  have HL := hide (Lib.size_eq s)
  have hext : ∀ f k, s.extract f k = toB ((s.data.toList.drop f).take (k - f)) := fun f k => by rw [← Lib.extract_data]; exact (toB_of _).symm
  have HEX := hide hext
  clear hext
  go_enter Tryd.func26, Tryd.ntmps26
  go_wp2_with fail
  go_loopw [3, 4, 5] (fun o fr j wr => ∃ (k f n3 c3 : Nat) (A3 : Option Addr) (out : List L8), k ≤ s.size + 1 ∧ f ≤ s.size + 1 ∧ j = .int .i64 k ∧ fr = .int .i64 f ∧ o = .slice A3 n3 c3 ∧ n3 ≤ 1000001 ∧ Hid (AtP s.data.toList out f k) ∧ Own wr w.heap.size 9 A3 n3 c3 (vT (mB out)) ∧ Ext w wr) (fun _ _ j _ => s.size + 1 - (intOf j).toNat)
  case atStart => exact ⟨0, 0, 0, 0, none, [], by omega, by omega, rfl, rfl, rfl, by omega, .inl ⟨by omega, Nat.le_refl _, by simp, by simp⟩, Own.nilS _ _ _, Ext.refl _⟩
  case round =>
    obtain ⟨k, f, n3, c3, A3, out, hk, hf, rfl, rfl, rfl, hn3, ha, hO, hE⟩ := hrel
    have hsz := hE.size
    by_cases hle : k ≤ s.size
    · have hle' : (k : Int) ≤ (s.size : Int) := by omega
      have hfk := ha.out.le (by rw [← HL.out]; exact hle)
      have hfk' : (f : Int) ≤ (k : Int) := by omega
      have hcut : ∀ (hend : AtP s.data.toList (out ++ (if goodP ((s.data.toList.drop f).take (k - f)) = true then [(s.data.toList.drop f).take (k - f)] else [])) (k + 1) (k + 1)), True := fun _ => trivial
      clear hcut
      obtain ⟨y, hy⟩ : ∃ y, s.extract f k = y := ⟨_, rfl⟩
      have hyl : y.toList = (s.data.toList.drop f).take (k - f) := by rw [← hy, HEX.out, toB_list]
      have hyB : y = toB ((s.data.toList.drop f).take (k - f)) := by rw [← hy, HEX.out]
      have hpl : ((s.data.toList.drop f).take (k - f)).length = k - f := by rw [List.length_take, List.length_drop, ← HL.out]; omega
      obtain ⟨q, hq⟩ : ∃ q, (s.data.toList.drop f).take (k - f) = q := ⟨_, rfl⟩
      rw [hq] at hyl hyB hpl
      have hcase : (goodP q = false ∧ ¬ (f : Int) < (k : Int)) ∨ (goodP q = false ∧ (f : Int) < (k : Int) ∧ (y.toList == [46]) = true) ∨ (goodP q = true ∧ (f : Int) < (k : Int) ∧ (y.toList == [46]) = false) := by
        rw [hyl]
        unfold goodP
        by_cases h1 : (f : Int) < (k : Int)
        · have : q.isEmpty = false := by
            cases q with
            | nil => simp at hpl; omega
            | cons _ _ => rfl
          rw [this]
          cases h2 : (q == [46])
          · exact .inr (.inr ⟨rfl, h1, rfl⟩)
          · exact .inr (.inl ⟨rfl, h1, rfl⟩)
        · have : q = [] := List.eq_nil_of_length_eq_zero (by omega)
          subst this
          exact .inl ⟨rfl, h1⟩
      have HQ := hide hq
      have HYB := hide hyB
      have HAt := ha
      clear hyl hyB hpl hq
      have hnext : (∃ x : UInt8, s.data.toList[k]? = some x ∧ x ≠ 47 ∧ ∃ h : k < s.size, s[k]'h = x) ∨ (AtP s.data.toList (out ++ (if goodP q = true then [q] else [])) (k + 1) (k + 1) ∧ ((k < s.size ∧ ∃ h : k < s.size, s[k]'h = 47) ∨ ¬ (k : Int) < (s.size : Int))) := by
        by_cases hlt : k < s.size
        · have hx := Lib.data_getElem? s k hlt
          by_cases h47 : s[k]'hlt = 47
          · refine .inr ⟨?_, .inl ⟨hlt, hlt, h47⟩⟩
            rw [← HQ.out]
            exact ha.out.cut (by rw [hx, h47])
          · exact .inl ⟨_, hx, h47, hlt, rfl⟩
        · refine .inr ⟨?_, .inr (by omega)⟩
          have hke : k = s.data.toList.length := by rw [← HL.out]; omega
          subst hke
          rw [← HQ.out]
          exact ha.out.last
      rcases hnext with ⟨x, hx, h47, hlt, hsx⟩ | ⟨hat, hend⟩
      · have k2 : ¬ (x.toNat : Int) = 47 := fun e => h47 (UInt8.toNat_inj.1 (by show x.toNat = 47; omega))
        have k4 : ((x.toNat : Int) != 47) = true := by simpa using k2
        have HG := hide (ha.out.go hx h47)
        have hlt' : (k : Int) < (s.size : Int) := by omega
        clear hx h47 hcase hy ha
        go_wp2_with fail
        go_roundw
        case rel => exact ⟨k + 1, f, n3, c3, A3, out, by omega, hf, by go_num, rfl, rfl, hn3, HG.out, hO, hE⟩
        case measure => simp [intOf]; omega
      · have HT := hide hat
        have hl2 := hat.len
        rw [← HL.out] at hl2
        have hOl := hO.len
        rw [vT_len, mB_len] at hOl
        clear hat ha
        rcases hcase with ⟨hg, h1⟩ | ⟨hg, h1, h2⟩ | ⟨hg, h1, h2⟩
        · rw [hg] at HT hl2
          have hT2 := HT.out
          rw [if_neg (by decide), List.append_nil] at hT2
          have HT3 := hide hT2
          clear hg HT hT2 hl2 hOl
          rcases hend with ⟨hlt, hh, h47⟩ | hlt
          · have k1 : (((47 : UInt8).toNat : Int) == 47) = true := rfl
            have k3 : (((47 : UInt8).toNat : Int) != 47) = false := rfl
            have hlt' : (k : Int) < (s.size : Int) := by omega
            go_wp2_with fail
            go_roundw
            case rel => exact ⟨k + 1, k + 1, n3, c3, A3, out, by omega, by omega, by go_num, by go_num, rfl, hn3, HT3.out, hO, hE⟩
            case measure => simp [intOf]; omega
          · go_wp2_with fail
            go_roundw
            case rel => exact ⟨k + 1, k + 1, n3, c3, A3, out, by omega, by omega, by go_num, by go_num, rfl, hn3, HT3.out, hO, hE⟩
            case measure => simp [intOf]; omega
        · rw [hg] at HT hl2
          have hT2 := HT.out
          rw [if_neg (by decide), List.append_nil] at hT2
          have HT3 := hide hT2
          clear hg HT hT2 hl2 hOl
          rcases hend with ⟨hlt, hh, h47⟩ | hlt
          · have k1 : (((47 : UInt8).toNat : Int) == 47) = true := rfl
            have k3 : (((47 : UInt8).toNat : Int) != 47) = false := rfl
            have hlt' : (k : Int) < (s.size : Int) := by omega
            go_wp2_with fail
            go_roundw
            case rel => exact ⟨k + 1, k + 1, n3, c3, A3, out, by omega, by omega, by go_num, by go_num, rfl, hn3, HT3.out, hO, hE⟩
            case measure => simp [intOf]; omega
          · go_wp2_with fail
            go_roundw
            case rel => exact ⟨k + 1, k + 1, n3, c3, A3, out, by omega, by omega, by go_num, by go_num, rfl, hn3, HT3.out, hO, hE⟩
            case measure => simp [intOf]; omega
        · rw [hg] at HT hl2
          have hT2 := HT.out
          rw [if_pos rfl] at hT2 hl2
          rw [List.length_append] at hl2
          simp only [List.length_singleton] at hl2
          have HT3 := hide hT2
          have hn4 : n3 + 1 ≤ 1000001 := by omega
          clear hg HT hT2 hl2 hOl
          rcases hend with ⟨hlt, hh, h47⟩ | hlt
          · have k1 : (((47 : UInt8).toNat : Int) == 47) = true := rfl
            have k3 : (((47 : UInt8).toNat : Int) != 47) = false := rfl
            have hlt' : (k : Int) < (s.size : Int) := by omega
            go_wp2_with (at_builtin; refine appT rfl (.tmp 32) (.tmp 37) rfl w.heap.size _ n3 c3 _ rfl (hO.ext ((Ext.refl _).alloc _)) _ 1 1 _ rfl (Sl.lit wr #[.string y] 9 1 rfl (by omega) (by simp [Value.oneCell'])) (by omega) (by simp; omega) ?_; intro A5 c5 w5 hO5 hG5)
            go_roundw
            case rel =>
              refine ⟨k + 1, k + 1, n3 + 1, c5, A5, out ++ [q], by omega, by omega, by go_num, by go_num, rfl, hn4, HT3.out, ?_, (hE.alloc _).grown hG5 (fun q hq => (hO.block q hq).1)⟩
              rw [mB_append, vT_append]
              have : vT (mB [q]) = [Value.string y] := by rw [HYB.out]; rfl
              rw [this]; exact hO5
            case measure => simp [intOf]; omega
          · go_wp2_with (at_builtin; refine appT rfl (.tmp 32) (.tmp 37) rfl w.heap.size _ n3 c3 _ rfl (hO.ext ((Ext.refl _).alloc _)) _ 1 1 _ rfl (Sl.lit wr #[.string y] 9 1 rfl (by omega) (by simp [Value.oneCell'])) (by omega) (by simp; omega) ?_; intro A5 c5 w5 hO5 hG5)
            go_roundw
            case rel =>
              refine ⟨k + 1, k + 1, n3 + 1, c5, A5, out ++ [q], by omega, by omega, by go_num, by go_num, rfl, hn4, HT3.out, ?_, (hE.alloc _).grown hG5 (fun q hq => (hO.block q hq).1)⟩
              rw [mB_append, vT_append]
              have : vT (mB [q]) = [Value.string y] := by rw [HYB.out]; rfl
              rw [this]; exact hO5
            case measure => simp [intOf]; omega
    · obtain rfl : k = s.size + 1 := by omega
      have hp : prt s.data.toList = out := by
        rcases ha.out with ⟨h1, _⟩ | ⟨_, h2⟩
        · rw [← HL.out] at h1; omega
        · exact h2
      have HP := hide hp
      clear hp
      go_wp2_with fail
      go_ret
      exact ⟨A3, n3, c3, rfl, hn3, by rw [HP.out]; exact hO, hE⟩
end Go.Proofs.YtngffmchjjpfbaaDoor
