/- Lines of operations: the document's parts. -/
import Derived.Test.YtmfenegkeiipnaaDoorSpF
namespace Go.Proofs.YtmfenegkeiipnaaDoor
set_option linter.unusedVariables false
set_option linter.unusedSimpArgs false
open Go.RowKit

theorem spb_snoc : ∀ (l : L8) (c : UInt8) (Ps : List L8) (p : L8), c ≠ 32 → spb l = Ps ++ [p] → spb (l ++ [c]) = Ps ++ [p ++ [c]]
  | [], c, Ps, p, hc, h => by
    have h1 : Ps = [] ∧ p = [] := by
      cases Ps with
      | nil => simp [spb] at h; exact ⟨rfl, h⟩
      | cons q Ps => simp [spb] at h
    obtain ⟨rfl, rfl⟩ := h1
    simp [spb, hc]
  | b :: l, c, Ps, p, hc, h => by
    have hne := spb_ne l
    obtain ⟨Qs, q, hq⟩ : ∃ Qs q, spb l = Qs ++ [q] := ⟨_, _, (List.dropLast_concat_getLast hne).symm⟩
    have ih := spb_snoc l c Qs q hc hq
    rw [spb_cons] at h
    rw [List.cons_append, spb_cons, ih]
    by_cases hb : b = 32
    · rw [if_pos hb] at h ⊢
      rw [hq] at h
      have h' : ([] :: Qs) ++ [q] = Ps ++ [p] := by simpa using h
      obtain ⟨e1, e2⟩ := List.append_inj' h' rfl
      simp at e2
      rw [← e1, e2]
      rfl
    · rw [if_neg hb] at h ⊢
      cases Qs with
      | nil =>
        rw [hq] at h
        simp only [List.nil_append] at h ⊢
        cases Ps with
        | nil => simp at h ⊢; rw [← h]; rfl
        | cons x Ps => simp at h
      | cons x Qs =>
        rw [hq] at h
        simp only [List.cons_append] at h ⊢
        have h' : ((b :: x) :: Qs) ++ [q] = Ps ++ [p] := by simpa using h
        obtain ⟨e1, e2⟩ := List.append_inj' h' rfl
        simp at e2
        rw [← e1, e2]
        rfl
theorem info_stringT : (Tryd.prog.info? 9).map (fun i => (i.zero, i.size, i.bytes)) = some (some (.string ByteArray.empty), 1, 16) := by kernel_rfl
/-- append onto texts of the call's own. -/
theorem appT {w : World} {ops : Array Oper} {rest : List Oper} {o : Oper} {a : Act} {Q : Exit → Act → World → Prop} (hgd : o.guard = none) (s x : Operand)
    (ho : o.op = .call { callee := .builtin .append, args := #[s, x], argTypes := #[37, 37] })
    (B : Nat) (A : Option Addr) (n c : Nat) (xs : List Value) (hs : a.eval s = .slice A n c) (hown : Own w B 9 A n c xs)
    (A2 : Option Addr) (m c2 : Nat) (ys : List Value) (hx : a.eval x = .slice A2 m c2) (hsl : Sl w A2 m c2 ys) (hbytes : n + m ≤ 1000000000000) (hB : B ≤ w.heap.size)
    (h : ∀ A' c' w', Own w' B 9 A' (n + m) c' (xs ++ ys) → w.grownBy w' (Value.slice A n c).ownBlock → wpList Tryd.prog ops Q rest (a.put o.dst (.slice A' (n + m) c')) w') : wpList Tryd.prog ops Q (o :: rest) a w := by
  obtain ⟨i0, hi0, hz0, hz1, hz2⟩ := info_parts info_stringT
  exact wpList_app hgd s x 37 ho B 9 i0 _ 16 Tryd.underlying37 hi0 hz0 hz1 hz2 rfl A n c xs hs hown A2 m c2 ys hx hsl (by omega) (by omega) hB h
/-- Where the pieces stand behind i bytes. -/
def PcAt (l : L8) (i fr : Nat) (Ps : List L8) : Prop := (i ≤ l.length ∧ fr ≤ i ∧ spb (l.take i) = Ps ++ [(l.take i).drop fr]) ∨ (i = l.length + 1 ∧ Ps = spb l)
theorem PcAt.start (l : L8) : PcAt l 0 0 [] := Or.inl ⟨by omega, by omega, by simp [spb]⟩
theorem PcAt.blank {l : L8} {i fr : Nat} {Ps : List L8} (h : PcAt l i fr Ps) (hi : l[i]? = some 32) : fr ≤ i ∧ PcAt l (i + 1) (i + 1) (Ps ++ [(l.take i).drop fr]) := by
  have hlt := (List.getElem?_eq_some_iff.1 hi).1
  rcases h with ⟨h1, h2, h3⟩ | ⟨h1, _⟩
  · refine ⟨h2, Or.inl ⟨by omega, by omega, ?_⟩⟩
    have e : l.take (i + 1) = l.take i ++ 32 :: [] := by rw [List.take_add_one, hi]; rfl
    rw [e, spb_join, h3]
    congr 1
    have : ((l.take i) ++ 32 :: []).drop (i + 1) = [] := List.drop_eq_nil_of_le (by simp; omega)
    rw [this]
    rfl
  · omega
theorem PcAt.byte {l : L8} {i fr : Nat} {Ps : List L8} {c : UInt8} (h : PcAt l i fr Ps) (hi : l[i]? = some c) (hc : c ≠ 32) : PcAt l (i + 1) fr Ps := by
  have hlt := (List.getElem?_eq_some_iff.1 hi).1
  rcases h with ⟨h1, h2, h3⟩ | ⟨h1, _⟩
  · refine Or.inl ⟨by omega, by omega, ?_⟩
    have e : l.take (i + 1) = l.take i ++ [c] := by rw [List.take_add_one, hi]; rfl
    rw [e, spb_snoc _ c _ _ hc h3, List.drop_append_of_le_length (by rw [List.length_take]; omega)]
  · omega
theorem PcAt.last {l : L8} {fr : Nat} {Ps : List L8} (h : PcAt l l.length fr Ps) : fr ≤ l.length ∧ PcAt l (l.length + 1) (l.length + 1) (Ps ++ [l.drop fr]) := by
  rcases h with ⟨h1, h2, h3⟩ | ⟨h1, _⟩
  · rw [List.take_length] at h3
    exact ⟨h2, Or.inr ⟨rfl, h3.symm⟩⟩
  · omega
theorem PcAt.lens {l : L8} {i fr : Nat} {Ps : List L8} (h : PcAt l i fr Ps) : Ps.length ≤ l.length + 1 := by
  rcases h with ⟨h1, h2, h3⟩ | ⟨_, rfl⟩
  · have := spb_len (l.take i)
    rw [h3, List.length_take] at this
    simp at this
    omega
  · exact spb_len l
set_option maxHeartbeats 1000000 in
theorem q_parts (l : L8) (w : World) (hn : l.length ≤ 1000000) : Calls Tryd.prog 20 #[.string (toB l)] w fun e w' => ∃ (A : Option Addr) (m c : Nat), e = .returned (.slice A m c) ∧ Own w' w.heap.size 9 A m c (vT (pcs l)) ∧ Ext w w' := by
  obtain ⟨n, hnl⟩ : ∃ n, n = l.length := ⟨_, rfl⟩
  have hsz := toB_size l
  obtain ⟨s, hs⟩ : ∃ s, s = toB l := ⟨_, rfl⟩
  rw [← hnl] at hsz hn
  rw [← hs] at hsz ⊢
  have HS := hide hs
  have HL := hide hnl
  clear hs hnl
  go_enter Tryd.func20, Tryd.ntmps20
  go_wp2_with fail
  go_loopw [3, 4, 5] (fun u f v wr => ∃ (k fr m c1 : Nat) (A1 : Option Addr) (Ps : List L8), k ≤ n + 1 ∧ v = .int .i64 k ∧ f = .int .i64 fr ∧ u = .slice A1 m c1 ∧ Own wr w.heap.size 9 A1 m c1 (vT (mB Ps)) ∧ Ext w wr ∧ Hid (PcAt l k fr Ps)) (fun _ _ v _ => n + 1 - (intOf v).toNat)
  case atStart => exact ⟨0, 0, 0, 0, none, [], by omega, rfl, rfl, rfl, Own.nilS _ _ _, Ext.refl w, PcAt.start l⟩
  case round =>
    obtain ⟨k, fr, m, c1, A1, Ps, hk, rfl, rfl, rfl, hO, hE, hP⟩ := hrel
    have hm : m ≤ n + 1 := by
      have h1 := hO.len
      rw [vT_len, mB_len] at h1
      have := hP.out.lens
      rw [HL.out]
      omega
    have hEs := hE.size
    by_cases hlt : k ≤ n
    · have W1 : IntKind.i64.wrap ((k : Int) + 1) = (k : Int) + 1 := IntWalk.i64_in _ (by omega)
      have i1 : (k : Int) ≤ (n : Int) := by omega
      by_cases he : k = n
      · subst he
        have e1 : ((k : Int) == (k : Int)) = true := by simp
        obtain ⟨hfr, hP2⟩ := PcAt.last (by have := hP.out; rw [HL.out] at this; exact this)
        have hx : s.extract fr k = toB (l.drop fr) := by
          rw [HS.out, HL.out]
          apply ByteArray.ext
          apply Array.ext'
          simp [toB]
          exact List.take_of_length_le (by simp)
        have i3 : (fr : Int) ≤ (k : Int) := by have := HL.out; omega
        have i4 : fr ≤ k := by omega
        rw [← HL.out] at hP2
        have HP2 := hide hP2
        clear hP2 hfr hlt
        go_wp2_with (at_builtin; refine appT rfl (.tmp 22) (.tmp 27) rfl w.heap.size A1 m c1 _ rfl (hO.ext ((Ext.refl _).alloc _)) _ 1 1 _ rfl (Sl.lit wr _ 9 1 rfl (by omega) (by simp [Value.oneCell'])) (by omega) (by simp; omega) ?_; intro A2 c2 w2 hO2 hG2; have hE2 : Ext w w2 := (hE.alloc _).grown hG2 (fun q hq => (hO.block q hq).1))
        go_roundw
        case rel => exact ⟨k + 1, k + 1, m + 1, c2, A2, _, by omega, by go_num, by go_num, rfl, by rw [mB_append, vT_append]; exact hO2, hE2, HP2.out⟩
        case measure => simp [intOf] <;> omega
      · have i3 : ((k : Int) == (n : Int)) = false := by simp; omega
        have i4 : k < n := by omega
        have i5 : (k : Int) < (n : Int) := by omega
        obtain ⟨b, hb⟩ : ∃ b, l[k]? = some b := ⟨_, List.getElem?_eq_getElem (by rw [← HL.out]; omega)⟩
        have hat : ∀ h : k < s.size, s[k]'h = b := by
          have := HS.out
          subst this
          exact fun h => toB_at hb h
        by_cases hb2 : b = 32
        · subst hb2
          obtain ⟨hfr, hP2⟩ := hP.out.blank hb
          have hx : s.extract fr k = toB ((l.take k).drop fr) := by
            rw [HS.out]
            apply ByteArray.ext
            apply Array.ext'
            simp [toB, List.drop_take]
          have j3 : (fr : Int) ≤ (k : Int) := by omega
          have HP2 := hide hP2
          clear hP2 hb
          go_wp2_with (at_builtin; refine appT rfl (.tmp 22) (.tmp 27) rfl w.heap.size A1 m c1 _ rfl (hO.ext ((Ext.refl _).alloc _)) _ 1 1 _ rfl (Sl.lit wr _ 9 1 rfl (by omega) (by simp [Value.oneCell'])) (by omega) (by simp; omega) ?_; intro A2 c2 w2 hO2 hG2; have hE2 : Ext w w2 := (hE.alloc _).grown hG2 (fun q hq => (hO.block q hq).1))
          go_roundw
          case rel => exact ⟨k + 1, k + 1, m + 1, c2, A2, _, by omega, by go_num, by go_num, rfl, by rw [mB_append, vT_append]; exact hO2, hE2, HP2.out⟩
          case measure => simp [intOf] <;> omega
        · have hP2 := hide (hP.out.byte hb hb2)
          have j1 : ((b.toNat : Int) == 32) = false := by
            rw [beq_eq_false_iff_ne]
            intro e
            exact hb2 (UInt8.toNat.inj (by have : b.toNat = 32 := by omega
                                           exact this))
          have HB2 := hide hb2
          clear hb hb2
          go_wp2_with fail
          go_roundw
          case rel => exact ⟨k + 1, fr, m, c1, A1, _, by omega, by go_num, by trivial, rfl, hO, hE, hP2.out⟩
          case measure => simp [intOf] <;> omega
    · obtain rfl : k = n + 1 := by omega
      have hps : Ps = spb l := by
        rcases hP.out with ⟨h1, _⟩ | ⟨_, h⟩
        · have := HL.out; omega
        · exact h
      rw [hps] at hO
      have HO := hide hO
      have i1 : ¬ ((n + 1 : Nat) : Int) ≤ (n : Int) := by omega
      clear hO hps
      go_wp2_with fail
      go_ret
      exact ⟨A1, m, c1, rfl, HO.out, hE⟩
end Go.Proofs.YtmfenegkeiipnaaDoor
