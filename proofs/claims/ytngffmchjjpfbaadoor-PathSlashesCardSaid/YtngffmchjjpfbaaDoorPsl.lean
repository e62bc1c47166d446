/- Paths: more slashes, and parts of one dot, change nothing. -/
import Derived.Test.YtngffmchjjpfbaaDoorPthZ
import Derived.BigQuiet
namespace Go.Proofs.YtngffmchjjpfbaaDoor
set_option linter.unusedVariables false
open Go.RowKit

theorem splE_prt {l q : L8} (hl : splE l = 0) (h1 : ∃ r, q = 47 :: r) (h2 : q.contains 0 = false) (h3 : prt q = prt l) (h4 : q.length ≤ 200) : splE q = 0 := by
  obtain ⟨r, rfl⟩ := h1
  obtain ⟨_, _, hg, h20, _⟩ := splE_zero hl
  exact splE_mk h2 (by rw [h3]; exact hg) (by rw [h3]; exact h20) h4
theorem no_zero {l : L8} (h : l.contains 0 = false) : (0 : UInt8) ∉ l := by
  intro hm
  have : l.contains 0 = true := by simpa using hm
  rw [h] at this
  cases this
theorem zero_no {l : L8} (h : (0 : UInt8) ∉ l) : l.contains 0 = false := by
  cases hb : l.contains 0 with
  | false => rfl
  | true => exact absurd (by simpa using hb) h
/-- A slash, a dot and a slash more. -/
theorem slash_more {l : L8} {k : Nat} (hl : splE l = 0) (h60 : l.length ≤ 60) (hk : l[k]? = some 47) :
    splE (l.take k ++ [47, 46, 47] ++ l.drop k) = 0 ∧ splPs (l.take k ++ [47, 46, 47] ++ l.drop k) = splPs l ∧ clnS (l.take k ++ [47, 46, 47] ++ l.drop k) = clnS l := by
  obtain ⟨⟨r, hr⟩, hz, hg, h20, _⟩ := splE_zero hl
  obtain ⟨hlt, hkk⟩ := List.getElem?_eq_some_iff.1 hk
  have hd : l.drop k = 47 :: l.drop (k + 1) := by rw [List.drop_eq_getElem_cons hlt, hkk]
  have hsplit : l = l.take k ++ 47 :: l.drop (k + 1) := by rw [← hd, List.take_append_drop]
  have hp : prt (l.take k ++ [47, 46, 47] ++ l.drop k) = prt l := by
    rw [hd]
    have e : l.take k ++ [47, 46, 47] ++ 47 :: l.drop (k + 1) = l.take k ++ 47 :: ([46] ++ 47 :: (47 :: l.drop (k + 1))) := by simp
    rw [e, prt_join, prt_join, prt_dot, prt_slash, List.nil_append]
    conv => rhs; rw [hsplit]
    rw [prt_join]
  have hE : splE (l.take k ++ [47, 46, 47] ++ l.drop k) = 0 := by
    refine splE_prt hl ?_ ?_ hp ?_
    · cases k with
      | zero => exact ⟨[46, 47] ++ l.drop 0, by simp⟩
      | succ k => rw [hr]; exact ⟨r.take k ++ [47, 46, 47] ++ (47 :: r).drop (k + 1), by simp⟩
    · refine zero_no ?_
      have hn := no_zero hz
      intro hm
      rw [List.mem_append, List.mem_append] at hm
      rcases hm with (hm | hm) | hm
      · exact hn (List.mem_of_mem_take hm)
      · exact absurd hm (by decide)
      · exact hn (List.mem_of_mem_drop hm)
    · simp; omega
  refine ⟨hE, ?_, ?_⟩
  · unfold splPs; rw [if_pos hE, if_pos hl, hp]
  · unfold clnS; rw [if_pos hE, if_pos hl, hp]
/-- A part more, and two dots behind it. -/
theorem turn_more {l : L8} (hl : splE l = 0) (h60 : l.length ≤ 60) (h18 : (splPs l).length + 2 ≤ 20) :
    splE (l ++ [47, 122, 122, 47, 46, 46]) = 0 ∧ clnS (l ++ [47, 122, 122, 47, 46, 46]) = clnS l := by
  obtain ⟨⟨r, hr⟩, hz, hg, h20, _⟩ := splE_zero hl
  have hP : splPs l = prt l := by unfold splPs; rw [if_pos hl]
  rw [hP] at h18
  have hp : prt (l ++ [47, 122, 122, 47, 46, 46]) = prt l ++ [[122, 122], [46, 46]] := by
    have e : l ++ [47, 122, 122, 47, 46, 46] = l ++ 47 :: [122, 122, 47, 46, 46] := rfl
    rw [e, prt_join, show prt [122, 122, 47, 46, 46] = [[122, 122], [46, 46]] by decide +kernel]
  have hE : splE (l ++ [47, 122, 122, 47, 46, 46]) = 0 := by
    have hq : l ++ [47, 122, 122, 47, 46, 46] = 47 :: (r ++ [47, 122, 122, 47, 46, 46]) := by rw [hr]; rfl
    rw [hq]
    refine splE_mk ?_ ?_ ?_ ?_
    · refine zero_no ?_
      rw [← hq]
      have hn := no_zero hz
      intro hm
      rw [List.mem_append] at hm
      rcases hm with hm | hm
      · exact hn hm
      · exact absurd hm (by decide)
    · rw [← hq, hp]
      unfold lngP at *
      rw [List.any_append, hg]
      rfl
    · rw [← hq, hp]; simp; omega
    · rw [← hq]; simp; omega
  refine ⟨hE, ?_⟩
  unfold clnS
  rw [if_pos hE, if_pos hl, hp]
  have hc : cleanP (prt l ++ [[122, 122], [46, 46]]) = cleanP (prt l) := by
    unfold cleanP
    rw [List.foldl_append]
    simp [stepC]
  rw [hc]
theorem byte47' (x : UInt8) : ((x.toNat : Int) == 47) = (x == 47) := by
  by_cases h : x = 47
  · subst h; rfl
  · rw [show (x == 47) = false from by simpa using h]
    simp
    intro e
    exact h (UInt8.toNat_inj.1 (by show x.toNat = 47; omega))
def nI (ks : List Nat) : List Value := ks.map fun x : Nat => Value.int .i64 (x : Int)
theorem nI_len (ks : List Nat) : (nI ks).length = ks.length := by simp [nI]
theorem nI_append (xs ys : List Nat) : nI (xs ++ ys) = nI xs ++ nI ys := by simp [nI]
theorem Sl.atN {w : World} {A : Option Addr} {n c : Nat} {xs : List Nat} (h : Sl w A n c (nI xs)) {k : Nat} (hk : k < n) :
    ∃ b o x, A = some ⟨b, o, none⟩ ∧ Hid (xs[k]? = some x) ∧ w.cell? ⟨b, o + k, none⟩ = some (.int .i64 (x : Nat)) := by
  obtain ⟨b, o, u, hA, hu, hc⟩ := h.at_ hk
  have hu' := hu.out
  simp only [nI, List.getElem?_map, Option.map_eq_some_iff] at hu'
  obtain ⟨x, hx, rfl⟩ := hu'
  exact ⟨b, o, x, hA, hx, hc⟩
theorem info_intT : (Tryd.prog.info? 3).map (fun i => (i.zero, i.size, i.bytes)) = some (some (.int .i64 0), 1, 8) := by kernel_rfl
theorem appN {w : World} {ops : Array Oper} {rest : List Oper} {o : Oper} {a : Act} {Q : Exit → Act → World → Prop} (hgd : o.guard = none) (s x : Operand)
    (ho : o.op = .call { callee := .builtin .append, args := #[s, x], argTypes := #[37, 37] })
    (B : Nat) (A : Option Addr) (n c : Nat) (xs : List Value) (hs : a.eval s = .slice A n c) (hown : Own w B 3 A n c xs)
    (A2 : Option Addr) (m c2 : Nat) (ys : List Value) (hx : a.eval x = .slice A2 m c2) (hsl : Sl w A2 m c2 ys) (hbytes : n + m ≤ 1000000000000) (hB : B ≤ w.heap.size)
    (h : ∀ A' c' w', Own w' B 3 A' (n + m) c' (xs ++ ys) → w.grownBy w' (Value.slice A n c).ownBlock → wpList Tryd.prog ops Q rest (a.put o.dst (.slice A' (n + m) c')) w') : wpList Tryd.prog ops Q (o :: rest) a w := by
  obtain ⟨i0, hi0, hz0, hz1, hz2⟩ := info_parts info_intT
  exact wpList_app hgd s x 37 ho B 3 i0 _ 8 Tryd.underlying37 hi0 hz0 hz1 hz2 rfl A n c xs hs hown A2 m c2 ys hx hsl (by omega) (by omega) hB h
theorem joinB (s : ByteArray) (k : Nat) (hk : k ≤ s.size) : ((s.extract 0 k ++ (⟨#[47, 46, 47]⟩ : ByteArray)) ++ s.extract k s.size).data.toList = s.data.toList.take k ++ [47, 46, 47] ++ s.data.toList.drop k := by
  have e1 := Lib.extract_data s 0 k
  have e2 := Lib.extract_data s k s.size
  have hl : s.data.toList.length = s.size := (Lib.size_eq s).symm
  rw [ByteArray.data_append, ByteArray.data_append, Array.toList_append, Array.toList_append, e1, e2]
  rw [List.take_of_length_le (l := s.data.toList.drop k) (by rw [List.length_drop]; omega)]
  simp
set_option maxHeartbeats 2000000 in
theorem law_PathSlashes (w : World) (s : ByteArray) (hs : s.size ≤ maxLen) (t : Int) (ht1 : -9223372036854775808 ≤ t) (ht2 : t ≤ 9223372036854775807) : Calls Tryd.prog 7 #[.string s, .int .i64 t] w fun e w' => e = .returned (.bool true) ∧ Ext w w' := by
  by_cases h4 : (60 : Int) < (s.size : Int)
  · go_enter Tryd.func7, Tryd.ntmps7
    go_wp2_with fail
    refine (law12_awake _).mono ?_
    rintro e w1 ⟨rfl, hE1⟩
    go_wp2_with fail
    go_ret
    exact ⟨rfl, hE1⟩
  · have hsz : s.size ≤ 1000000 := by omega
    have hl : s.data.toList.length = s.size := (Lib.size_eq s).symm
    have x1 := fun w => path_Split s w hsz
    have x2 := fun w => path_Clean s w hsz
    by_cases h0 : splE s.data.toList = 0
    case neg =>
      have hC : clnS s.data.toList = [] := by unfold clnS; rw [if_neg h0]
      have hP : splPs s.data.toList = [] := by unfold splPs; rw [if_neg h0]
      rw [hP] at x1
      rw [hC] at x2
      generalize splE s.data.toList = E at *
      have he0 : ((E : Int) != 0) = true := by simp; omega
      obtain ⟨c, hc⟩ : ∃ c, toB [] = c := ⟨_, rfl⟩
      have hnil : c.toList = [] := by rw [← hc, toB_list]
      have hem : c.toList.isEmpty = true := by rw [hnil]; rfl
      rw [hc] at x2
      have H1 := hide x1
      have H2 := hide x2
      clear x1 x2 h0 hC hP hc hl
      go_enter Tryd.func7, Tryd.ntmps7
      go_wp2_with fail
      refine (H1.out _).mono ?_
      rintro e w1 ⟨A1, n1, k1, rfl, hn1, hO1, hE1⟩
      obtain rfl : n1 = 0 := by have := hO1.len; rw [vT_len, mB_len] at this; exact this.symm
      go_wp2_with fail
      refine (H2.out _).mono ?_
      rintro e w2 ⟨rfl, hE2⟩
      go_wp2_with fail
      refine (law12_awake _).mono ?_
      rintro e w3 ⟨rfl, hE3⟩
      go_wp2_with fail
      go_ret
      exact ⟨rfl, hE1.trans (hE2.trans hE3)⟩
    case pos =>
      obtain ⟨⟨r, hr⟩, _, _, _, _⟩ := splE_zero h0
      have hpos : 0 < s.size := by rw [← hl, hr]; simp
      have hfst : s.data.toList[0]? = some 47 := by rw [hr]; rfl
      have hmore := fun k hk => slash_more (l := s.data.toList) (k := k) h0 (by omega) hk
      have hturn := turn_more (l := s.data.toList) h0 (by omega)
      have x3 := fun k (hk : k ≤ s.size) w => path_Split ((s.extract 0 k ++ (⟨#[47, 46, 47]⟩ : ByteArray)) ++ s.extract k s.size) w (by rw [Lib.size_eq, joinB s k hk]; simp; omega)
      have x4 := fun k (hk : k ≤ s.size) w => path_Clean ((s.extract 0 k ++ (⟨#[47, 46, 47]⟩ : ByteArray)) ++ s.extract k s.size) w (by rw [Lib.size_eq, joinB s k hk]; simp; omega)
      have x5 := fun w => path_Clean (s ++ (⟨#[47, 122, 122, 47, 46, 46]⟩ : ByteArray)) w (by rw [ByteArray.size_append]; have : (⟨#[47, 122, 122, 47, 46, 46]⟩ : ByteArray).size = 6 := rfl; omega)
      have e5 : (s ++ (⟨#[47, 122, 122, 47, 46, 46]⟩ : ByteArray)).data.toList = s.data.toList ++ [47, 122, 122, 47, 46, 46] := by simp
      rw [e5] at x5
      rw [h0] at x1 x2
      have hnot : ¬ 9223372036854775807 < s.size + 6 := by omega
      have HX3 := hide (show ∀ k, s.data.toList[k]? = some 47 → k < s.size ∧ (∀ w, Calls Tryd.prog 9 #[.string ((s.extract 0 k ++ (⟨#[47, 46, 47]⟩ : ByteArray)) ++ s.extract k s.size)] w fun e w' =>
          ∃ A' n c, e = .returned (.tuple #[.slice A' n c, .int .i64 0]) ∧ n ≤ 1000001 ∧ Own w' w.heap.size 9 A' n c (vT (mB (splPs s.data.toList))) ∧ Ext w w') ∧
          (∀ w, Calls Tryd.prog 11 #[.string ((s.extract 0 k ++ (⟨#[47, 46, 47]⟩ : ByteArray)) ++ s.extract k s.size)] w fun e w' => e = .returned (.tuple #[.string (toB (clnS s.data.toList)), .int .i64 0]) ∧ Ext w w') from fun k hk => by
        have hlt : k < s.size := by obtain ⟨h, _⟩ := List.getElem?_eq_some_iff.1 hk; omega
        have a3 := x3 k (by omega)
        have a4 := x4 k (by omega)
        obtain ⟨m1, m2, m3⟩ := hmore k hk
        rw [joinB s k (by omega), m1, m2] at a3
        rw [joinB s k (by omega), m1, m3] at a4
        exact ⟨hlt, a3, a4⟩)
      clear x3 x4 hmore e5
      generalize splE (s.data.toList ++ [47, 122, 122, 47, 46, 46]) = F at *
      generalize clnS (s.data.toList ++ [47, 122, 122, 47, 46, 46]) = D at *
      generalize splPs s.data.toList = P at *
      generalize clnS s.data.toList = C at *
      have H1 := hide x1
      have H2 := hide x2
      have H5 := hide x5
      have HT := hide hturn
      have HF := hide hfst
      clear x1 x2 x5 h0 hturn hfst hr
      have HL := hide hl
      clear hl
      go_enter Tryd.func7, Tryd.ntmps7
      go_wp2_with fail
      refine (H1.out _).mono ?_
      rintro e w1 ⟨A1, n1, k1, rfl, hn1, hO1, hE1⟩
      obtain rfl : n1 = P.length := by have := hO1.len; rw [vT_len, mB_len] at this; exact this.symm
      go_wp2_with fail
      refine (H2.out _).mono ?_
      rintro e w2 ⟨rfl, hE2⟩
      have hD2 := hE1.trans hE2
      have hS1 := hO1.sl.ext hE2
      go_wp2_with fail
      go_loopw [9, 10] (fun o j wr => ∃ (k n9 c9 : Nat) (A9 : Option Addr) (ks : List Nat), k ≤ s.size ∧ j = .int .i64 k ∧ o = .slice A9 n9 c9 ∧ n9 ≤ k ∧ Own wr w2.heap.size 3 A9 n9 c9 (nI ks) ∧ Hid (0 < k → 0 < n9) ∧ Hid (∀ q ∈ ks, s.data.toList[q]? = some 47) ∧ Ext w2 wr) (fun _ j _ => s.size - (intOf j).toNat)
      case atStart => exact ⟨0, 0, 0, none, [], by omega, rfl, rfl, Nat.le_refl _, Own.nilS _ _ _, fun h => absurd h (Nat.lt_irrefl 0), fun q hq => by simp at hq, Ext.refl _⟩
      case round =>
        obtain ⟨k, n9, c9, A9, ks, hk, rfl, rfl, hnk, hO, hfs, hks, hE⟩ := hrel
        have hsz2 := hE.size
        by_cases hlt : k < s.size
        · have hlt' : (k : Int) < (s.size : Int) := by omega
          obtain ⟨x, hx⟩ : ∃ x : UInt8, s[k]'hlt = x := ⟨_, rfl⟩
          have HX := hide (show s.data.toList[k]? = some x by rw [← hx]; exact Lib.data_getElem? s k hlt)
          by_cases h47 : x = 47
          · subst h47
            have k1 : (((47 : UInt8).toNat : Int) == 47) = true := rfl
            go_wp2_with (at_builtin; refine appN rfl (.tmp 60) (.tmp 62) rfl w2.heap.size _ n9 c9 _ rfl (hO.ext ((Ext.refl _).alloc _)) _ 1 1 _ rfl (Sl.lit wr #[.int .i64 (k : Int)] 3 1 rfl (by omega) (by simp [Value.oneCell'])) (by omega) (by simp; omega) ?_; intro A5 c5 w5 hO5 hG5)
            go_roundw
            case rel =>
              refine ⟨k + 1, n9 + 1, c5, A5, ks ++ [k], by omega, by go_num, rfl, by omega, ?_, fun _ => by omega, ?_, (hE.alloc _).grown hG5 (fun q hq => (hO.block q hq).1)⟩
              · rw [nI_append]; exact hO5
              · intro q hq
                rw [List.mem_append] at hq
                rcases hq with hq | hq
                · exact hks.out q hq
                · rw [List.mem_singleton] at hq; rw [hq]; exact HX.out
            case measure => simp [intOf]; omega
          · have k1 : ((x.toNat : Int) == 47) = false := by
              rw [byte47']; simpa using h47
            have hk0 : k ≠ 0 := by
              rintro rfl
              have := HX.out
              rw [HF.out] at this
              exact h47 (Option.some.inj this).symm
            have HK0 := hide hk0
            clear h47 hk0
            go_wp2_with fail
            go_roundw
            case rel => exact ⟨k + 1, n9, c9, A9, ks, by omega, by go_num, rfl, by omega, hO, fun _ => hfs.out (Nat.pos_of_ne_zero HK0.out), hks, hE⟩
            case measure => simp [intOf]; omega
        · obtain rfl : k = s.size := by omega
          have hn0 := hfs.out hpos
          have hn1 : ((n9 : Int) == 0) = false := by simp; omega
          have hlow := low_lt t hn0
          obtain ⟨q, hq⟩ : ∃ q, low t n9 = q := ⟨_, rfl⟩
          have hLow := fun w => Low t (n9 : Int) n9 w rfl hn0 (by omega)
          rw [hq] at hlow hLow
          obtain ⟨b, o, x, rfl, hx, hc⟩ := hO.sl.atN hlow
          have hx47 := hks.out x (List.mem_of_getElem? hx.out)
          obtain ⟨hxs, a3, a4⟩ := HX3.out x hx47
          have hi1 : (q : Int) < (n9 : Int) := by omega
          have hi2 : (x : Int) ≤ (s.size : Int) := by omega
          have hz1 : (s.extract 0 x).size = x := by rw [ByteArray.size_extract]; omega
          have hz2 : (s.extract x s.size).size = s.size - x := by rw [ByteArray.size_extract]; omega
          obtain ⟨y1, hy1⟩ : ∃ y, s.extract 0 x = y := ⟨_, rfl⟩
          obtain ⟨y2, hy2⟩ : ∃ y, s.extract x s.size = y := ⟨_, rfl⟩
          rw [hy1, hy2] at a3 a4
          rw [hy1] at hz1
          rw [hy2] at hz2
          have n1 : ¬ 9223372036854775807 < y1.size + 3 := by omega
          have n2 : ¬ 9223372036854775807 < y1.size + 3 + y2.size := by omega
          have H3 := hide a3
          have H4 := hide a4
          have HLow := hide hLow
          clear a3 a4 hLow hx47 hx hlow hq hfs hks hz1 hz2
          go_wp2_with fail
          refine (HLow.out _).mono ?_
          rintro e w' ⟨rfl, rfl⟩
          go_wp2_with fail
          go_quiet (fail)
          go_wp2_with fail
          refine (H3.out _).mono ?_
          rintro e w3 ⟨A3, n3, k3, rfl, hn3, hO3, hE3⟩
          go_wp2_with fail
          refine (H4.out _).mono ?_
          rintro e w4 ⟨rfl, hE4⟩
          go_wp2_with fail
          refine (H5.out _).mono ?_
          rintro e w5 ⟨rfl, hE5⟩
          have hD := (hE.drewN nq).trans (hE3.trans (hE4.trans hE5))
          have hS := hS1.ext hD
          have hS3 := hO3.sl.ext (hE4.trans hE5)
          by_cases h18 : P.length + 2 ≤ 20
          · obtain ⟨rfl, rfl⟩ := HT.out h18
            have h18' : ¬ (20 : Int) < (P.length : Int) + 2 := by omega
            go_wp2_with fail
            refine (SameT hS hS3 rfl).mono ?_
            rintro e w6 ⟨rfl, k6, rfl⟩
            go_wp2_with fail
            refine (law12_awake _).mono ?_
            rintro e w7 ⟨rfl, hE7⟩
            go_wp2_with fail
            go_ret
            exact ⟨rfl, hD2.trans ((hD.drewN _).trans hE7)⟩
          · have h18' : (20 : Int) < (P.length : Int) + 2 := by omega
            go_wp2_with fail
            refine (SameT hS hS3 rfl).mono ?_
            rintro e w6 ⟨rfl, k6, rfl⟩
            go_wp2_with fail
            refine (law12_awake _).mono ?_
            rintro e w7 ⟨rfl, hE7⟩
            go_wp2_with fail
            go_ret
            exact ⟨rfl, hD2.trans ((hD.drewN _).trans hE7)⟩
end Go.Proofs.YtngffmchjjpfbaaDoor
