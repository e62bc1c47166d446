/- Paths: the statements' words: what every program answers; what any text is taken apart to. -/
import Derived.Test.YtngffmchjjpfbaaDoorPthW
namespace Go.Proofs.YtngffmchjjpfbaaDoor
set_option linter.unusedVariables false
open Go.RowKit

theorem splPs_len (l : L8) : (splPs l).length ≤ 20 := by
  unfold splPs
  split
  · rename_i h
    cases ho : okPs l
    · unfold splE at h
      rw [ho] at h
      split at h <;> simp at h
    · unfold okPs at ho; simp at ho; exact ho.2
  · simp
theorem tgtPs_len (l : L8) : (tgtPs l).length ≤ 20 := by
  unfold tgtPs
  split
  · rename_i h
    cases ho : okPs l
    · unfold tgtE at h
      rw [ho] at h
      split at h <;> simp at h
    · unfold okPs at ho; simp at ho; exact ho.2
  · simp
theorem SameT {A A2 : Option Addr} {n c m c2 : Nat} {xs ys : List ByteArray} {w : World} (h : Sl w A n c (vT xs)) (h2 : Sl w A2 m c2 (vT ys)) (he : xs = ys) :
    Calls Tryd.prog 17 #[.slice A n c, .slice A2 m c2] w fun e w' => e = .returned (.bool true) ∧ ∃ k, w' = w.drewN k := by
  have := SameTexts A A2 n c m c2 xs ys w h h2
  rw [decide_eq_true he] at this
  exact this
theorem lit_eq {l k : L8} (h : (l == k) = true) : ∀ c, toB l = c → (c.toList == k) = true := by
  intro c hc
  rw [← hc, toB_list]
  exact h
set_option maxHeartbeats 2000000 in
theorem law12_awake (w : World) : Calls Tryd.prog 8 #[] w fun e w' => e = .returned (.bool true) ∧ Ext w w' := by
  have x1 := fun w => path_Split ⟨#[47, 47, 97, 47, 46, 47, 98, 47]⟩ w (by decide)
  rw [show splE (ByteArray.mk #[47, 47, 97, 47, 46, 47, 98, 47]).data.toList = 0 by decide +kernel, show splPs (ByteArray.mk #[47, 47, 97, 47, 46, 47, 98, 47]).data.toList = [[97], [98]] by decide +kernel] at x1
  have x2 := fun w => path_Clean ⟨#[47, 97, 47, 46, 46, 47, 98, 47, 46, 47, 99]⟩ w (by decide)
  rw [show splE (ByteArray.mk #[47, 97, 47, 46, 46, 47, 98, 47, 46, 47, 99]).data.toList = 0 by decide +kernel, show clnS (ByteArray.mk #[47, 97, 47, 46, 46, 47, 98, 47, 46, 47, 99]).data.toList = [47, 98, 47, 99] by decide +kernel] at x2
  have x3 := fun w => path_Last ⟨#[47, 97, 47, 98]⟩ w (by decide)
  rw [show lasE (ByteArray.mk #[47, 97, 47, 98]).data.toList = 0 by decide +kernel, show lasU (ByteArray.mk #[47, 97, 47, 98]).data.toList = [47, 97] by decide +kernel, show lasN (ByteArray.mk #[47, 97, 47, 98]).data.toList = [98] by decide +kernel] at x3
  have x4 := fun w => path_Last ⟨#[47]⟩ w (by decide)
  rw [show lasE (ByteArray.mk #[47]).data.toList = 2 by decide +kernel] at x4
  have x5 := fun w => path_Target ⟨#[46, 46, 47, 120]⟩ w (by decide)
  rw [show tgtE (ByteArray.mk #[46, 46, 47, 120]).data.toList = 0 by decide +kernel, show tgtR (ByteArray.mk #[46, 46, 47, 120]).data.toList = false by decide +kernel, show tgtPs (ByteArray.mk #[46, 46, 47, 120]).data.toList = [[46, 46], [120]] by decide +kernel] at x5
  have x6 := fun A n c w (h : Sl w A n c [Value.string ⟨#[97]⟩]) => path_Join [[97]] A n c w h (by decide)
  rw [show joinL [[97]] = [47, 97] by decide +kernel] at x6
  have e1 := lit_eq (l := [47, 98, 47, 99]) (k := [47, 98, 47, 99]) rfl
  have e2 := lit_eq (l := [47, 97]) (k := [47, 97]) rfl
  have e3 := lit_eq (l := [98]) (k := [98]) rfl
  generalize toB [47, 98, 47, 99] = c1 at *
  generalize toB [47, 97] = c2 at *
  generalize toB [98] = c3 at *
  generalize toB (lasU (ByteArray.mk #[47]).data.toList) = c4 at *
  generalize toB (lasN (ByteArray.mk #[47]).data.toList) = c5 at *
  replace e1 := e1 _ rfl
  replace e2 := e2 _ rfl
  replace e3 := e3 _ rfl
  have H1 := hide x1
  have H2 := hide x2
  have H3 := hide x3
  have H4 := hide x4
  have H5 := hide x5
  have H6 := hide x6
  clear x1 x2 x3 x4 x5 x6
  go_enter Tryd.func8, Tryd.ntmps8
  go_wp2_with fail
  refine (H1.out _).mono ?_
  rintro e w1 ⟨A1, n1, k1, rfl, hn1, hO1, hE1⟩
  go_wp2_with fail
  refine (H2.out _).mono ?_
  rintro e w2 ⟨rfl, hE2⟩
  go_wp2_with fail
  refine (H3.out _).mono ?_
  rintro e w3 ⟨rfl, hE3⟩
  go_wp2_with fail
  refine (H4.out _).mono ?_
  rintro e w4 ⟨rfl, hE4⟩
  go_wp2_with fail
  refine (H5.out _).mono ?_
  rintro e w5 ⟨A2, n2, k2, rfl, hn2, hO2, hE5⟩
  obtain rfl : n2 = 2 := by have := hO2.len; rw [vT_len, mB_len] at this; exact this.symm
  have hE := hE1.trans (hE2.trans (hE3.trans (hE4.trans hE5)))
  have hS1 := hO1.sl.ext (hE2.trans (hE3.trans (hE4.trans hE5)))
  go_wp2_with fail
  refine (SameT (hS1.ext ((Ext.refl _).alloc _)) (Sl.lit w5 #[.string ⟨#[97]⟩, .string ⟨#[98]⟩] 9 2 rfl (by omega) (by simp [Value.oneCell'])) rfl).mono ?_
  rintro e w6 ⟨rfl, k6, rfl⟩
  go_wp2_with fail
  have hL6 := Sl.lit ((w5.alloc (Obj.cells #[.string ⟨#[97]⟩, .string ⟨#[98]⟩] 9)).drewN k6) #[.string ⟨#[97]⟩] 9 1 rfl (by omega) (by simp [Value.oneCell'])
  have hz : ((w5.alloc (Obj.cells #[.string ⟨#[97]⟩, .string ⟨#[98]⟩] 9)).drewN k6).heap.size = w5.heap.size + 1 := by simp
  rw [hz] at hL6
  refine (H6.out _ _ _ _ hL6).mono ?_
  rintro e w7 ⟨rfl, hE7⟩
  go_wp2_with fail
  go_ret
  exact ⟨rfl, (((hE.alloc _).drewN _).alloc _).trans hE7⟩
set_option maxHeartbeats 2000000 in
theorem law_PathTells (w : World) (s : ByteArray) (hs : s.size ≤ maxLen) : Calls Tryd.prog 3 #[.string s] w fun e w' => e = .returned (.bool true) ∧ Ext w w' := by
  by_cases h4 : (400 : Int) < (s.size : Int)
  · go_enter Tryd.func3, Tryd.ntmps3
    go_wp2_with fail
    refine (law12_awake _).mono ?_
    rintro e w1 ⟨rfl, hE1⟩
    go_wp2_with fail
    go_ret
    exact ⟨rfl, hE1⟩
  · have hsz : s.size ≤ 1000000 := by omega
    have x1 := fun w => path_Split s w hsz
    have x2 := fun w => ref12_Split s w hsz
    have x3 := fun w => path_Clean s w hsz
    have x4 := fun w => ref12_Clean s w hsz
    have x5 := fun w => path_Last s w hsz
    have x6 := fun w => ref12_Last s w hsz
    have x7 := fun w => path_Target s w hsz
    have x8 := fun w => ref12_Target s w hsz
    have p1 := splPs_len s.data.toList
    have p2 := tgtPs_len s.data.toList
    generalize splE s.data.toList = E at *
    generalize splPs s.data.toList = P at *
    generalize clnS s.data.toList = C at *
    generalize lasE s.data.toList = F at *
    generalize lasU s.data.toList = U at *
    generalize lasN s.data.toList = N at *
    generalize tgtE s.data.toList = G at *
    generalize tgtPs s.data.toList = T at *
    generalize tgtR s.data.toList = R at *
    generalize toB C = C at *
    generalize toB U = U at *
    generalize toB N = N at *
    have H1 := hide x1
    have H2 := hide x2
    have H3 := hide x3
    have H4 := hide x4
    have H5 := hide x5
    have H6 := hide x6
    have H7 := hide x7
    have H8 := hide x8
    have P1 := hide p1
    have P2 := hide p2
    clear x1 x2 x3 x4 x5 x6 x7 x8 p1 p2
    go_enter Tryd.func3, Tryd.ntmps3
    go_wp2_with fail
    refine (H1.out _).mono ?_
    rintro e w1 ⟨A1, n1, k1, rfl, hn1, hO1, hE1⟩
    go_wp2_with fail
    refine (H2.out _).mono ?_
    rintro e w2 ⟨A2, n2, k2, rfl, hn2, hO2, hE2⟩
    go_wp2_with fail
    refine (H3.out _).mono ?_
    rintro e w3 ⟨rfl, hE3⟩
    go_wp2_with fail
    refine (H4.out _).mono ?_
    rintro e w4 ⟨rfl, hE4⟩
    go_wp2_with fail
    refine (H5.out _).mono ?_
    rintro e w5 ⟨rfl, hE5⟩
    go_wp2_with fail
    refine (H6.out _).mono ?_
    rintro e w6 ⟨rfl, hE6⟩
    go_wp2_with fail
    refine (H7.out _).mono ?_
    rintro e w7 ⟨A7, n7, k7, rfl, hn7, hO7, hE7⟩
    go_wp2_with fail
    refine (H8.out _).mono ?_
    rintro e w8 ⟨A8, n8, k8, rfl, hn8, hO8, hE8⟩
    have h26 := hE2.trans (hE3.trans (hE4.trans (hE5.trans hE6)))
    have h38 := hE3.trans (hE4.trans (hE5.trans (hE6.trans (hE7.trans hE8))))
    have hl1 : n1 ≤ 1000000 := by have := hO1.len; have := P1.out; rw [vT_len, mB_len] at *; omega
    have hl7 : n7 ≤ 1000000 := by have := hO7.len; have := P2.out; rw [vT_len, mB_len] at *; omega
    have hD8 := hE1.trans (hE2.trans h38)
    have hX1 := hO1.ext (hE2.trans h38)
    have hX2 := hO2.ext h38
    have hX7 := hO7.ext hE8
    go_wp2_with fail
    refine (SameT hX1.sl hX2.sl rfl).mono ?_
    rintro e w9 ⟨rfl, k9, rfl⟩
    go_wp2_with fail
    refine (SameT (hX7.sl.ext ((Ext.refl _).drewN _)) (hO8.sl.ext ((Ext.refl _).drewN _)) rfl).mono ?_
    rintro e w10 ⟨rfl, k10, rfl⟩
    go_wp2_with fail
    have hD10 : Ext w8 (w8.drewN (k9 + k10)) := (Ext.refl _).drewN _
    refine (OverTexts _ _ _ _ _ _ (hX1.ext hD10) (by have := (hD8.trans hD10).size; omega) hl1).mono ?_
    rintro e w11 ⟨rfl, hG11⟩
    have hD11 := (hD8.trans hD10).grown hG11 (fun q hq => ((hX1.ext hD10).block q hq).1)
    have hY7 := (hX7.ext hD10).kept hG11 (by
      rintro ⟨b, o, f⟩ rfl h
      have h1 : b < w1.heap.size := (hO1.block _ h.symm).2
      have h7 : w6.heap.size ≤ b := (hO7.block _ rfl).1
      have := h26.size
      omega)
    go_wp2_with fail
    refine (OverTexts _ _ _ _ _ _ hY7 (by have := hG11.size; have := (hE7.trans (hE8.trans hD10)).size; omega) hl7).mono ?_
    rintro e w12 ⟨rfl, hG12⟩
    have hD12 := hD11.grown hG12 (fun q hq => by
      have h7 := (hY7.block q hq).1
      have := (hE1.trans h26).size
      omega)
    go_wp2_with fail
    refine (law12_awake _).mono ?_
    rintro e w13 ⟨rfl, hE13⟩
    go_wp2_with fail
    go_ret
    exact ⟨rfl, hD12.trans hE13⟩
end Go.Proofs.YtngffmchjjpfbaaDoor
