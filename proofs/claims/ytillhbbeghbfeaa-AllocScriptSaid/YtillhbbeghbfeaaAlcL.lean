/- Contracts of spaces: Firm, Left, Bits; nil spaces. -/
import Derived.Test.YtillhbbeghbfeaaAlcF
namespace Go.Proofs.Ytillhbbeghbfeaa
set_option linter.unusedVariables false
open Go.RowKit

section
variable {w : World} {B g : Nat} {p : Pl} {G N M : Nat} {tn dn tb db : List (List Nat)}
theorem SpaceAt.put12 {w' : World} {t' d' : List (List Nat)} (h : SpaceAt w B g p G N M tn dn tb db) (ht : Turned [p.g1, p.g2] w w') (hr1 : RowsIs w' B p.g1 p.c1 t') (hr2 : RowsIs w' B p.g2 p.c2 d')
    (hl1 : t'.length = G) (hl2 : d'.length = G) (hw1 : ∀ xs ∈ t', xs.length = (N + 7) / 8) (hw2 : ∀ xs ∈ d', xs.length = (N + 7) / 8) : SpaceAt w' B g p G N M t' d' tb db := by
  obtain ⟨a1, a2, a3, a4⟩ := h.nog
  have h8 : ∀ x ∈ [p.g1, p.g2], ¬ Tag w x 5 := fun x hx => by
    rcases List.mem_cons.1 hx with rfl | hx
    · exact SpaceAt.no8 h.r1 _ (by simp)
    · exact SpaceAt.no8 h.r2 _ hx
  have n1 := h.n13; have n2 := h.n14; have n3 := h.n23; have n4 := h.n24
  exact { h with own := ht.own h.own (fun a ha => by cases ha; simp; omega), r1 := hr1, r2 := hr2, r3 := h.r3.turn ht (by simp; omega) h8, r4 := h.r4.turn ht (by simp; omega) h8, l1 := hl1, l2 := hl2, w1 := hw1, w2 := hw2 }
theorem SpaceAt.put34 {w' : World} {t' d' : List (List Nat)} (h : SpaceAt w B g p G N M tn dn tb db) (ht : Turned [p.g3, p.g4] w w') (hr3 : RowsIs w' B p.g3 p.c3 t') (hr4 : RowsIs w' B p.g4 p.c4 d')
    (hl3 : t'.length = G) (hl4 : d'.length = G) (hw3 : ∀ xs ∈ t', xs.length = (M + 7) / 8) (hw4 : ∀ xs ∈ d', xs.length = (M + 7) / 8) : SpaceAt w' B g p G N M tn dn t' d' := by
  obtain ⟨a1, a2, a3, a4⟩ := h.nog
  have h8 : ∀ x ∈ [p.g3, p.g4], ¬ Tag w x 5 := fun x hx => by
    rcases List.mem_cons.1 hx with rfl | hx
    · exact SpaceAt.no8 h.r3 _ (by simp)
    · exact SpaceAt.no8 h.r4 _ hx
  have n1 := h.n13; have n2 := h.n14; have n3 := h.n23; have n4 := h.n24
  exact { h with own := ht.own h.own (fun a ha => by cases ha; simp; omega), r3 := hr3, r4 := hr4, r1 := h.r1.turn ht (by simp; omega) h8, r2 := h.r2.turn ht (by simp; omega) h8, l3 := hl3, l4 := hl4, w3 := hw3, w4 := hw4 }
theorem firmT_wf {n each : Nat} : ∀ {t d : List (List Nat)}, (∀ xs ∈ t, xs.length = n) → ∀ xs ∈ firmT each t d, xs.length = n := by
  intro t
  induction t with
  | nil => intro d _ xs hx; simp [firmT] at hx
  | cons x t ih =>
    intro d h xs hx
    cases d with
    | nil => simp [firmT] at hx
    | cons y d =>
      have hx' : xs ∈ firmR each x y :: firmT each t d := hx
      rcases List.mem_cons.1 hx' with rfl | hx2
      · unfold firmR; rw [clrB_len]; exact h x (by simp)
      · exact ih (fun a ha => h a (List.mem_cons_of_mem _ ha)) xs hx2
set_option maxHeartbeats 1000000 in
theorem space_Firm (h : SpaceAt w B g p G N M tn dn tb db) :
    Calls Try.prog 29 #[.pointer (some ⟨g, 0, none⟩)] w fun e w' => e = .returned (.int .i64 ((firmN N dn + firmN M db : Nat) : Int)) ∧
      SpaceAt w' B g p G N M (firmT N tn dn) (List.replicate G (zr N)) (firmT M tb db) (List.replicate G (zr M)) ∧ Turned [p.g1, p.g2, p.g3, p.g4] w w' := by
  have hm := mayG_nat h.may
  have e1 : firmN N dn ≤ 8 * 32 := Nat.le_trans (firmN_le _ _) (Nat.mul_le_mul (by rw [h.l2]; omega) (by omega))
  have e2 : firmN M db ≤ 8 * 96 := Nat.le_trans (firmN_le _ _) (Nat.mul_le_mul (by rw [h.l4]; omega) (by omega))
  have hsz := h.sz
  have H0 := hide (h.ext ((Ext.refl w).drew))
  have HF1 := hide (set_firm H0.out.nodes hsz)
  have hN2 : ∀ w2, (RowsIs w2 B p.g1 p.c1 (firmT N tn dn) ∧ RowsIs w2 B p.g2 p.c2 (List.replicate dn.length (zr N)) ∧ Turned [p.g1, p.g2] w.drew w2) → SpaceAt w2 B g p G N M (firmT N tn dn) (List.replicate G (zr N)) tb db := by
    rintro w2 ⟨a1, a2, a3⟩
    rw [h.l2] at a2
    exact H0.out.put12 a3 a1 a2 (by rw [firmT_len, h.l1, h.l2]; omega) (by simp) (firmT_wf h.w1) (fun xs hx => by rw [List.eq_of_mem_replicate hx, zr_len])
  have hN4 : ∀ w2 w3, SpaceAt w2 B g p G N M (firmT N tn dn) (List.replicate G (zr N)) tb db → (RowsIs w3 B p.g3 p.c3 (firmT M tb db) ∧ RowsIs w3 B p.g4 p.c4 (List.replicate db.length (zr M)) ∧ Turned [p.g3, p.g4] w2 w3) →
      SpaceAt w3 B g p G N M (firmT N tn dn) (List.replicate G (zr N)) (firmT M tb db) (List.replicate G (zr M)) := by
    rintro w2 w3 h2 ⟨a1, a2, a3⟩
    rw [h.l4] at a2
    exact h2.put34 a3 a1 a2 (by rw [firmT_len, h.l3, h.l4]; omega) (by simp) (firmT_wf h.w3) (fun xs hx => by rw [List.eq_of_mem_replicate hx, zr_len])
  have HN2 := hide hN2
  have HN4 := hide hN4
  clear hN2 hN4 h
  go_enter Try.func29, Try.ntmps29
  go_wp2_with fail
  go_region_held3 (fun w' => True) (trivial)
    (first
      | (go_at_call 56; with_reducible refine HF1.out.mono ?_; rintro e w2 ⟨rfl, a1, a2, a3⟩; have hS2 := HN2.out _ ⟨a1, a2, a3⟩)
      | (go_at_call 56; refine (set_firm hS2.blocks hS2.sz).mono ?_; rintro e w3 ⟨rfl, b1, b2, b3⟩; have hS3 := HN4.out _ _ hS2 ⟨b1, b2, b3⟩))
  go_wp2
  go_ret
  refine ⟨retI (by rw [wrapI _ (by omega)]; omega), hS3, ?_⟩
  exact (((Ext.refl w).drew.turned _).trans (a3.mono (by simp))).trans (b3.mono (by simp))
/-- How many are free, of the first groups. -/
def sumF (each : Nat) (t : List (List Nat)) (n : Nat) : Nat := ((t.take n).map (freeN each)).sum
theorem sumF_succ {each : Nat} {t : List (List Nat)} {n : Nat} {xs : List Nat} (h : t[n]? = some xs) : sumF each t (n + 1) = sumF each t n + freeN each xs := by
  unfold sumF
  rw [List.take_add_one, h]
  simp
theorem sumF_le (each : Nat) : ∀ (t : List (List Nat)) (n : Nat), sumF each t n ≤ n * each
  | [], n => by simp [sumF]
  | x :: t, 0 => by simp [sumF]
  | x :: t, n + 1 => by
    have h1 := sumF_le each t n
    have h2 := freeN_le each x
    unfold sumF at *
    rw [List.take_succ_cons, List.map_cons, List.sum_cons, Nat.add_mul]
    omega
set_option maxHeartbeats 1000000 in
theorem space_Left (h : SpaceAt w B g p G N M tn dn tb db) :
    Calls Try.prog 15 #[.pointer (some ⟨g, 0, none⟩)] w fun e w' => e = .returned (.tuple #[.int .i64 (sumF N tn G : Nat), .int .i64 (sumF M tb G : Nat)]) ∧ Ext w w' := by
  have hm := mayG_nat h.may
  have c0 : w.cell? ⟨g, 0, none⟩ = some (.int .i64 (G : Int)) := by rw [h.own.cellAt 0 (by omega)]; rfl
  have H := hide h
  clear h
  go_enter Try.func15, Try.ntmps15
  go_wp2_with fail
  go_loopw [4, 5, 14] (fun a b i wr => ∃ k : Nat, k ≤ G ∧ a = .int .i64 (sumF N tn k : Nat) ∧ b = .int .i64 (sumF M tb k : Nat) ∧ i = .int .i64 k ∧ Ext w wr) (fun _ _ i _ => G - (intOf i).toNat)
  case atStart => exact ⟨0, by omega, rfl, rfl, rfl, Ext.refl _⟩
  case round =>
    obtain ⟨k, hk, rfl, rfl, rfl, hE⟩ := hrel
    by_cases hlt : k < G
    · have hb1 := Nat.le_trans (sumF_le N tn k) (Nat.mul_le_mul (show k ≤ 8 by omega) (show N ≤ 32 by omega))
      have hb2 := Nat.le_trans (sumF_le M tb k) (Nat.mul_le_mul (show k ≤ 8 by omega) (show M ≤ 96 by omega))
      obtain ⟨xs, hxs⟩ : ∃ xs, tn[k]? = some xs := ⟨_, List.getElem?_eq_getElem (by rw [H.out.l1]; exact hlt)⟩
      obtain ⟨ys, hys⟩ : ∃ ys, tb[k]? = some ys := ⟨_, List.getElem?_eq_getElem (by rw [H.out.l3]; exact hlt)⟩
      have q1 := freeN_le N xs
      have q2 := freeN_le M ys
      have s1 := sumF_succ (each := N) hxs
      have s2 := sumF_succ (each := M) hys
      have W1 := wrapI ((sumF N tn k : Nat) + (freeN N xs : Nat) : Int) (by omega)
      have W2 := wrapI ((sumF M tb k : Nat) + (freeN M ys : Nat) : Int) (by omega)
      have S1 := hide s1
      have S2 := hide s2
      have HF1 := hide (fun w' (hE' : Ext w w') => set_free (H.out.ext hE').nodes hxs)
      have HF2 := hide (fun w' (hE' : Ext w w') => set_free (H.out.ext hE').blocks hys)
      clear hxs hys s1 s2
      go_wp2_with fail
      go_region_held3 (fun w' => True) (trivial)
        (first
          | (go_at_call 37; with_reducible refine (HF1.out _ hE.drew).mono ?_; rintro e w2 ⟨rfl, hE2⟩)
          | (go_at_call 37; with_reducible refine (HF2.out _ (hE.drew.trans hE2)).mono ?_; rintro e w3 ⟨rfl, hE3⟩))
      go_wp2
      go_roundw
      case rel => exact ⟨k + 1, by omega, by rw [S1.out]; go_num, by rw [S2.out]; go_num, by go_num, (hE.drew.trans hE2).trans hE3⟩
      case measure => simp [intOf]; omega
    · obtain rfl : k = G := by omega
      go_wp2_with fail
      go_ret2
      exact ⟨rfl, hE⟩
theorem space_Bits_no (h : SpaceAt w B g p G N M tn dn tb db) (k : Int) (hk : k < 0 ∨ (G : Int) ≤ k) :
    Calls Try.prog 18 #[.pointer (some ⟨g, 0, none⟩), .int .i64 k] w fun e w' => e = .returned (.tuple #[.slice none 0 0, .slice none 0 0]) ∧ Ext w w' := by
  have c0 : w.cell? ⟨g, 0, none⟩ = some (.int .i64 (G : Int)) := by rw [h.own.cellAt 0 (by omega)]; rfl
  clear h
  by_cases h0 : k < 0
  · clear hk
    go_enter Try.func18, Try.ntmps18
    go_wp2_with fail
    go_ret2
    exact ⟨rfl, Ext.refl _⟩
  · have h1 : (G : Int) ≤ k := by omega
    clear hk
    go_enter Try.func18, Try.ntmps18
    go_wp2_with fail
    go_ret2
    exact ⟨rfl, Ext.refl _⟩
set_option maxHeartbeats 1000000 in
theorem space_Bits (h : SpaceAt w B g p G N M tn dn tb db) {k : Nat} {xs ys : List Nat} (hk : tn[k]? = some xs) (hk2 : tb[k]? = some ys) :
    Calls Try.prog 18 #[.pointer (some ⟨g, 0, none⟩), .int .i64 (k : Int)] w fun e w' => ∃ A1 c1 A2 c2, e = .returned (.tuple #[.slice A1 ((N + 7) / 8) c1, .slice A2 ((M + 7) / 8) c2]) ∧
      Own w' w.heap.size 5 A1 ((N + 7) / 8) c1 (by8 xs) ∧ Own w' w.heap.size 5 A2 ((M + 7) / 8) c2 (by8 ys) ∧ Apart A1 A2 ∧ Ext w w' := by
  have hm := mayG_nat h.may
  have hkl := (List.getElem?_eq_some_iff.1 hk).1
  have hkl2 := (List.getElem?_eq_some_iff.1 hk2).1
  have hlt : k < G := by have := h.l1; omega
  have c0 : w.cell? ⟨g, 0, none⟩ = some (.int .i64 (G : Int)) := by rw [h.own.cellAt 0 (by omega)]; rfl
  have ct := h.nodes.ct
  have ct2 := h.blocks.ct
  obtain ⟨A, n, cA, hc, hf, hO, hb⟩ := h.r1.row hk
  obtain ⟨A', n', cA', hc', hf', hO', hb'⟩ := h.r3.row hk2
  have hn := hO.len
  rw [by8_len, h.w1 xs (List.mem_of_getElem? hk)] at hn
  have hn' := hO'.len
  rw [by8_len, h.w3 ys (List.mem_of_getElem? hk2)] at hn'
  subst hn hn'
  have HC := hide (fun w' (hE : Ext w w') => Clone8 A _ cA _ w' (hO.sl.ext hE) (by omega))
  have HC2 := hide (fun w' (hE : Ext w w') => Clone8 A' _ cA' _ w' (hO'.sl.ext hE) (by omega))
  have i1 : (0 : Int) ≤ (k : Int) := by omega
  have i2 : (k : Int) < (tn.length : Int) := by omega
  have i3 : (k : Int) < (tb.length : Int) := by omega
  clear hO hO' hb hb' hk hk2 h hf hf'
  go_enter Try.func18, Try.ntmps18
  go_wp2_with fail
  go_region_held3 (fun w' => w'.cell? ⟨g, 4, none⟩ = some (.slice (some ⟨p.g1, 0, none⟩) tn.length p.c1) ∧ w'.cell? ⟨g, 7, none⟩ = some (.slice (some ⟨p.g3, 0, none⟩) tb.length p.c3) ∧ w'.cell? ⟨p.g1, k, none⟩ = some (.slice A ((N + 7) / 8) cA) ∧ w'.cell? ⟨p.g3, k, none⟩ = some (.slice A' ((M + 7) / 8) cA'))
    (first | go_keep | (exact ⟨(hE2.trans hE3).cell ct, (hE2.trans hE3).cell ct2, (hE2.trans hE3).cell hc, (hE2.trans hE3).cell hc'⟩) | (exact ⟨hE2.cell ct, hE2.cell ct2, hE2.cell hc, hE2.cell hc'⟩))
    (first
      | (go_at_call 50; with_reducible refine (HC.out _ ((Ext.refl w).drew)).mono ?_; rintro e w2 ⟨A2, c2, rfl, hO2, hE2⟩)
      | (go_at_call 50; with_reducible refine (HC2.out _ (((Ext.refl w).drew).trans hE2)).mono ?_; rintro e w3 ⟨A3, c3, rfl, hO3, hE3⟩))
  go_wp2
  go_ret2
  have hsz := (((Ext.refl w).drew).trans hE2).size
  exact ⟨A2, c2, A3, c3, rfl, (hO2.ext hE3).low (Nat.le_refl _), hO3.low hsz, (fun x y hx hy he => by subst hx hy; have := hO2.lt; have := hO3.base; omega), (((Ext.refl w).drew).trans hE2).trans hE3⟩
end
theorem nil_Block (near : Int) (w : World) : Calls Try.prog 25 #[.pointer none, .int .i64 near] w fun e w' => e = .returned (.tuple #[.int .i64 0, .int .i64 1]) ∧ w = w' := by
  go_enter Try.func25, Try.ntmps25
  go_wp2_with fail
  go_ret2
  exact ⟨rfl, rfl⟩
theorem nil_Left (w : World) : Calls Try.prog 15 #[.pointer none] w fun e w' => e = .returned (.tuple #[.int .i64 0, .int .i64 0]) ∧ w = w' := by
  go_enter Try.func15, Try.ntmps15
  go_wp2_with fail
  go_ret2
  exact ⟨rfl, rfl⟩
theorem nil_Mark (a b : Int) (w : World) : Calls Try.prog 9 #[.pointer none, .int .i64 a, .int .i64 b] w fun e w' => e = .returned (.int .i64 1) ∧ w = w' := by
  go_enter Try.func9, Try.ntmps9
  go_wp2_with fail
  go_ret
  exact ⟨rfl, rfl⟩
theorem nil_Firm (w : World) : Calls Try.prog 29 #[.pointer none] w fun e w' => e = .returned (.int .i64 0) ∧ w = w' := by
  go_enter Try.func29, Try.ntmps29
  go_wp2_with fail
  go_ret
  exact ⟨rfl, rfl⟩
end Go.Proofs.Ytillhbbeghbfeaa
