/- Slots of directories: their bytes, and their block. -/
import Derived.Test.YtngffmchjjpfbaaSloF
namespace Go.Proofs.Ytngffmchjjpfbaa
set_option linter.unusedVariables false
open Go.RowKit

/-- A slot's bytes. -/
def slB (s : Slot) : List Nat := wd2 s.1 ++ ([s.2.1.toNat % 256] ++ nmB s.2.2)
def goodS (ss : List Slot) (k : Nat) : Bool := mayS (nS ss k) && ((nS ss k).1 == 0 || findL ss (nS ss k).2.2 == (k : Int))
def allS (ss : List Slot) (k : Nat) : Prop := ∀ j, j < k → goodS ss j = true
instance (ss : List Slot) (k : Nat) : Decidable (allS ss k) := by unfold allS; infer_instance
def layBS (ss : List Slot) (k : Nat) : List Nat := (List.range k).flatMap fun j => slB (nS ss j)
theorem layBS_succ (ss : List Slot) (k : Nat) : layBS ss (k + 1) = layBS ss k ++ slB (nS ss k) := by simp [layBS, List.range_succ]
def layDL (ss : List Slot) : List Nat := if allS ss 4 then sealOf 68 (layBS ss 4) else []
def layDE (ss : List Slot) : Nat := if allS ss 4 then 0 else 2
theorem mayS_small {s : Slot} (h : mayS s = true) : (0 ≤ s.1 ∧ s.1 ≤ 65535) ∧ (0 ≤ s.2.1 ∧ s.2.1 ≤ 3) ∧ s.2.2.size ≤ 24 := by
  unfold mayS at h
  simp only [Bool.or_eq_true, decide_eq_true_eq] at h
  rcases h with rfl | h
  · refine ⟨⟨by decide, by decide⟩, ⟨by decide, by decide⟩, ?_⟩
    show (0 : Nat) ≤ 24
    omega
  · simp only [inW, Bool.and_eq_true, decide_eq_true_eq] at h
    exact ⟨⟨by omega, by omega⟩, ⟨by omega, by omega⟩, okN_size h.2.2.2⟩
theorem slB_len {s : Slot} (h : mayS s = true) : (slB s).length = 28 := by
  obtain ⟨_, _, h3⟩ := mayS_small h
  simp [slB, wd2, nmB_len h3]
theorem Bytes.slB {s : Slot} (h : mayS s = true) : Bytes (slB s) := by
  obtain ⟨_, _, h3⟩ := mayS_small h
  exact (Bytes.wd2 _).append ((Bytes.cons (by omega) Bytes.nil).append (Bytes.nmB h3))
theorem goodS_may {ss : List Slot} {k : Nat} (h : goodS ss k = true) : mayS (nS ss k) = true := by
  unfold goodS at h
  simp only [Bool.and_eq_true] at h
  exact h.1
theorem layBS_len {ss : List Slot} : ∀ {k : Nat}, allS ss k → (layBS ss k).length = 28 * k := by
  intro k
  induction k with
  | zero => intro _; rfl
  | succ k ih =>
    intro h
    rw [layBS_succ, List.length_append, ih (fun j hj => h j (by omega)), slB_len (goodS_may (h k (by omega)))]; omega
theorem Bytes.layBS {ss : List Slot} {k : Nat} (h : allS ss k) : Bytes (layBS ss k) := by
  intro x hx
  obtain ⟨j, hj, hx⟩ := List.mem_flatMap.1 hx
  exact Bytes.slB (goodS_may (h j (by simpa using hj))) x hx
theorem allS_succ {ss : List Slot} {k : Nat} (h : allS ss k) (h2 : goodS ss k = true) : allS ss (k + 1) := fun j hj => by
  by_cases hk : j = k
  · subst hk; exact h2
  · exact h j (by omega)
theorem slB_head {i d : Int} {n : Nat} (h0 : 0 ≤ i) (h1 : i ≤ 65535) (h2 : 0 ≤ d) (h3 : d ≤ 3) : by8 (wd2 i ++ [d.toNat % 256, n]) = [.int .u8 (i / 256), .int .u8 (i % 256), .int .u8 d, .int .u8 (n : Nat)] := by
  rw [by8_append, by8_wdI h0 h1]
  simp only [by8, List.map_cons, List.map_nil]
  rw [show ((d.toNat % 256 : Nat) : Int) = d from by omega]
  rfl
theorem slB_eq (i d : Int) (a : ByteArray) : slB (i, d, a) = wd2 i ++ [d.toNat % 256, a.size] ++ (strL a ++ List.replicate (24 - a.size) 0) := by simp [slB, nmB]

set_option maxHeartbeats 1000000 in
theorem dir_laid (s : Slot) (hm : mayS s = true) (w : World) : Calls Try.prog 44 #[.agg (sV s).toArray] w fun e w' => ∃ A' c', e = .returned (.slice A' 28 c') ∧ Own w' w.heap.size 5 A' 28 c' (by8 (slB s)) ∧ Ext w w' := by
  obtain ⟨⟨b0, b1⟩, ⟨b2, b3⟩, b4⟩ := mayS_small hm
  obtain ⟨i, d, a⟩ := s
  dsimp only at b0 b1 b2 b3 b4
  have HE := hide (slB_eq i d a)
  have HB := hide (slB_head (n := a.size) b0 b1 b2 b3)
  obtain ⟨e0, e1⟩ := hi_lo b0 b1
  have e2 : IntKind.u8.wrap d = d := by rw [u8_of]; omega
  have e3 : IntKind.u8.wrap (a.size : Int) = (a.size : Int) := by rw [u8_of]; omega
  clear hm
  go_enter Try.func44, Try.ntmps44
  go_wp2_with (first
    | (with_reducible refine ag_box rfl 39 (.tmp 0) rfl _ 3 rfl rfl (by omega) (sV_one (i, d, a)) w.heap.size (Nat.le_refl _) ?_; intro w1 hB1 hE1 hz1
       have c0 : w1.cell? ⟨w.heap.size, 0, none⟩ = some (.int .i64 i) := hB1.cellAt 0 (by omega)
       have c1 : w1.cell? ⟨w.heap.size, 1, none⟩ = some (.int .i64 d) := hB1.cellAt 1 (by omega)
       have c2 : w1.cell? ⟨w.heap.size, 2, none⟩ = some (.string a) := hB1.cellAt 2 (by omega)
       have d2 : ∀ o, (w1.alloc o).cell? ⟨w.heap.size, 2, none⟩ = some (.string a) := fun o => Ext.cell ((Ext.refl w1).alloc o) c2
       have hO0 : Own (w1.alloc (.cells #[.int .u8 (i / 256), .int .u8 (i % 256), .int .u8 d, .int .u8 (a.size : Nat)] 5)) w.heap.size 5 (some ⟨w1.heap.size, 0, none⟩) 4 4 [.int .u8 (i / 256), .int .u8 (i % 256), .int .u8 d, .int .u8 (a.size : Nat)] :=
         Own.made (by omega) #[.int .u8 (i / 256), .int .u8 (i % 256), .int .u8 d, .int .u8 (a.size : Nat)] 4 (by simp [maxLen]) (Nat.le_refl _) rfl (by simp [Value.oneCell'])
       have hE0 : Ext w (w1.alloc (.cells #[.int .u8 (i / 256), .int .u8 (i % 256), .int .u8 d, .int .u8 (a.size : Nat)] 5)) := hE1.alloc _
       have hs0 := hE0.size)
    | (at_builtin; refine app8s rfl (.tmp 18) (.tmp 20) rfl w.heap.size _ 4 4 _ rfl hO0 a rfl (by omega) (by omega) ?_; intro A1 c1 w2 hO1 hG1; have hE2 := hE0.grown hG1 (fun q hq => (hO0.block q hq).1))
    | (at_builtin; refine app8z rfl (.tmp 22) (.tmp 25) rfl w.heap.size _ (4 + a.size) c1 _ rfl hO1 _ (24 - a.size) rfl (by omega) (by omega) hE2.size ?_; intro A2 c2 w3 hO2 hG2; have hE3 := hE2.grown hG2 (fun q hq => (hO1.block q hq).1)))
  rw [← HB.out, strCells_by8, show (Value.int .u8 0) = Value.int .u8 ((0 : Nat) : Int) from rfl, by8_rep, ← by8_append, ← by8_append, List.append_assoc, ← HE.out, show 4 + a.size + (24 - a.size) = 28 from by omega] at hO2
  go_ret
  exact ⟨_, _, by rw [show 4 + a.size + (24 - a.size) = 28 from by omega]; rfl, hO2, hE3⟩
set_option maxRecDepth 100000 in
set_option maxHeartbeats 1000000 in
theorem dir_Lay (ss : List Slot) (hl : ss.length = 4) (w : World) : Calls Try.prog 23 #[.agg (LV ss).toArray] w fun e w' => ∃ A' n' c', e = .returned (.tuple #[.slice A' n' c', .int .i64 (layDE ss : Nat)]) ∧ n' ≤ 128 ∧ Own w' w.heap.size 5 A' n' c' (by8 (layDL ss)) ∧ Ext w w' := by
  have HL := hide hl
  have HLL := hide (LV_len4 hl)
  have HIX := hide (idx_slots ss hl)
  clear hl
  go_enter Try.func23, Try.ntmps23
  go_wp2_with (first
    | (with_reducible refine ag_box rfl 40 (.tmp 0) rfl _ 12 rfl HLL.out (by omega) (LV_one ss) w.heap.size (Nat.le_refl _) ?_; intro w1 hB hE1 hz1)
    | (with_reducible refine ag_load rfl 40 (.tmp 1) rfl w.heap.size 12 w.heap.size 40 _ rfl hB agg_slots info_slots ?_))
  go_loopw [4, 8] (fun s j wr => ∃ (k c4 : Nat) (A4 : Option Addr), k ≤ 4 ∧ j = .int .i64 k ∧ s = .slice A4 (28 * k) c4 ∧ Own wr w1.heap.size 5 A4 (28 * k) c4 (by8 (layBS ss k)) ∧ Hid (allS ss k) ∧ Ext w1 wr) (fun _ j _ => 4 - (intOf j).toNat)
  case atStart => exact ⟨0, 0, none, by omega, rfl, rfl, Own.nilS _ _ _, (fun j hj => by omega), Ext.refl _⟩
  case round =>
    obtain ⟨k, c4, A4, hk, rfl, rfl, hO, ha, hE⟩ := hrel
    have hsz := hE.size
    by_cases hlt : k < 4
    · have hix := HIX.out k hlt
      have hgd : goodS ss k = (mayS (nS ss k) && ((nS ss k).1 == 0 || findL ss (nS ss k).2.2 == (k : Int))) := rfl
      have hmay := fun w => dir_May (nS ss k) w
      have hlaid := fun w (h : mayS (nS ss k) = true) => dir_laid (nS ss k) h w
      have hsm := fun (h : mayS (nS ss k) = true) => mayS_small h
      have hs := layBS_succ ss k
      generalize hq : nS ss k = s at hix hgd hmay hlaid hs hsm
      clear hq
      obtain ⟨i, d, a⟩ := s
      have hfind := fun w => dir_Find ss HL.out a w
      dsimp only at hgd hsm
      have HS := hide hs
      have HG := hide hgd
      have HLA := hide hlaid
      have HF := hide hfind
      have go3 : ∀ (w' : World), Own w' wr.heap.size 39 (some ⟨wr.heap.size, 0, none⟩) 3 3 (sV (i, d, a)) → w'.cell? ⟨wr.heap.size, 0, none⟩ = some (.int .i64 i) ∧ w'.cell? ⟨wr.heap.size, 2, none⟩ = some (.string a) :=
        fun w' hO => ⟨hO.cellAt 0 (by omega), hO.cellAt 2 (by omega)⟩
      have GO3 := hide go3
      clear go3 hs hgd hlaid hfind
      go_wp2_with (first
        | (with_reducible refine ag_alloc (o := ⟨some 6, _, _, _, _, _⟩) rfl 39 rfl _ 3 zero_slot rfl (by omega) (sV_one _) wr.heap.size (Nat.le_refl _) ?_; intro w3 hI3 hE3 hz3)
        | (with_reducible refine ag_store (o := ⟨none, _, _, _, _, _⟩) rfl 39 (.tmp 6) (.tmp 11) rfl wr.heap.size 3 wr.heap.size 39 _ (sV (i, d, a)) rfl rfl hI3 rfl (sV_one _) info_slot ?_; intro w4 hI4 hG4; have hE4 : Ext wr w4 := hE3.grown hG4 (by simp))
        | (with_reducible refine ag_load rfl 39 (.tmp 6) rfl wr.heap.size 3 wr.heap.size 39 _ rfl hI4 agg_slot info_slot ?_))
      refine (hmay _).mono ?_
      rintro e w5 ⟨rfl, hE5⟩
      have hI5 := hI4.ext hE5
      have hx0 := (GO3.out _ hI5).1
      have hx2 := (GO3.out _ hI5).2
      have hO5 := hO.ext (hE4.trans hE5)
      have hF5 := hE.trans (hE4.trans hE5)
      have hB5 := hB.ext hF5
      clear hmay hI3 hG4 hE3 hz3 hI4
      cases hm : mayS (i, d, a)
      · have hgf : goodS ss k = false := by rw [HG.out, hm]; rfl
        have hno : ¬ allS ss 4 := fun h => by have := h k hlt; rw [hgf] at this; cases this
        have H12 := hide (And.intro (show layDL ss = [] from if_neg hno) (show layDE ss = 2 from if_neg hno))
        clear hm hgf hno hsm
        go_wp2
        go_ret2
        rw [H12.out.1, H12.out.2]
        exact ⟨none, 0, 0, rfl, by omega, Own.nilS _ _ _, hE1.trans hF5⟩
      · obtain ⟨⟨b0, b1⟩, _, _⟩ := hsm hm
        have hla := fun w => HLA.out w hm
        have HLB := hide hla
        have fin : ∀ (w9 : World) (Q : Prop), Ext w5 w9 → Ext w5 w9 := fun _ _ h => h
        by_cases hi : 0 < i
        · by_cases hf : findL ss a = (k : Int)
          · have hgt : goodS ss k = true := by rw [HG.out, hm, hf]; simp
            have HA := hide (allS_succ ha.out hgt)
            have HF2 := hide (fun w => by have := HF.out w; rw [hf] at this; exact this)
            have hif : (i == 0) = false := by simp; omega
            clear hm hgt hf hla hsm
            go_wp2_with (with_reducible refine ag_load rfl 40 (.tmp 1) rfl w.heap.size 12 w.heap.size 40 _ rfl hB5 agg_slots info_slots ?_)
            refine (HF2.out _).mono ?_
            rintro e w6 ⟨rfl, hE6⟩
            have hI6 := hI5.ext hE6
            have hO6 := hO5.ext hE6
            have hF6 := hF5.trans hE6
            go_wp2_with (first
              | (with_reducible refine ag_load rfl 39 (.tmp 6) rfl wr.heap.size 3 wr.heap.size 39 _ rfl hI6 agg_slot info_slot ?_)
              | (go_at_call 44; (with_reducible refine (HLB.out _).mono ?_); rintro e w7 ⟨A7, c7, rfl, hO7, hE7⟩; have hsz7 := (hF6.trans hE7).size)
              | (at_builtin; refine app8 rfl (.tmp 28) (.tmp 30) rfl w1.heap.size _ (28 * k) c4 _ rfl (hO6.ext hE7) _ 28 c7 _ rfl hO7.sl (by omega) hsz7 ?_; intro A8 c8 w8 hO8 hG8; have hE8 := (hF6.trans hE7).grown hG8 (fun q hq => (hO.block q hq).1)))
            go_roundw
            case rel => exact ⟨k + 1, c8, A8, by omega, by go_num, by simp; omega, by rw [HS.out, by8_append, show 28 * (k + 1) = 28 * k + 28 from by omega]; exact hO8, HA, hE8⟩
            case measure => simp [intOf]; omega
          · have hgf : goodS ss k = false := by
              rw [HG.out, hm]
              have h1 : (i == 0) = false := by simp; omega
              have h2 : (findL ss a == (k : Int)) = false := by simpa using hf
              rw [h1, h2]; rfl
            have hno : ¬ allS ss 4 := fun h => by have := h k hlt; rw [hgf] at this; cases this
            have H12 := hide (And.intro (show layDL ss = [] from if_neg hno) (show layDE ss = 2 from if_neg hno))
            have h3 : (findL ss a != (k : Int)) = true := by simpa using hf
            clear hm hgf hno hsm hf hla
            go_wp2_with (with_reducible refine ag_load rfl 40 (.tmp 1) rfl w.heap.size 12 w.heap.size 40 _ rfl hB5 agg_slots info_slots ?_)
            refine (HF.out _).mono ?_
            rintro e w6 ⟨rfl, hE6⟩
            go_wp2
            go_ret2
            rw [H12.out.1, H12.out.2]
            exact ⟨none, 0, 0, rfl, by omega, Own.nilS _ _ _, hE1.trans (hF5.trans hE6)⟩
        · obtain rfl : i = 0 := by omega
          have hgt : goodS ss k = true := by rw [HG.out, hm]; simp
          have HA := hide (allS_succ ha.out hgt)
          clear hm hgt hla hsm
          go_wp2_with (first
            | (with_reducible refine ag_load rfl 39 (.tmp 6) rfl wr.heap.size 3 wr.heap.size 39 _ rfl hI5 agg_slot info_slot ?_)
            | (go_at_call 44; (with_reducible refine (HLB.out _).mono ?_); rintro e w7 ⟨A7, c7, rfl, hO7, hE7⟩; have hsz7 := (hF5.trans hE7).size)
            | (at_builtin; refine app8 rfl (.tmp 28) (.tmp 30) rfl w1.heap.size _ (28 * k) c4 _ rfl (hO5.ext hE7) _ 28 c7 _ rfl hO7.sl (by omega) hsz7 ?_; intro A8 c8 w8 hO8 hG8; have hE8 := (hF5.trans hE7).grown hG8 (fun q hq => (hO.block q hq).1)))
          go_roundw
          case rel => exact ⟨k + 1, c8, A8, by omega, by go_num, by simp; omega, by rw [HS.out, by8_append, show 28 * (k + 1) = 28 * k + 28 from by omega]; exact hO8, HA, hE8⟩
          case measure => simp [intOf]; omega
    · obtain rfl : k = 4 := by omega
      have H12 := hide (And.intro (show layDL ss = sealOf 68 (layBS ss 4) from if_pos ha.out) (show layDE ss = 0 from if_pos ha.out))
      have bb := Bytes.layBS ha.out
      clear ha hlt
      go_wp2_with fail
      refine (seal_Seal 68 _ _ _ _ _ hO.sl bb (by omega) (by omega) (by omega)).mono ?_
      rintro e w5 ⟨g5, c5, rfl, hO5, hE5⟩
      go_wp2
      go_ret2
      rw [H12.out.1, H12.out.2]
      exact ⟨_, _, _, rfl, by omega, hO5.low (by omega), hE1.trans (hE.trans hE5)⟩
end Go.Proofs.Ytngffmchjjpfbaa
