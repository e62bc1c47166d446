/- Lines of operations: the program's line. -/
import Derived.Test.YtmfenegkeiipnaaDoorSpH
namespace Go.Proofs.YtmfenegkeiipnaaDoor
set_option linter.unusedVariables false
set_option linter.unusedSimpArgs false
open Go.RowKit

theorem code_world {P : Program} {c : Code} {Q : Exit → Act → World → Prop} {a : Act} {w : World} (h : ∀ w1, w1 = w → Code.wp P c Q a w1) : Code.wp P c Q a w := h w rfl
theorem words_at {w : World} (hL : Laid w) {k : Nat} (hk : k < 24) : w.cell? ⟨0, k, none⟩ = some (.string (toB (word k))) := by
  obtain ⟨t, fz, h⟩ := hL.wrd
  unfold World.cell?
  simp only [h]
  unfold word vT mB
  rw [List.getElem?_toArray, List.getElem?_map, List.getElem?_map, List.getD_eq_getElem?_getD]
  rw [List.getElem?_eq_getElem (show k < wordsL.length from hk)]
  rfl
set_option maxRecDepth 100000 in
set_option maxHeartbeats 4000000 in
theorem f_Say (o : Opp) (A : Option Addr) (n c : Nat) (w : World) (hL : Laid w) (ho : o.Ok) (hk : InR o.k) (hs : o.Sm) (hD : Sl w A n c (by8 (nat8 o.da))) :
    Calls Tryd.prog 10 #[.agg (opV o A n c)] w fun e w' => e = .returned (.string (toB (sayL o))) ∧ Ext w w' := by
  by_cases h1 : o.k < 1
  · have hres : sayL o = [] := by unfold sayL; rw [if_pos (Or.inl h1)]
    rw [hres]
    unfold opV
    generalize o.k = x at *
    go_enter Tryd.func10, Tryd.ntmps10
    go_wp2_with fail
    go_ret
    exact ⟨rfl, (Ext.refl w).alloc _⟩
  by_cases h2 : 24 ≤ o.k
  · have hres : sayL o = [] := by unfold sayL; rw [if_pos (Or.inr h2)]
    rw [hres]
    unfold opV
    generalize o.k = x at *
    have h3 : x ≥ 24 := h2
    go_enter Tryd.func10, Tryd.ntmps10
    go_wp2_with fail
    go_ret
    exact ⟨rfl, (Ext.refl w).alloc _⟩
  rw [← lineB_say (by omega) (by omega)]
  obtain ⟨kn, hkn⟩ : ∃ kn : Nat, o.k = (kn : Int) := ⟨o.k.toNat, by omega⟩
  have hkl : kn < 24 := by omega
  have hw0 := words_at hL hkl
  have hz0 : lineN o 0 = word kn := by rw [lineN_zero, hkn]; rfl
  have HZ0 := hide hz0
  clear hz0
  rw [hkn] at h1 h2
  have HO := hide (And.intro ho (And.intro hs hkn))
  have HL := hide hL
  have HD := hide hD
  have ek : opV o A n c = #[.int .i64 (kn : Int), .int .i64 o.fd, .int .i64 o.n, .int .i64 o.off, .int .i64 o.fl, .string (toB o.pa), .string (toB o.to), .slice A n c] := by unfold opV; rw [hkn]
  rw [ek]
  clear ho hs hkn hk hL hD ek
  go_enter Tryd.func10, Tryd.ntmps10
  go_upto_region 1 with fail
  refine code_world (fun w1 hw1 => ?_)
  have hE1 : Ext w w1 := by rw [hw1]; exact (Ext.refl w).alloc _
  have c0 := alloc_cell w #[.int .i64 (kn : Int), .int .i64 o.fd, .int .i64 o.n, .int .i64 o.off, .int .i64 o.fl, .string (toB o.pa), .string (toB o.to), .slice A n c] 24 0 _ rfl
  have c1 := alloc_cell w #[.int .i64 (kn : Int), .int .i64 o.fd, .int .i64 o.n, .int .i64 o.off, .int .i64 o.fl, .string (toB o.pa), .string (toB o.to), .slice A n c] 24 1 _ rfl
  have c2 := alloc_cell w #[.int .i64 (kn : Int), .int .i64 o.fd, .int .i64 o.n, .int .i64 o.off, .int .i64 o.fl, .string (toB o.pa), .string (toB o.to), .slice A n c] 24 2 _ rfl
  have c3 := alloc_cell w #[.int .i64 (kn : Int), .int .i64 o.fd, .int .i64 o.n, .int .i64 o.off, .int .i64 o.fl, .string (toB o.pa), .string (toB o.to), .slice A n c] 24 3 _ rfl
  have c4 := alloc_cell w #[.int .i64 (kn : Int), .int .i64 o.fd, .int .i64 o.n, .int .i64 o.off, .int .i64 o.fl, .string (toB o.pa), .string (toB o.to), .slice A n c] 24 4 _ rfl
  have c5 := alloc_cell w #[.int .i64 (kn : Int), .int .i64 o.fd, .int .i64 o.n, .int .i64 o.off, .int .i64 o.fl, .string (toB o.pa), .string (toB o.to), .slice A n c] 24 5 _ rfl
  have c6 := alloc_cell w #[.int .i64 (kn : Int), .int .i64 o.fd, .int .i64 o.n, .int .i64 o.off, .int .i64 o.fl, .string (toB o.pa), .string (toB o.to), .slice A n c] 24 6 _ rfl
  have c7 := alloc_cell w #[.int .i64 (kn : Int), .int .i64 o.fd, .int .i64 o.n, .int .i64 o.off, .int .i64 o.fl, .string (toB o.pa), .string (toB o.to), .slice A n c] 24 7 _ rfl
  rw [← hw1] at c0 c1 c2 c3 c4 c5 c6 c7
  have hc := hE1.cell hw0
  have HE1 := hide hE1
  have C5 := hide c5
  have C6 := hide c6
  have C7 := hide c7
  obtain ⟨b, hb⟩ : ∃ b, b = w.heap.size := ⟨_, rfl⟩
  rw [← hb] at c0 c1 c2 c3 c4 C5 C6 C7 ⊢
  clear hw1 hw0 hE1 c5 c6 c7 hb
  have i1 : (kn : Int) < 24 := by omega
  have i2 : ¬ (kn : Int) ≥ 24 := by omega
  have i3 : (0 : Int) ≤ kn := by omega
  go_upto_block 1 with fail
  refine code_world (fun w2 hw2 => ?_)
  have hE2 : Ext w1 w2 := by rw [hw2]; exact (Ext.refl w1).alloc _
  have hR : ∀ i x, (numV o)[i]? = some x → w2.cell? ⟨w1.heap.size, i, none⟩ = some (.int .i64 x) := by
    intro i x hx
    rw [hw2]
    refine alloc_cell w1 _ _ i _ ?_
    unfold numV at hx
    rcases i with _ | _ | _ | _ | i
    all_goals first | (simp at hx; subst hx; rfl) | (simp at hx)
  have HR := hide hR
  have HE2 := hide (HE1.out.trans hE2)
  have C5b := hide (hE2.cell C5.out)
  have C6b := hide (hE2.cell C6.out)
  have C7b := hide (hE2.cell C7.out)
  obtain ⟨b2, hb2⟩ : ∃ b2, b2 = w1.heap.size := ⟨_, rfl⟩
  rw [← hb2] at HR ⊢
  clear hw2 hE2 hR hb2 C5 C6 C7 c0 c1 c2 c3 c4 hc h1 h2 i1 i2 i3
  go_loopw [3, 30] (fun s v wr => ∃ (i : Nat) (t : ByteArray), i ≤ 4 ∧ v = .int .i64 i ∧ s = .string t ∧ Ext w2 wr ∧ Hid (t = toB (lineN o i))) (fun _ v _ => 4 - (intOf v).toNat)
  case atStart => exact ⟨0, _, by omega, rfl, rfl, Ext.refl w2, by unfold Hid; rw [HZ0.out]⟩
  case round =>
    obtain ⟨i, t, hi, rfl, rfl, hE, hT⟩ := hrel
    by_cases hlt : i < 4
    · obtain ⟨key, x, hky, hxv, hkl5, hxR⟩ := numAt HO.out.1 hlt
      have hcx := hE.cell (HR.out i x hxv)
      have j1 : (i : Int) < 4 := by omega
      have HT2 := hide (lineN_step hky hxv)
      have hts : t.size ≤ 200 := by
        have := lineN_len HO.out.1 i hi
        rw [hT.out, toB_size]
        omega
      by_cases hx0 : x = 0
      · subst hx0
        have HT3 := hide (show t = toB (lineN o (i + 1)) by rw [HT2.out, numF_no, List.append_nil]; exact hT.out)
        clear hT
        go_wp2_with fail
        go_roundw
        case rel => exact ⟨i + 1, t, by omega, by go_num, by trivial, hE, HT3.out⟩
        case measure => simp [intOf] <;> omega
      · have e1 : (x != 0) = true := by simpa using hx0
        have hlit : (#[Value.string ⟨#[102, 100]⟩, .string ⟨#[110]⟩, .string ⟨#[111, 102, 102]⟩, .string ⟨#[102, 108, 97, 103, 115]⟩] : Array Value)[i]? = some (.string (toB key)) := by
          rcases (show i = 0 ∨ i = 1 ∨ i = 2 ∨ i = 3 by omega) with rfl | rfl | rfl | rfl
          all_goals
            cases hky
            rfl
        have HLIT := hide hlit
        have hks : (toB key).size ≤ 5 := by rw [toB_size]; exact hkl5
        have hTs : (toB (Lib.itoa x)).size ≤ 21 := by rw [toB_size]; exact Lib.itoa_length_le x hxR.1 hxR.2
        have HI := hide (fun w' hE' => f_Itoa x w' hxR (Laid.ext HL.out (HE2.out.trans hE')))
        have HT3 := hide (show t ++ (⟨#[32]⟩ ++ toB key ++ ⟨#[61]⟩ ++ toB (Lib.itoa x)) = toB (lineN o (i + 1)) by
          rw [HT2.out, numF_yes hx0, hT.out]
          rw [show (⟨#[32]⟩ : ByteArray) = toB [32] from rfl, show (⟨#[61]⟩ : ByteArray) = toB [61] from rfl]
          simp only [toB_app])
        generalize toB key = K at *
        generalize toB (Lib.itoa x) = T at *
        obtain ⟨m, hm⟩ : ∃ m, K.size = m := ⟨_, rfl⟩
        obtain ⟨p, hp⟩ : ∃ p, T.size = p := ⟨_, rfl⟩
        obtain ⟨q, hq⟩ : ∃ q, t.size = q := ⟨_, rfl⟩
        have n1 : ¬ 9223372036854775807 < 1 + m := by omega
        have n2 : ¬ 9223372036854775807 < 1 + m + 1 := by omega
        have n3 : ¬ 9223372036854775807 < 1 + m + 1 + p := by omega
        have n4 : ¬ 9223372036854775807 < q + (1 + m + 1 + p) := by omega
        clear hT hlit hx0 hky hxv hxR hkl5 hks hTs hts
        go_wp2_with fail
        refine wp_region_held_drew (S := (fun w' => Ext w2 w')) (by kernel_rfl) (hE.drew) (fun hHeld => ?_)
        refine held_take 0 rfl (by kernel_rfl) (by kernel_rfl) (by kernel_rfl) (fun _ _ _ _ h => h) (by rfl) ?_ ?_ (by assumption) ?_
        rotate_left
        · (intro wx hSx; (try dsimp only at hSx); go_simp)
          all_goals with_reducible rfl
        (try simp only [Act.put, List.setIfInBounds_toArray, List.set_cons_zero, List.set_cons_succ])
        refine held_take 2 rfl (by kernel_rfl) (by kernel_rfl) (by kernel_rfl) (fun _ _ _ _ h => h) (by rfl) ?_ ?_ (by assumption) ?_
        rotate_left
        · (intro wx hSx; (try dsimp only at hSx); go_simp)
          all_goals with_reducible rfl
        (try simp only [Act.put, List.setIfInBounds_toArray, List.set_cons_zero, List.set_cons_succ])
        refine held_take 7 rfl (by kernel_rfl) (by kernel_rfl) (by kernel_rfl) (fun _ _ _ _ h => h) (by rfl) ?_ ?_ (by assumption) ?_
        rotate_left
        · (intro wx hSx; (try dsimp only at hSx); go_simp)
          all_goals with_reducible rfl
        (try simp only [Act.put, List.setIfInBounds_toArray, List.set_cons_zero, List.set_cons_succ])
        refine held_two 1 8 rfl rfl (by kernel_rfl) (fun K' hK => ?_) (fun K' hK => ?_)
        · go_simp
          refine hK.out _ _ ((((hE).alloc _).drew)) (fun hHeld => ?_)
          clear hK K'
          (try simp only [Act.put, List.setIfInBounds_toArray, List.set_cons_zero, List.set_cons_succ])
          refine held_world (fun w3 hw3 => ?_)
          have hE3 : Ext w2 w3 := by rw [hw3]; exact (((hE).alloc _).drew)
          have hcl : w3.cell? ⟨wr.heap.size, i, none⟩ = some (.string K) := by rw [hw3]; exact (Ext.refl _).drew.cell (alloc_cell wr _ _ i _ HLIT.out)
          obtain ⟨b3, hb3⟩ : ∃ b3, b3 = wr.heap.size := ⟨_, rfl⟩
          rw [← hb3] at hcl ⊢
          clear hw3 hb3
          refine held_take 3 rfl (by kernel_rfl) (by kernel_rfl) (by kernel_rfl) (fun _ _ _ _ h => h) (by rfl) ?_ ?_ (by assumption) ?_
          rotate_left
          · (intro wx hSx; (try dsimp only at hSx); go_simp)
            all_goals with_reducible rfl
          (try simp only [Act.put, List.setIfInBounds_toArray, List.set_cons_zero, List.set_cons_succ])
          refine held_two 4 8 rfl rfl (by kernel_rfl) (fun K' hK => ?_) (fun K' hK => ?_)
          · go_simp
            refine hK.out _ _ (hE3) (fun hHeld => ?_)
            clear hK K'
            (try simp only [Act.put, List.setIfInBounds_toArray, List.set_cons_zero, List.set_cons_succ])
            refine held_take 5 rfl (by kernel_rfl) (by kernel_rfl) (by kernel_rfl) (fun _ _ _ _ h => h) (by rfl) ?_ ?_ (by assumption) ?_
            rotate_left
            · (intro wx hSx; (try dsimp only at hSx); go_simp)
              all_goals with_reducible rfl
            (try simp only [Act.put, List.setIfInBounds_toArray, List.set_cons_zero, List.set_cons_succ])
            refine held_take 6 rfl (by kernel_rfl) (by kernel_rfl) (by kernel_rfl) (fun _ _ _ _ h => h) (by rfl) ?_ ?_ (by assumption) ?_
            rotate_left
            · (intro wx hSx; (try dsimp only at hSx); go_simp)
              all_goals with_reducible rfl
            (try simp only [Act.put, List.setIfInBounds_toArray, List.set_cons_zero, List.set_cons_succ])
            refine held_call 8 rfl (by kernel_rfl) (fun K' hK => ?_)
            go_simp
            go_at_call 24
            refine (HI.out _ (hE3)).mono ?_
            rintro e w4 ⟨rfl, hEk⟩
            have hE4 : Ext w2 w4 := (hE3).trans hEk
            go_wp2_with fail
            refine hK.out _ _ (hE4) (fun hHeld => ?_)
            clear hK K'
            (try simp only [Act.put, List.setIfInBounds_toArray, List.set_cons_zero, List.set_cons_succ])
            refine held_take 9 rfl (by kernel_rfl) (by kernel_rfl) (by kernel_rfl) (fun _ _ _ _ h => h) (by rfl) ?_ ?_ (by assumption) ?_
            rotate_left
            · (intro wx hSx; (try dsimp only at hSx); go_simp)
              all_goals with_reducible rfl
            (try simp only [Act.put, List.setIfInBounds_toArray, List.set_cons_zero, List.set_cons_succ])
            refine held_take 10 rfl (by kernel_rfl) (by kernel_rfl) (by kernel_rfl) (fun _ _ _ _ h => h) (by rfl) ?_ ?_ (by assumption) ?_
            rotate_left
            · (intro wx hSx; (try dsimp only at hSx); go_simp)
              all_goals with_reducible rfl
            (try simp only [Act.put, List.setIfInBounds_toArray, List.set_cons_zero, List.set_cons_succ])
            refine held_take 11 rfl (by kernel_rfl) (by kernel_rfl) (by kernel_rfl) (fun _ _ _ _ h => h) (by rfl) ?_ ?_ (by assumption) ?_
            rotate_left
            · (intro wx hSx; (try dsimp only at hSx); go_simp)
              all_goals with_reducible rfl
            (try simp only [Act.put, List.setIfInBounds_toArray, List.set_cons_zero, List.set_cons_succ])
            refine wpAnyH_done (by kernel_rfl) ?_ _
            go_wp2_with fail
            go_roundw
            case rel => exact ⟨i + 1, _, by omega, by go_num, rfl, hE4, HT3.out⟩
            case measure => simp [intOf] <;> omega
          · go_simp
            go_at_call 24
            refine (HI.out _ (hE3)).mono ?_
            rintro e w4 ⟨rfl, hEk⟩
            have hE4 : Ext w2 w4 := (hE3).trans hEk
            go_wp2_with fail
            refine hK.out _ _ (hE4) (fun hHeld => ?_)
            clear hK K'
            (try simp only [Act.put, List.setIfInBounds_toArray, List.set_cons_zero, List.set_cons_succ])
            have hcl2 := ((Ext.refl w3).trans hEk).cell hcl
            clear hcl
            refine held_call 4 rfl (by kernel_rfl) (fun K' hK => ?_)
            go_simp
            refine hK.out _ _ (hE4) (fun hHeld => ?_)
            clear hK K'
            (try simp only [Act.put, List.setIfInBounds_toArray, List.set_cons_zero, List.set_cons_succ])
            refine held_take 5 rfl (by kernel_rfl) (by kernel_rfl) (by kernel_rfl) (fun _ _ _ _ h => h) (by rfl) ?_ ?_ (by assumption) ?_
            rotate_left
            · (intro wx hSx; (try dsimp only at hSx); go_simp)
              all_goals with_reducible rfl
            (try simp only [Act.put, List.setIfInBounds_toArray, List.set_cons_zero, List.set_cons_succ])
            refine held_take 6 rfl (by kernel_rfl) (by kernel_rfl) (by kernel_rfl) (fun _ _ _ _ h => h) (by rfl) ?_ ?_ (by assumption) ?_
            rotate_left
            · (intro wx hSx; (try dsimp only at hSx); go_simp)
              all_goals with_reducible rfl
            (try simp only [Act.put, List.setIfInBounds_toArray, List.set_cons_zero, List.set_cons_succ])
            refine held_take 9 rfl (by kernel_rfl) (by kernel_rfl) (by kernel_rfl) (fun _ _ _ _ h => h) (by rfl) ?_ ?_ (by assumption) ?_
            rotate_left
            · (intro wx hSx; (try dsimp only at hSx); go_simp)
              all_goals with_reducible rfl
            (try simp only [Act.put, List.setIfInBounds_toArray, List.set_cons_zero, List.set_cons_succ])
            refine held_take 10 rfl (by kernel_rfl) (by kernel_rfl) (by kernel_rfl) (fun _ _ _ _ h => h) (by rfl) ?_ ?_ (by assumption) ?_
            rotate_left
            · (intro wx hSx; (try dsimp only at hSx); go_simp)
              all_goals with_reducible rfl
            (try simp only [Act.put, List.setIfInBounds_toArray, List.set_cons_zero, List.set_cons_succ])
            refine held_take 11 rfl (by kernel_rfl) (by kernel_rfl) (by kernel_rfl) (fun _ _ _ _ h => h) (by rfl) ?_ ?_ (by assumption) ?_
            rotate_left
            · (intro wx hSx; (try dsimp only at hSx); go_simp)
              all_goals with_reducible rfl
            (try simp only [Act.put, List.setIfInBounds_toArray, List.set_cons_zero, List.set_cons_succ])
            refine wpAnyH_done (by kernel_rfl) ?_ _
            go_wp2_with fail
            go_roundw
            case rel => exact ⟨i + 1, _, by omega, by go_num, rfl, hE4, HT3.out⟩
            case measure => simp [intOf] <;> omega
        · go_simp
          go_at_call 24
          refine (HI.out _ (hE.drew)).mono ?_
          rintro e w4 ⟨rfl, hEk⟩
          have hE4 : Ext w2 w4 := (hE.drew).trans hEk
          go_wp2_with fail
          refine hK.out _ _ (hE4) (fun hHeld => ?_)
          clear hK K'
          (try simp only [Act.put, List.setIfInBounds_toArray, List.set_cons_zero, List.set_cons_succ])
          refine held_call 1 rfl (by kernel_rfl) (fun K' hK => ?_)
          go_simp
          refine hK.out _ _ ((((hE4).alloc _))) (fun hHeld => ?_)
          clear hK K'
          (try simp only [Act.put, List.setIfInBounds_toArray, List.set_cons_zero, List.set_cons_succ])
          refine held_world (fun w3 hw3 => ?_)
          have hE3 : Ext w2 w3 := by rw [hw3]; exact (((hE4).alloc _))
          have hcl : w3.cell? ⟨w4.heap.size, i, none⟩ = some (.string K) := by rw [hw3]; exact alloc_cell w4 _ _ i _ HLIT.out
          obtain ⟨b3, hb3⟩ : ∃ b3, b3 = w4.heap.size := ⟨_, rfl⟩
          rw [← hb3] at hcl ⊢
          clear hw3 hb3
          refine held_take 3 rfl (by kernel_rfl) (by kernel_rfl) (by kernel_rfl) (fun _ _ _ _ h => h) (by rfl) ?_ ?_ (by assumption) ?_
          rotate_left
          · (intro wx hSx; (try dsimp only at hSx); go_simp)
            all_goals with_reducible rfl
          (try simp only [Act.put, List.setIfInBounds_toArray, List.set_cons_zero, List.set_cons_succ])
          refine held_call 4 rfl (by kernel_rfl) (fun K' hK => ?_)
          go_simp
          refine hK.out _ _ (hE3) (fun hHeld => ?_)
          clear hK K'
          (try simp only [Act.put, List.setIfInBounds_toArray, List.set_cons_zero, List.set_cons_succ])
          refine held_take 5 rfl (by kernel_rfl) (by kernel_rfl) (by kernel_rfl) (fun _ _ _ _ h => h) (by rfl) ?_ ?_ (by assumption) ?_
          rotate_left
          · (intro wx hSx; (try dsimp only at hSx); go_simp)
            all_goals with_reducible rfl
          (try simp only [Act.put, List.setIfInBounds_toArray, List.set_cons_zero, List.set_cons_succ])
          refine held_take 6 rfl (by kernel_rfl) (by kernel_rfl) (by kernel_rfl) (fun _ _ _ _ h => h) (by rfl) ?_ ?_ (by assumption) ?_
          rotate_left
          · (intro wx hSx; (try dsimp only at hSx); go_simp)
            all_goals with_reducible rfl
          (try simp only [Act.put, List.setIfInBounds_toArray, List.set_cons_zero, List.set_cons_succ])
          refine held_take 9 rfl (by kernel_rfl) (by kernel_rfl) (by kernel_rfl) (fun _ _ _ _ h => h) (by rfl) ?_ ?_ (by assumption) ?_
          rotate_left
          · (intro wx hSx; (try dsimp only at hSx); go_simp)
            all_goals with_reducible rfl
          (try simp only [Act.put, List.setIfInBounds_toArray, List.set_cons_zero, List.set_cons_succ])
          refine held_take 10 rfl (by kernel_rfl) (by kernel_rfl) (by kernel_rfl) (fun _ _ _ _ h => h) (by rfl) ?_ ?_ (by assumption) ?_
          rotate_left
          · (intro wx hSx; (try dsimp only at hSx); go_simp)
            all_goals with_reducible rfl
          (try simp only [Act.put, List.setIfInBounds_toArray, List.set_cons_zero, List.set_cons_succ])
          refine held_take 11 rfl (by kernel_rfl) (by kernel_rfl) (by kernel_rfl) (fun _ _ _ _ h => h) (by rfl) ?_ ?_ (by assumption) ?_
          rotate_left
          · (intro wx hSx; (try dsimp only at hSx); go_simp)
            all_goals with_reducible rfl
          (try simp only [Act.put, List.setIfInBounds_toArray, List.set_cons_zero, List.set_cons_succ])
          refine wpAnyH_done (by kernel_rfl) ?_ _
          go_wp2_with fail
          go_roundw
          case rel => exact ⟨i + 1, _, by omega, by go_num, rfl, hE3, HT3.out⟩
          case measure => simp [intOf] <;> omega
    · obtain rfl : i = 4 := by omega
      rw [show ((4 : Nat) : Int) = 4 from rfl]
      have c5 := hE.cell C5b.out
      have c6 := hE.cell C6b.out
      have c7 := hE.cell C7b.out
      have hcv := str8 (HD.out.ext (HE2.out.trans hE))
      rw [strN_nat8] at hcv
      have hT0 := hT.out
      rw [← lineB_zero] at hT0
      have HT0 := hide hT0
      clear hT hT0 hlt
      go_wp2_with fail
      refine code_world (fun w3 hw3 => ?_)
      have hE3 : Ext wr w3 := by rw [hw3]; exact (Ext.refl wr).alloc _
      have hR3 : ∀ i x, (byV o)[i]? = some x → w3.cell? ⟨wr.heap.size, i, none⟩ = some (.string (toB x)) := by
        intro i x hx
        rw [hw3]
        refine alloc_cell wr _ _ i _ ?_
        unfold byV at hx
        rcases i with _ | _ | _ | i
        all_goals first | (simp at hx; subst hx; rfl) | (simp at hx)
      have HR3 := hide hR3
      have HE3 := hide ((HE2.out.trans hE).trans hE3)
      obtain ⟨b3, hb3⟩ : ∃ b3, b3 = wr.heap.size := ⟨_, rfl⟩
      rw [← hb3] at HR3 ⊢
      clear hw3 hE3 hR3 hb3 c5 c6 c7 hcv HR HE2 HE1 hE C5b C6b C7b
      rename World => w2
      go_loopw [3, 58] (fun s v wr => ∃ (i : Nat) (t : ByteArray), i ≤ 3 ∧ v = .int .i64 i ∧ s = .string t ∧ Ext w2 wr ∧ Hid (t = toB (lineB o i))) (fun _ v _ => 3 - (intOf v).toNat)
      case atStart => exact ⟨0, _, by omega, rfl, rfl, Ext.refl w2, HT0.out⟩
      case round =>
        obtain ⟨i, t, hi, rfl, rfl, hE, hT⟩ := hrel
        by_cases hlt : i < 3
        · obtain ⟨key, x, hky, hxv, hkl5, hxR⟩ := byAt HO.out.2.1 hlt
          have hcx := hE.cell (HR3.out i x hxv)
          have j1 : (i : Int) < 3 := by omega
          have HT2 := hide (lineB_step hky hxv)
          have hts : t.size ≤ 10000000 := by
            have := lineB_len HO.out.1 HO.out.2.1 i hi
            rw [hT.out, toB_size]
            omega
          by_cases hx0 : x = []
          · subst hx0
            have HT3 := hide (show t = toB (lineB o (i + 1)) by rw [HT2.out, byF_no, List.append_nil]; exact hT.out)
            have hxe : (toB []).toList.isEmpty = true := by rw [toB_list]; rfl
            clear hT
            go_wp2_with fail
            go_roundw
            case rel => exact ⟨i + 1, t, by omega, by go_num, by trivial, hE, HT3.out⟩
            case measure => simp [intOf] <;> omega
          · have hxe : (toB x).toList.isEmpty = false := by rw [toB_list]; cases x with | nil => exact absurd rfl hx0 | cons => rfl
            have hlit : (#[Value.string ⟨#[112, 97, 116, 104]⟩, .string ⟨#[116, 111]⟩, .string ⟨#[100, 97, 116, 97]⟩] : Array Value)[i]? = some (.string (toB key)) := by
              rcases (show i = 0 ∨ i = 1 ∨ i = 2 by omega) with rfl | rfl | rfl
              all_goals
                cases hky
                rfl
            have HLIT := hide hlit
            have hks : (toB key).size ≤ 4 := by rw [toB_size]; exact hkl5
            have hTs : (toB (hexL x)).size ≤ 2000000 := by rw [toB_size, hexL_len]; omega
            have HI := hide (fun w' (hE' : Ext w2 w') => f_told x w' hxR)
            have HT3 := hide (show t ++ (⟨#[32]⟩ ++ toB key ++ ⟨#[61]⟩ ++ toB (hexL x)) = toB (lineB o (i + 1)) by
              rw [HT2.out, byF_yes hx0, hT.out]
              rw [show (⟨#[32]⟩ : ByteArray) = toB [32] from rfl, show (⟨#[61]⟩ : ByteArray) = toB [61] from rfl]
              simp only [toB_app])
            generalize toB key = K at *
            generalize toB (hexL x) = T at *
            obtain ⟨m, hm⟩ : ∃ m, K.size = m := ⟨_, rfl⟩
            obtain ⟨p, hp⟩ : ∃ p, T.size = p := ⟨_, rfl⟩
            obtain ⟨q, hq⟩ : ∃ q, t.size = q := ⟨_, rfl⟩
            have n1 : ¬ 9223372036854775807 < 1 + m := by omega
            have n2 : ¬ 9223372036854775807 < 1 + m + 1 := by omega
            have n3 : ¬ 9223372036854775807 < 1 + m + 1 + p := by omega
            have n4 : ¬ 9223372036854775807 < q + (1 + m + 1 + p) := by omega
            clear hT hlit hx0 hky hxv hxR hkl5 hks hTs hts
            go_wp2_with fail
            refine wp_region_held_drew (S := (fun w' => Ext w2 w')) (by kernel_rfl) (hE.drew) (fun hHeld => ?_)
            refine held_take 0 rfl (by kernel_rfl) (by kernel_rfl) (by kernel_rfl) (fun _ _ _ _ h => h) (by rfl) ?_ ?_ (by assumption) ?_
            rotate_left
            · (intro wx hSx; (try dsimp only at hSx); go_simp)
              all_goals with_reducible rfl
            (try simp only [Act.put, List.setIfInBounds_toArray, List.set_cons_zero, List.set_cons_succ])
            refine held_take 2 rfl (by kernel_rfl) (by kernel_rfl) (by kernel_rfl) (fun _ _ _ _ h => h) (by rfl) ?_ ?_ (by assumption) ?_
            rotate_left
            · (intro wx hSx; (try dsimp only at hSx); go_simp)
              all_goals with_reducible rfl
            (try simp only [Act.put, List.setIfInBounds_toArray, List.set_cons_zero, List.set_cons_succ])
            refine held_take 7 rfl (by kernel_rfl) (by kernel_rfl) (by kernel_rfl) (fun _ _ _ _ h => h) (by rfl) ?_ ?_ (by assumption) ?_
            rotate_left
            · (intro wx hSx; (try dsimp only at hSx); go_simp)
              all_goals with_reducible rfl
            (try simp only [Act.put, List.setIfInBounds_toArray, List.set_cons_zero, List.set_cons_succ])
            refine held_two 1 8 rfl rfl (by kernel_rfl) (fun K' hK => ?_) (fun K' hK => ?_)
            · go_simp
              refine hK.out _ _ ((((hE).alloc _).drew)) (fun hHeld => ?_)
              clear hK K'
              (try simp only [Act.put, List.setIfInBounds_toArray, List.set_cons_zero, List.set_cons_succ])
              refine held_world (fun w3 hw3 => ?_)
              have hE3 : Ext w2 w3 := by rw [hw3]; exact (((hE).alloc _).drew)
              have hcl : w3.cell? ⟨wr.heap.size, i, none⟩ = some (.string K) := by rw [hw3]; exact (Ext.refl _).drew.cell (alloc_cell wr _ _ i _ HLIT.out)
              obtain ⟨b3, hb3⟩ : ∃ b3, b3 = wr.heap.size := ⟨_, rfl⟩
              rw [← hb3] at hcl ⊢
              clear hw3 hb3
              refine held_take 3 rfl (by kernel_rfl) (by kernel_rfl) (by kernel_rfl) (fun _ _ _ _ h => h) (by rfl) ?_ ?_ (by assumption) ?_
              rotate_left
              · (intro wx hSx; (try dsimp only at hSx); go_simp)
                all_goals with_reducible rfl
              (try simp only [Act.put, List.setIfInBounds_toArray, List.set_cons_zero, List.set_cons_succ])
              refine held_two 4 8 rfl rfl (by kernel_rfl) (fun K' hK => ?_) (fun K' hK => ?_)
              · go_simp
                refine hK.out _ _ (hE3) (fun hHeld => ?_)
                clear hK K'
                (try simp only [Act.put, List.setIfInBounds_toArray, List.set_cons_zero, List.set_cons_succ])
                refine held_take 5 rfl (by kernel_rfl) (by kernel_rfl) (by kernel_rfl) (fun _ _ _ _ h => h) (by rfl) ?_ ?_ (by assumption) ?_
                rotate_left
                · (intro wx hSx; (try dsimp only at hSx); go_simp)
                  all_goals with_reducible rfl
                (try simp only [Act.put, List.setIfInBounds_toArray, List.set_cons_zero, List.set_cons_succ])
                refine held_take 6 rfl (by kernel_rfl) (by kernel_rfl) (by kernel_rfl) (fun _ _ _ _ h => h) (by rfl) ?_ ?_ (by assumption) ?_
                rotate_left
                · (intro wx hSx; (try dsimp only at hSx); go_simp)
                  all_goals with_reducible rfl
                (try simp only [Act.put, List.setIfInBounds_toArray, List.set_cons_zero, List.set_cons_succ])
                refine held_call 8 rfl (by kernel_rfl) (fun K' hK => ?_)
                go_simp
                go_at_call 25
                refine (HI.out _ (hE3)).mono ?_
                rintro e w4 ⟨rfl, hEk⟩
                have hE4 : Ext w2 w4 := (hE3).trans hEk
                go_wp2_with fail
                refine hK.out _ _ (hE4) (fun hHeld => ?_)
                clear hK K'
                (try simp only [Act.put, List.setIfInBounds_toArray, List.set_cons_zero, List.set_cons_succ])
                refine held_take 9 rfl (by kernel_rfl) (by kernel_rfl) (by kernel_rfl) (fun _ _ _ _ h => h) (by rfl) ?_ ?_ (by assumption) ?_
                rotate_left
                · (intro wx hSx; (try dsimp only at hSx); go_simp)
                  all_goals with_reducible rfl
                (try simp only [Act.put, List.setIfInBounds_toArray, List.set_cons_zero, List.set_cons_succ])
                refine held_take 10 rfl (by kernel_rfl) (by kernel_rfl) (by kernel_rfl) (fun _ _ _ _ h => h) (by rfl) ?_ ?_ (by assumption) ?_
                rotate_left
                · (intro wx hSx; (try dsimp only at hSx); go_simp)
                  all_goals with_reducible rfl
                (try simp only [Act.put, List.setIfInBounds_toArray, List.set_cons_zero, List.set_cons_succ])
                refine held_take 11 rfl (by kernel_rfl) (by kernel_rfl) (by kernel_rfl) (fun _ _ _ _ h => h) (by rfl) ?_ ?_ (by assumption) ?_
                rotate_left
                · (intro wx hSx; (try dsimp only at hSx); go_simp)
                  all_goals with_reducible rfl
                (try simp only [Act.put, List.setIfInBounds_toArray, List.set_cons_zero, List.set_cons_succ])
                refine wpAnyH_done (by kernel_rfl) ?_ _
                go_wp2_with fail
                go_roundw
                case rel => exact ⟨i + 1, _, by omega, by go_num, rfl, hE4, HT3.out⟩
                case measure => simp [intOf] <;> omega
              · go_simp
                go_at_call 25
                refine (HI.out _ (hE3)).mono ?_
                rintro e w4 ⟨rfl, hEk⟩
                have hE4 : Ext w2 w4 := (hE3).trans hEk
                go_wp2_with fail
                refine hK.out _ _ (hE4) (fun hHeld => ?_)
                clear hK K'
                (try simp only [Act.put, List.setIfInBounds_toArray, List.set_cons_zero, List.set_cons_succ])
                have hcl2 := ((Ext.refl w3).trans hEk).cell hcl
                clear hcl
                refine held_call 4 rfl (by kernel_rfl) (fun K' hK => ?_)
                go_simp
                refine hK.out _ _ (hE4) (fun hHeld => ?_)
                clear hK K'
                (try simp only [Act.put, List.setIfInBounds_toArray, List.set_cons_zero, List.set_cons_succ])
                refine held_take 5 rfl (by kernel_rfl) (by kernel_rfl) (by kernel_rfl) (fun _ _ _ _ h => h) (by rfl) ?_ ?_ (by assumption) ?_
                rotate_left
                · (intro wx hSx; (try dsimp only at hSx); go_simp)
                  all_goals with_reducible rfl
                (try simp only [Act.put, List.setIfInBounds_toArray, List.set_cons_zero, List.set_cons_succ])
                refine held_take 6 rfl (by kernel_rfl) (by kernel_rfl) (by kernel_rfl) (fun _ _ _ _ h => h) (by rfl) ?_ ?_ (by assumption) ?_
                rotate_left
                · (intro wx hSx; (try dsimp only at hSx); go_simp)
                  all_goals with_reducible rfl
                (try simp only [Act.put, List.setIfInBounds_toArray, List.set_cons_zero, List.set_cons_succ])
                refine held_take 9 rfl (by kernel_rfl) (by kernel_rfl) (by kernel_rfl) (fun _ _ _ _ h => h) (by rfl) ?_ ?_ (by assumption) ?_
                rotate_left
                · (intro wx hSx; (try dsimp only at hSx); go_simp)
                  all_goals with_reducible rfl
                (try simp only [Act.put, List.setIfInBounds_toArray, List.set_cons_zero, List.set_cons_succ])
                refine held_take 10 rfl (by kernel_rfl) (by kernel_rfl) (by kernel_rfl) (fun _ _ _ _ h => h) (by rfl) ?_ ?_ (by assumption) ?_
                rotate_left
                · (intro wx hSx; (try dsimp only at hSx); go_simp)
                  all_goals with_reducible rfl
                (try simp only [Act.put, List.setIfInBounds_toArray, List.set_cons_zero, List.set_cons_succ])
                refine held_take 11 rfl (by kernel_rfl) (by kernel_rfl) (by kernel_rfl) (fun _ _ _ _ h => h) (by rfl) ?_ ?_ (by assumption) ?_
                rotate_left
                · (intro wx hSx; (try dsimp only at hSx); go_simp)
                  all_goals with_reducible rfl
                (try simp only [Act.put, List.setIfInBounds_toArray, List.set_cons_zero, List.set_cons_succ])
                refine wpAnyH_done (by kernel_rfl) ?_ _
                go_wp2_with fail
                go_roundw
                case rel => exact ⟨i + 1, _, by omega, by go_num, rfl, hE4, HT3.out⟩
                case measure => simp [intOf] <;> omega
            · go_simp
              go_at_call 25
              refine (HI.out _ (hE.drew)).mono ?_
              rintro e w4 ⟨rfl, hEk⟩
              have hE4 : Ext w2 w4 := (hE.drew).trans hEk
              go_wp2_with fail
              refine hK.out _ _ (hE4) (fun hHeld => ?_)
              clear hK K'
              (try simp only [Act.put, List.setIfInBounds_toArray, List.set_cons_zero, List.set_cons_succ])
              refine held_call 1 rfl (by kernel_rfl) (fun K' hK => ?_)
              go_simp
              refine hK.out _ _ ((((hE4).alloc _))) (fun hHeld => ?_)
              clear hK K'
              (try simp only [Act.put, List.setIfInBounds_toArray, List.set_cons_zero, List.set_cons_succ])
              refine held_world (fun w3 hw3 => ?_)
              have hE3 : Ext w2 w3 := by rw [hw3]; exact (((hE4).alloc _))
              have hcl : w3.cell? ⟨w4.heap.size, i, none⟩ = some (.string K) := by rw [hw3]; exact alloc_cell w4 _ _ i _ HLIT.out
              obtain ⟨b3, hb3⟩ : ∃ b3, b3 = w4.heap.size := ⟨_, rfl⟩
              rw [← hb3] at hcl ⊢
              clear hw3 hb3
              refine held_take 3 rfl (by kernel_rfl) (by kernel_rfl) (by kernel_rfl) (fun _ _ _ _ h => h) (by rfl) ?_ ?_ (by assumption) ?_
              rotate_left
              · (intro wx hSx; (try dsimp only at hSx); go_simp)
                all_goals with_reducible rfl
              (try simp only [Act.put, List.setIfInBounds_toArray, List.set_cons_zero, List.set_cons_succ])
              refine held_call 4 rfl (by kernel_rfl) (fun K' hK => ?_)
              go_simp
              refine hK.out _ _ (hE3) (fun hHeld => ?_)
              clear hK K'
              (try simp only [Act.put, List.setIfInBounds_toArray, List.set_cons_zero, List.set_cons_succ])
              refine held_take 5 rfl (by kernel_rfl) (by kernel_rfl) (by kernel_rfl) (fun _ _ _ _ h => h) (by rfl) ?_ ?_ (by assumption) ?_
              rotate_left
              · (intro wx hSx; (try dsimp only at hSx); go_simp)
                all_goals with_reducible rfl
              (try simp only [Act.put, List.setIfInBounds_toArray, List.set_cons_zero, List.set_cons_succ])
              refine held_take 6 rfl (by kernel_rfl) (by kernel_rfl) (by kernel_rfl) (fun _ _ _ _ h => h) (by rfl) ?_ ?_ (by assumption) ?_
              rotate_left
              · (intro wx hSx; (try dsimp only at hSx); go_simp)
                all_goals with_reducible rfl
              (try simp only [Act.put, List.setIfInBounds_toArray, List.set_cons_zero, List.set_cons_succ])
              refine held_take 9 rfl (by kernel_rfl) (by kernel_rfl) (by kernel_rfl) (fun _ _ _ _ h => h) (by rfl) ?_ ?_ (by assumption) ?_
              rotate_left
              · (intro wx hSx; (try dsimp only at hSx); go_simp)
                all_goals with_reducible rfl
              (try simp only [Act.put, List.setIfInBounds_toArray, List.set_cons_zero, List.set_cons_succ])
              refine held_take 10 rfl (by kernel_rfl) (by kernel_rfl) (by kernel_rfl) (fun _ _ _ _ h => h) (by rfl) ?_ ?_ (by assumption) ?_
              rotate_left
              · (intro wx hSx; (try dsimp only at hSx); go_simp)
                all_goals with_reducible rfl
              (try simp only [Act.put, List.setIfInBounds_toArray, List.set_cons_zero, List.set_cons_succ])
              refine held_take 11 rfl (by kernel_rfl) (by kernel_rfl) (by kernel_rfl) (fun _ _ _ _ h => h) (by rfl) ?_ ?_ (by assumption) ?_
              rotate_left
              · (intro wx hSx; (try dsimp only at hSx); go_simp)
                all_goals with_reducible rfl
              (try simp only [Act.put, List.setIfInBounds_toArray, List.set_cons_zero, List.set_cons_succ])
              refine wpAnyH_done (by kernel_rfl) ?_ _
              go_wp2_with fail
              go_roundw
              case rel => exact ⟨i + 1, _, by omega, by go_num, rfl, hE3, HT3.out⟩
              case measure => simp [intOf] <;> omega
        · obtain rfl : i = 3 := by omega
          have HE4 := hide (HE3.out.trans hE)
          go_wp2_with fail
          go_ret
          exact ⟨by rw [← hT.out]; rfl, HE4.out⟩
end Go.Proofs.YtmfenegkeiipnaaDoor
