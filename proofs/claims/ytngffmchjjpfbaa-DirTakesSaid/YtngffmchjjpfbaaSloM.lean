/- Slots of directories: the document's block. -/
import Derived.Test.YtngffmchjjpfbaaSloL
import Derived.Deep.RegionHeld3
namespace Go.Proofs.Ytngffmchjjpfbaa
set_option linter.unusedVariables false
open Go.RowKit

/-- append of a string's bytes, as a step of a region that draws its order. -/
theorem step8s {w : World} {ops : Array Oper} {o : Oper} {a : Act} {K : Act → World → Prop} {Q : Exit → Act → World → Prop} {E : Prop} (hgd : o.guard = none) (s x : Operand)
    (ho : o.op = .call { callee := .builtin .append, args := #[s, x], argTypes := #[24, 9] })
    (B : Nat) (A : Option Addr) (n c : Nat) (xs : List Value) (hs : a.eval s = .slice A n c) (hown : Own w B 5 A n c xs) (st : ByteArray) (hx : a.eval x = .string st)
    (hbytes : n + st.size ≤ 140737488355328) (hB : B ≤ w.heap.size)
    (h : ∀ A' c' w', Own w' B 5 A' (n + st.size) c' (xs ++ Lib.strCells st) → w.grownBy w' (Value.slice A n c).ownBlock → K (a.put o.dst (.slice A' (n + st.size) c')) w') :
    if Region.wanted o (yielded ops a.tmps) = true then Oper.wp Try.prog o a w K Q else E := by
  rw [if_pos (by simp [Region.wanted, hgd])]
  obtain ⟨i0, hi0, hz0, hz1, hz2⟩ := info_parts info_u8
  obtain ⟨v', w', hr, h2, h3, _⟩ := Lib.run_append_own_string (P := Try.prog) w B 24 9 o.type 5 i0 Try.underlying24 Try.underlying9 hi0 hz0 hz1 hz2 _ n xs hown.1 st (by simp only [maxLen]; omega) hbytes hB
  have hform : ∃ A' c', v' = .slice A' (n + st.size) c' := by
    rcases h2.2 with ⟨hv, hn⟩ | ⟨g, cap, cur, hv, _⟩
    · exact ⟨none, 0, by rw [hv, hn]⟩
    · exact ⟨_, _, hv⟩
  obtain ⟨A', c', rfl⟩ := hform
  unfold Oper.wp execOp
  simp only [ho, resolve, invoke, builtin, Sem.run_bind, Sem.run_pure, Result.andThen_ok, List.map_toArray, List.map_cons, List.map_nil, hs, hx, hr]
  refine h A' c' w' ⟨h2, fun v hv => ?_⟩ h3
  rcases List.mem_append.1 hv with h | h
  · exact hown.2 v h
  · exact Lib.strCells_oneCell st v h
set_option maxRecDepth 100000 in
set_option maxHeartbeats 2000000 in
theorem ref9_Lay (ss : List Slot) (hl : ss.length = 4) (w : World) : Calls Try.prog 24 #[.agg (LV ss).toArray] w fun e w' => ∃ A' n' c', e = .returned (.tuple #[.slice A' n' c', .int .i64 (layDE ss : Nat)]) ∧ n' ≤ 128 ∧ Own w' w.heap.size 5 A' n' c' (by8 (layDL ss)) ∧ Ext w w' := by
  have HL := hide hl
  have HLL := hide (LV_len4 hl)
  clear hl
  go_enter Try.func24, Try.ntmps24
  go_wp2_with (with_reducible refine ag_box rfl 40 (.tmp 0) rfl _ 12 rfl HLL.out (by omega) (LV_one ss) w.heap.size (Nat.le_refl _) ?_; intro w1 hB hE1 hz1)
  go_loopw [4, 5] (fun s j wr => ∃ (k c4 : Nat) (A4 : Option Addr), k ≤ 4 ∧ j = .int .i64 k ∧ s = .slice A4 (28 * k) c4 ∧ Own wr w1.heap.size 5 A4 (28 * k) c4 (by8 (layBS ss k)) ∧ Hid (allS ss k) ∧ Ext w1 wr) (fun _ j _ => 4 - (intOf j).toNat)
  case atStart => exact ⟨0, 0, none, by omega, rfl, rfl, Own.nilS _ _ _, (fun j hj => by omega), Ext.refl _⟩
  case round =>
    obtain ⟨k, c4, A4, hk, rfl, rfl, hO, ha, hE⟩ := hrel
    have hsz := hE.size
    have hBr := hB.ext hE
    have hAb := hO.block
    by_cases hlt : k < 4
    · have hgd : goodS ss k = (mayS (nS ss k) && ((nS ss k).1 == 0 || findL ss (nS ss k).2.2 == (k : Int))) := rfl
      have hmay := fun w => ref9_May (nS ss k) w
      have hsm := fun (h : mayS (nS ss k) = true) => mayS_small h
      have hs := layBS_succ ss k
      have hnt := LV_nth (ss := ss) (k := k) (by rw [HL.out]; exact hlt)
      generalize hq : nS ss k = s at hnt hgd hmay hs hsm
      clear hq
      obtain ⟨i, d, a⟩ := s
      have hfind := fun w => ref9_Find ss HL.out a w
      dsimp only at hgd hsm
      have NT := hide hnt.symm
      have HS := hide hs
      have HG := hide hgd
      have HF := hide hfind
      have hi4 : (k : Int) < 4 := by omega
      have go3 : ∀ (w' : World), Own w' wr.heap.size 39 (some ⟨wr.heap.size, 0, none⟩) 3 3 (sV (i, d, a)) → w'.cell? ⟨wr.heap.size, 0, none⟩ = some (.int .i64 i) ∧ w'.cell? ⟨wr.heap.size, 1, none⟩ = some (.int .i64 d) ∧ w'.cell? ⟨wr.heap.size, 2, none⟩ = some (.string a) :=
        fun w' hO => ⟨hO.cellAt 0 (by omega), hO.cellAt 1 (by omega), hO.cellAt 2 (by omega)⟩
      have GO3 := hide go3
      clear go3 hs hgd hfind hnt
      go_wp2_with (first
        | (with_reducible refine ag_loadAt rfl 39 (.tmp 12) rfl w.heap.size (k * 3) 3 12 12 w.heap.size 40 (LV ss) rfl hBr agg_slot info_slot (by omega) ?_; rw [← NT.out])
        | (with_reducible refine ag_alloc (o := ⟨some 6, _, _, _, _, _⟩) rfl 39 rfl _ 3 zero_slot rfl (by omega) (sV_one _) wr.heap.size (Nat.le_refl _) ?_; intro w3 hI3 hE3 hz3)
        | (with_reducible refine ag_store (o := ⟨none, _, _, _, _, _⟩) rfl 39 (.tmp 6) (.tmp 13) rfl wr.heap.size 3 wr.heap.size 39 _ (sV (i, d, a)) rfl rfl hI3 rfl (sV_one _) info_slot ?_; intro w4 hI4 hG4; have hE4 : Ext wr w4 := hE3.grown hG4 (by simp))
        | (with_reducible refine ag_load rfl 39 (.tmp 6) rfl wr.heap.size 3 wr.heap.size 39 _ rfl hI4 agg_slot info_slot ?_))
      refine (hmay _).mono ?_
      rintro e w5 ⟨rfl, hE5⟩
      have hI5 := hI4.ext hE5
      have hx0 := (GO3.out _ hI5).1
      have hx2 := (GO3.out _ hI5).2.2
      have hO5 := hO.ext (hE4.trans hE5)
      have hF5 := hE.trans (hE4.trans hE5)
      have hB5 := hB.ext hF5
      clear hmay hI3 hG4 hE3 hz3 hI4
      cases hm : mayS (i, d, a)
      · have hgf : goodS ss k = false := by rw [HG.out, hm]; rfl
        have hno : ¬ allS ss 4 := fun h => by have := h k hlt; rw [hgf] at this; cases this
        have H12 := hide (And.intro (show layDL ss = [] from if_neg hno) (show layDE ss = 2 from if_neg hno))
        clear hm hgf hno hsm
        go_wp2
        go_ret2
        rw [H12.out.1, H12.out.2]
        exact ⟨none, 0, 0, rfl, by omega, Own.nilS _ _ _, hE1.trans hF5⟩
      · obtain ⟨⟨b0, b1⟩, ⟨b2, b3⟩, b4⟩ := hsm hm
        have hcase : (i = 0 ∧ goodS ss k = true) ∨ ((i == 0) = false ∧ goodS ss k = true ∧ findL ss a = (k : Int)) ∨ ((i == 0) = false ∧ goodS ss k = false ∧ (findL ss a != (k : Int)) = true) := by
          rw [HG.out, hm]
          by_cases hi : i = 0
          · exact .inl ⟨hi, by rw [hi]; simp⟩
          · have h1 : (i == 0) = false := by simpa using hi
            by_cases hf : findL ss a = (k : Int)
            · exact .inr (.inl ⟨h1, by rw [hf]; simp, hf⟩)
            · refine .inr (.inr ⟨h1, ?_, by simpa using hf⟩)
              have h2 : (findL ss a == (k : Int)) = false := by simpa using hf
              rw [h1, h2]; rfl
        clear hm hsm
        have tail : goodS ss k = true → Hid (goodS ss k = true) := fun h => h
        rcases hcase with ⟨rfl, hgt⟩ | ⟨hi, hgt, hf⟩ | ⟨hi, hgf, h3⟩
        case inr.inr =>
          have hno : ¬ allS ss 4 := fun h => by have := h k hlt; rw [hgf] at this; cases this
          have H12 := hide (And.intro (show layDL ss = [] from if_neg hno) (show layDE ss = 2 from if_neg hno))
          have hi' : (i != 0) = true := by simpa using hi
          clear hgf hno tail
          go_wp2_with (with_reducible refine ag_load rfl 40 (.tmp 1) rfl w.heap.size 12 w.heap.size 40 _ rfl hB5 agg_slots info_slots ?_)
          refine (HF.out _).mono ?_
          rintro e w6 ⟨rfl, hE6⟩
          go_wp2
          go_ret2
          rw [H12.out.1, H12.out.2]
          exact ⟨none, 0, 0, rfl, by omega, Own.nilS _ _ _, hE1.trans (hF5.trans hE6)⟩
        case inl =>
          have HA := hide (allS_succ ha.out hgt)
          clear hgt tail
          go_upto_region 8 with fail
          obtain ⟨w6, hE6, hw6⟩ : ∃ w6 : World, Ext w5 w6 ∧ w6 = w5 := ⟨w5, Ext.refl _, rfl⟩
          rw [← hw6]
          clear hw6
          obtain ⟨hO6, hI6, hF6⟩ := And.intro (hO5.ext hE6) (And.intro (hI5.ext hE6) (hF5.trans hE6))
          clear hO5 hI5 hx0 hx2 hO hB5
          have HBH := hide (slB_head (n := a.size) b0 b1 b2 b3)
          have HEQ := hide (slB_eq 0 d a)
          obtain ⟨e0, e1⟩ := hi_lo b0 b1
          have e2 : IntKind.u8.wrap d = d := by rw [u8_of]; omega
          have e3 : IntKind.u8.wrap (a.size : Int) = (a.size : Int) := by rw [u8_of]; omega
          have keepS : ∀ w', Ext w6 w' → w'.cell? ⟨wr.heap.size, 0, none⟩ = some (.int .i64 0) ∧ w'.cell? ⟨wr.heap.size, 1, none⟩ = some (.int .i64 d) ∧ w'.cell? ⟨wr.heap.size, 2, none⟩ = some (.string a) := fun w' hE => GO3.out _ (hI6.ext hE)
          have hsz6 := hF6.size
          have hAp : Apart A4 (some ⟨wr.heap.size, 0, none⟩) := fun x y hx hy he => by
            simp at hy; subst hy
            have := hAb x.block (by rw [hx]; rfl)
            simp at he; omega
          refine wp_region_held_drew (S := fun w' => w'.cell? ⟨wr.heap.size, 0, none⟩ = some (.int .i64 0) ∧ w'.cell? ⟨wr.heap.size, 1, none⟩ = some (.int .i64 d) ∧ w'.cell? ⟨wr.heap.size, 2, none⟩ = some (.string a)) (by kernel_rfl) (keepS _ (Ext.drew (Ext.refl _))) (fun hHeld => ?_)
          refine held_take 0 rfl (by kernel_rfl) (by kernel_rfl) (by kernel_rfl) (fun _ _ _ _ h => h) (by rfl) ?_ ?_ (by assumption) ?_
          rotate_left
          · (intro wx hSx; (try dsimp only at hSx); go_simp)
            all_goals with_reducible rfl
          (try simp only [Act.put, List.setIfInBounds_toArray, List.set_cons_zero, List.set_cons_succ])
          refine held_take 1 rfl (by kernel_rfl) (by kernel_rfl) (by kernel_rfl) (fun _ _ _ _ h => h) (by rfl) ?_ ?_ (by assumption) ?_
          rotate_left
          · (intro wx hSx; (try dsimp only at hSx); go_simp)
            all_goals with_reducible rfl
          (try simp only [Act.put, List.setIfInBounds_toArray, List.set_cons_zero, List.set_cons_succ])
          refine held_take 2 rfl (by kernel_rfl) (by kernel_rfl) (by kernel_rfl) (fun _ _ _ _ h => h) (by rfl) ?_ ?_ (by assumption) ?_
          rotate_left
          · (intro wx hSx; (try dsimp only at hSx); go_simp)
            all_goals with_reducible rfl
          (try simp only [Act.put, List.setIfInBounds_toArray, List.set_cons_zero, List.set_cons_succ])
          refine held_take 3 rfl (by kernel_rfl) (by kernel_rfl) (by kernel_rfl) (fun _ _ _ _ h => h) (by rfl) ?_ ?_ (by assumption) ?_
          rotate_left
          · (intro wx hSx; (try dsimp only at hSx); go_simp)
            all_goals with_reducible rfl
          (try simp only [Act.put, List.setIfInBounds_toArray, List.set_cons_zero, List.set_cons_succ])
          refine held_take 4 rfl (by kernel_rfl) (by kernel_rfl) (by kernel_rfl) (fun _ _ _ _ h => h) (by rfl) ?_ ?_ (by assumption) ?_
          rotate_left
          · (intro wx hSx; (try dsimp only at hSx); go_simp)
            all_goals with_reducible rfl
          (try simp only [Act.put, List.setIfInBounds_toArray, List.set_cons_zero, List.set_cons_succ])
          refine held_take 5 rfl (by kernel_rfl) (by kernel_rfl) (by kernel_rfl) (fun _ _ _ _ h => h) (by rfl) ?_ ?_ (by assumption) ?_
          rotate_left
          · (intro wx hSx; (try dsimp only at hSx); go_simp)
            all_goals with_reducible rfl
          (try simp only [Act.put, List.setIfInBounds_toArray, List.set_cons_zero, List.set_cons_succ])
          refine held_take 6 rfl (by kernel_rfl) (by kernel_rfl) (by kernel_rfl) (fun _ _ _ _ h => h) (by rfl) ?_ ?_ (by assumption) ?_
          rotate_left
          · (intro wx hSx; (try dsimp only at hSx); go_simp)
            all_goals with_reducible rfl
          (try simp only [Act.put, List.setIfInBounds_toArray, List.set_cons_zero, List.set_cons_succ])
          refine held_take 7 rfl (by kernel_rfl) (by kernel_rfl) (by kernel_rfl) (fun _ _ _ _ h => h) (by rfl) ?_ ?_ (by assumption) ?_
          rotate_left
          · (intro wx hSx; (try dsimp only at hSx); go_simp)
            all_goals with_reducible rfl
          (try simp only [Act.put, List.setIfInBounds_toArray, List.set_cons_zero, List.set_cons_succ])
          refine held_take 8 rfl (by kernel_rfl) (by kernel_rfl) (by kernel_rfl) (fun _ _ _ _ h => h) (by rfl) ?_ ?_ (by assumption) ?_
          rotate_left
          · (intro wx hSx; (try dsimp only at hSx); go_simp)
            all_goals with_reducible rfl
          (try simp only [Act.put, List.setIfInBounds_toArray, List.set_cons_zero, List.set_cons_succ])
          refine held_take 9 rfl (by kernel_rfl) (by kernel_rfl) (by kernel_rfl) (fun _ _ _ _ h => h) (by rfl) ?_ ?_ (by assumption) ?_
          rotate_left
          · (intro wx hSx; (try dsimp only at hSx); go_simp)
            all_goals with_reducible rfl
          (try simp only [Act.put, List.setIfInBounds_toArray, List.set_cons_zero, List.set_cons_succ])
          refine held_take 10 rfl (by kernel_rfl) (by kernel_rfl) (by kernel_rfl) (fun _ _ _ _ h => h) (by rfl) ?_ ?_ (by assumption) ?_
          rotate_left
          · (intro wx hSx; (try dsimp only at hSx); go_simp)
            all_goals with_reducible rfl
          (try simp only [Act.put, List.setIfInBounds_toArray, List.set_cons_zero, List.set_cons_succ])
          refine held_take 11 rfl (by kernel_rfl) (by kernel_rfl) (by kernel_rfl) (fun _ _ _ _ h => h) (by rfl) ?_ ?_ (by assumption) ?_
          rotate_left
          · (intro wx hSx; (try dsimp only at hSx); go_simp)
            all_goals with_reducible rfl
          (try simp only [Act.put, List.setIfInBounds_toArray, List.set_cons_zero, List.set_cons_succ])
          refine held_take 12 rfl (by kernel_rfl) (by kernel_rfl) (by kernel_rfl) (fun _ _ _ _ h => h) (by rfl) ?_ ?_ (by assumption) ?_
          rotate_left
          · (intro wx hSx; (try dsimp only at hSx); go_simp)
            all_goals with_reducible rfl
          (try simp only [Act.put, List.setIfInBounds_toArray, List.set_cons_zero, List.set_cons_succ])
          refine held_take 13 rfl (by kernel_rfl) (by kernel_rfl) (by kernel_rfl) (fun _ _ _ _ h => h) (by rfl) ?_ ?_ (by assumption) ?_
          rotate_left
          · (intro wx hSx; (try dsimp only at hSx); go_simp)
            all_goals with_reducible rfl
          (try simp only [Act.put, List.setIfInBounds_toArray, List.set_cons_zero, List.set_cons_succ])
          refine held_take 14 rfl (by kernel_rfl) (by kernel_rfl) (by kernel_rfl) (fun _ _ _ _ h => h) (by rfl) ?_ ?_ (by assumption) ?_
          rotate_left
          · (intro wx hSx; (try dsimp only at hSx); go_simp)
            all_goals with_reducible rfl
          (try simp only [Act.put, List.setIfInBounds_toArray, List.set_cons_zero, List.set_cons_succ])
          refine held_take 17 rfl (by kernel_rfl) (by kernel_rfl) (by kernel_rfl) (fun _ _ _ _ h => h) (by rfl) ?_ ?_ (by assumption) ?_
          rotate_left
          · (intro wx hSx; (try dsimp only at hSx); go_simp)
            all_goals with_reducible rfl
          (try simp only [Act.put, List.setIfInBounds_toArray, List.set_cons_zero, List.set_cons_succ])
          refine held_take 18 rfl (by kernel_rfl) (by kernel_rfl) (by kernel_rfl) (fun _ _ _ _ h => h) (by rfl) ?_ ?_ (by assumption) ?_
          rotate_left
          · (intro wx hSx; (try dsimp only at hSx); go_simp)
            all_goals with_reducible rfl
          (try simp only [Act.put, List.setIfInBounds_toArray, List.set_cons_zero, List.set_cons_succ])
          refine held_call 15 rfl (by kernel_rfl) (fun K hK => ?_)
          go_simp
          refine hK.out _ _ (keepS _ ((Ext.drew (Ext.refl _)).alloc _)) (fun hHeld => ?_)
          clear hK K
          (try simp only [Act.put, List.setIfInBounds_toArray, List.set_cons_zero, List.set_cons_succ])
          refine held_call 16 rfl (by kernel_rfl) (fun K hK => ?_)
          have hL : Sl (w6.drew.alloc (.cells #[.int .u8 (0 / 256), .int .u8 (0 % 256), .int .u8 d, .int .u8 (a.size : Nat)] 5)) (some ⟨w6.heap.size, 0, none⟩) 4 4 [.int .u8 (0 / 256), .int .u8 (0 % 256), .int .u8 d, .int .u8 (a.size : Nat)] :=
            Sl.lit w6.drew _ 5 4 rfl (by omega) (by simp [Value.oneCell'])
          refine step8b rfl (.tmp 30) (.tmp 45) rfl w1.heap.size A4 (28 * k) c4 _ rfl (hO6.ext ((Ext.refl w6).drew.alloc _)) _ 4 4 _ rfl hL (by omega) (by simp; omega) ?_
          intro A7 c7 w7 hO7 hG7 hGr7
          have hI7 : Own w7 wr.heap.size 39 (some ⟨wr.heap.size, 0, none⟩) 3 3 (sV (0, d, a)) := (hI6.ext ((Ext.refl w6).drew.alloc _)).kept hG7 hAp.row
          have hF7 := (hF6.drew.alloc _).grown hG7 (fun q hq => (hO6.block q hq).1)
          have hAp7 : Apart A7 (some ⟨wr.heap.size, 0, none⟩) := hAp.grew hGr7 hI6 (by simp)
          refine hK.out _ _ (GO3.out _ hI7) (fun hHeld => ?_)
          clear hK K hL hGr7 hG7
          (try simp only [Act.put, List.setIfInBounds_toArray, List.set_cons_zero, List.set_cons_succ])
          refine held_call 19 rfl (by kernel_rfl) (fun K hK => ?_)
          refine step8s rfl (.tmp 46) (.tmp 48) rfl w1.heap.size A7 (28 * k + 4) c7 _ rfl hO7 a rfl (by omega) hF7.size ?_
          intro A8 c8 w8 hO8 hG8
          have hI8 := hI7.kept hG8 hAp7.row
          have hF8 := hF7.grown hG8 (fun q hq => (hO7.block q hq).1)
          refine hK.out _ _ (GO3.out _ hI8) (fun hHeld => ?_)
          clear hK K
          (try simp only [Act.put, List.setIfInBounds_toArray, List.set_cons_zero, List.set_cons_succ])
          refine held_take 20 rfl (by kernel_rfl) (by kernel_rfl) (by kernel_rfl) (fun _ _ _ _ h => h) (by rfl) ?_ ?_ (by assumption) ?_
          rotate_left
          · (intro wx hSx; (try dsimp only at hSx); go_simp)
            all_goals with_reducible rfl
          (try simp only [Act.put, List.setIfInBounds_toArray, List.set_cons_zero, List.set_cons_succ])
          refine wpAnyH_done (by kernel_rfl) ?_ _
          clear hHeld keepS hG8 hI7 hO7 hF7 hAp7
          have hx2 := (GO3.out _ hI8).2.2
          go_wp2_with (at_builtin; refine app8z rfl (.tmp 50) (.tmp 54) rfl w1.heap.size _ (28 * k + 4 + a.size) c8 _ rfl hO8 _ (24 - a.size) rfl (by omega) (by omega) hF8.size ?_; intro A9 c9 w9 hO9 hG9; have hF9 := hF8.grown hG9 (fun q hq => (hO8.block q hq).1))
          rw [← HBH.out, strCells_by8, show (Value.int .u8 0) = Value.int .u8 ((0 : Nat) : Int) from rfl, by8_rep, ← by8_append, ← by8_append, ← by8_append, show ∀ (p q r s : List Nat), p ++ q ++ r ++ s = p ++ (q ++ (r ++ s)) from fun _ _ _ _ => by simp, ← HEQ.out, ← HS.out, show 28 * k + 4 + a.size + (24 - a.size) = 28 * (k + 1) from by omega] at hO9
          go_roundw
          case rel => exact ⟨k + 1, c9, A9, by omega, by go_num, by simp; omega, hO9, HA, hF9⟩
          case measure => simp [intOf]; omega
        case inr.inl =>
          have HA := hide (allS_succ ha.out hgt)
          have HF2 := hide (fun w => by have := HF.out w; rw [hf] at this; exact this)
          have hi' : (i != 0) = true := by simpa using hi
          clear hgt hf tail
          go_wp2_with (with_reducible refine ag_load rfl 40 (.tmp 1) rfl w.heap.size 12 w.heap.size 40 _ rfl hB5 agg_slots info_slots ?_)
          refine (HF2.out _).mono ?_
          rintro e w6 ⟨rfl, hE6⟩
          go_upto_region 8 with fail
          obtain ⟨hO6, hI6, hF6⟩ := And.intro (hO5.ext hE6) (And.intro (hI5.ext hE6) (hF5.trans hE6))
          clear hO5 hI5 hx0 hx2 hO hB5
          have HBH := hide (slB_head (n := a.size) b0 b1 b2 b3)
          have HEQ := hide (slB_eq i d a)
          obtain ⟨e0, e1⟩ := hi_lo b0 b1
          have e2 : IntKind.u8.wrap d = d := by rw [u8_of]; omega
          have e3 : IntKind.u8.wrap (a.size : Int) = (a.size : Int) := by rw [u8_of]; omega
          have keepS : ∀ w', Ext w6 w' → w'.cell? ⟨wr.heap.size, 0, none⟩ = some (.int .i64 i) ∧ w'.cell? ⟨wr.heap.size, 1, none⟩ = some (.int .i64 d) ∧ w'.cell? ⟨wr.heap.size, 2, none⟩ = some (.string a) := fun w' hE => GO3.out _ (hI6.ext hE)
          have hsz6 := hF6.size
          have hAp : Apart A4 (some ⟨wr.heap.size, 0, none⟩) := fun x y hx hy he => by
            simp at hy; subst hy
            have := hAb x.block (by rw [hx]; rfl)
            simp at he; omega
          refine wp_region_held_drew (S := fun w' => w'.cell? ⟨wr.heap.size, 0, none⟩ = some (.int .i64 i) ∧ w'.cell? ⟨wr.heap.size, 1, none⟩ = some (.int .i64 d) ∧ w'.cell? ⟨wr.heap.size, 2, none⟩ = some (.string a)) (by kernel_rfl) (keepS _ (Ext.drew (Ext.refl _))) (fun hHeld => ?_)
          refine held_take 0 rfl (by kernel_rfl) (by kernel_rfl) (by kernel_rfl) (fun _ _ _ _ h => h) (by rfl) ?_ ?_ (by assumption) ?_
          rotate_left
          · (intro wx hSx; (try dsimp only at hSx); go_simp)
            all_goals with_reducible rfl
          (try simp only [Act.put, List.setIfInBounds_toArray, List.set_cons_zero, List.set_cons_succ])
          refine held_take 1 rfl (by kernel_rfl) (by kernel_rfl) (by kernel_rfl) (fun _ _ _ _ h => h) (by rfl) ?_ ?_ (by assumption) ?_
          rotate_left
          · (intro wx hSx; (try dsimp only at hSx); go_simp)
            all_goals with_reducible rfl
          (try simp only [Act.put, List.setIfInBounds_toArray, List.set_cons_zero, List.set_cons_succ])
          refine held_take 2 rfl (by kernel_rfl) (by kernel_rfl) (by kernel_rfl) (fun _ _ _ _ h => h) (by rfl) ?_ ?_ (by assumption) ?_
          rotate_left
          · (intro wx hSx; (try dsimp only at hSx); go_simp)
            all_goals with_reducible rfl
          (try simp only [Act.put, List.setIfInBounds_toArray, List.set_cons_zero, List.set_cons_succ])
          refine held_take 3 rfl (by kernel_rfl) (by kernel_rfl) (by kernel_rfl) (fun _ _ _ _ h => h) (by rfl) ?_ ?_ (by assumption) ?_
          rotate_left
          · (intro wx hSx; (try dsimp only at hSx); go_simp)
            all_goals with_reducible rfl
          (try simp only [Act.put, List.setIfInBounds_toArray, List.set_cons_zero, List.set_cons_succ])
          refine held_take 4 rfl (by kernel_rfl) (by kernel_rfl) (by kernel_rfl) (fun _ _ _ _ h => h) (by rfl) ?_ ?_ (by assumption) ?_
          rotate_left
          · (intro wx hSx; (try dsimp only at hSx); go_simp)
            all_goals with_reducible rfl
          (try simp only [Act.put, List.setIfInBounds_toArray, List.set_cons_zero, List.set_cons_succ])
          refine held_take 5 rfl (by kernel_rfl) (by kernel_rfl) (by kernel_rfl) (fun _ _ _ _ h => h) (by rfl) ?_ ?_ (by assumption) ?_
          rotate_left
          · (intro wx hSx; (try dsimp only at hSx); go_simp)
            all_goals with_reducible rfl
          (try simp only [Act.put, List.setIfInBounds_toArray, List.set_cons_zero, List.set_cons_succ])
          refine held_take 6 rfl (by kernel_rfl) (by kernel_rfl) (by kernel_rfl) (fun _ _ _ _ h => h) (by rfl) ?_ ?_ (by assumption) ?_
          rotate_left
          · (intro wx hSx; (try dsimp only at hSx); go_simp)
            all_goals with_reducible rfl
          (try simp only [Act.put, List.setIfInBounds_toArray, List.set_cons_zero, List.set_cons_succ])
          refine held_take 7 rfl (by kernel_rfl) (by kernel_rfl) (by kernel_rfl) (fun _ _ _ _ h => h) (by rfl) ?_ ?_ (by assumption) ?_
          rotate_left
          · (intro wx hSx; (try dsimp only at hSx); go_simp)
            all_goals with_reducible rfl
          (try simp only [Act.put, List.setIfInBounds_toArray, List.set_cons_zero, List.set_cons_succ])
          refine held_take 8 rfl (by kernel_rfl) (by kernel_rfl) (by kernel_rfl) (fun _ _ _ _ h => h) (by rfl) ?_ ?_ (by assumption) ?_
          rotate_left
          · (intro wx hSx; (try dsimp only at hSx); go_simp)
            all_goals with_reducible rfl
          (try simp only [Act.put, List.setIfInBounds_toArray, List.set_cons_zero, List.set_cons_succ])
          refine held_take 9 rfl (by kernel_rfl) (by kernel_rfl) (by kernel_rfl) (fun _ _ _ _ h => h) (by rfl) ?_ ?_ (by assumption) ?_
          rotate_left
          · (intro wx hSx; (try dsimp only at hSx); go_simp)
            all_goals with_reducible rfl
          (try simp only [Act.put, List.setIfInBounds_toArray, List.set_cons_zero, List.set_cons_succ])
          refine held_take 10 rfl (by kernel_rfl) (by kernel_rfl) (by kernel_rfl) (fun _ _ _ _ h => h) (by rfl) ?_ ?_ (by assumption) ?_
          rotate_left
          · (intro wx hSx; (try dsimp only at hSx); go_simp)
            all_goals with_reducible rfl
          (try simp only [Act.put, List.setIfInBounds_toArray, List.set_cons_zero, List.set_cons_succ])
          refine held_take 11 rfl (by kernel_rfl) (by kernel_rfl) (by kernel_rfl) (fun _ _ _ _ h => h) (by rfl) ?_ ?_ (by assumption) ?_
          rotate_left
          · (intro wx hSx; (try dsimp only at hSx); go_simp)
            all_goals with_reducible rfl
          (try simp only [Act.put, List.setIfInBounds_toArray, List.set_cons_zero, List.set_cons_succ])
          refine held_take 12 rfl (by kernel_rfl) (by kernel_rfl) (by kernel_rfl) (fun _ _ _ _ h => h) (by rfl) ?_ ?_ (by assumption) ?_
          rotate_left
          · (intro wx hSx; (try dsimp only at hSx); go_simp)
            all_goals with_reducible rfl
          (try simp only [Act.put, List.setIfInBounds_toArray, List.set_cons_zero, List.set_cons_succ])
          refine held_take 13 rfl (by kernel_rfl) (by kernel_rfl) (by kernel_rfl) (fun _ _ _ _ h => h) (by rfl) ?_ ?_ (by assumption) ?_
          rotate_left
          · (intro wx hSx; (try dsimp only at hSx); go_simp)
            all_goals with_reducible rfl
          (try simp only [Act.put, List.setIfInBounds_toArray, List.set_cons_zero, List.set_cons_succ])
          refine held_take 14 rfl (by kernel_rfl) (by kernel_rfl) (by kernel_rfl) (fun _ _ _ _ h => h) (by rfl) ?_ ?_ (by assumption) ?_
          rotate_left
          · (intro wx hSx; (try dsimp only at hSx); go_simp)
            all_goals with_reducible rfl
          (try simp only [Act.put, List.setIfInBounds_toArray, List.set_cons_zero, List.set_cons_succ])
          refine held_take 17 rfl (by kernel_rfl) (by kernel_rfl) (by kernel_rfl) (fun _ _ _ _ h => h) (by rfl) ?_ ?_ (by assumption) ?_
          rotate_left
          · (intro wx hSx; (try dsimp only at hSx); go_simp)
            all_goals with_reducible rfl
          (try simp only [Act.put, List.setIfInBounds_toArray, List.set_cons_zero, List.set_cons_succ])
          refine held_take 18 rfl (by kernel_rfl) (by kernel_rfl) (by kernel_rfl) (fun _ _ _ _ h => h) (by rfl) ?_ ?_ (by assumption) ?_
          rotate_left
          · (intro wx hSx; (try dsimp only at hSx); go_simp)
            all_goals with_reducible rfl
          (try simp only [Act.put, List.setIfInBounds_toArray, List.set_cons_zero, List.set_cons_succ])
          refine held_call 15 rfl (by kernel_rfl) (fun K hK => ?_)
          go_simp
          refine hK.out _ _ (keepS _ ((Ext.drew (Ext.refl _)).alloc _)) (fun hHeld => ?_)
          clear hK K
          (try simp only [Act.put, List.setIfInBounds_toArray, List.set_cons_zero, List.set_cons_succ])
          refine held_call 16 rfl (by kernel_rfl) (fun K hK => ?_)
          have hL : Sl (w6.drew.alloc (.cells #[.int .u8 (i / 256), .int .u8 (i % 256), .int .u8 d, .int .u8 (a.size : Nat)] 5)) (some ⟨w6.heap.size, 0, none⟩) 4 4 [.int .u8 (i / 256), .int .u8 (i % 256), .int .u8 d, .int .u8 (a.size : Nat)] :=
            Sl.lit w6.drew _ 5 4 rfl (by omega) (by simp [Value.oneCell'])
          refine step8b rfl (.tmp 30) (.tmp 45) rfl w1.heap.size A4 (28 * k) c4 _ rfl (hO6.ext ((Ext.refl w6).drew.alloc _)) _ 4 4 _ rfl hL (by omega) (by simp; omega) ?_
          intro A7 c7 w7 hO7 hG7 hGr7
          have hI7 : Own w7 wr.heap.size 39 (some ⟨wr.heap.size, 0, none⟩) 3 3 (sV (i, d, a)) := (hI6.ext ((Ext.refl w6).drew.alloc _)).kept hG7 hAp.row
          have hF7 := (hF6.drew.alloc _).grown hG7 (fun q hq => (hO6.block q hq).1)
          have hAp7 : Apart A7 (some ⟨wr.heap.size, 0, none⟩) := hAp.grew hGr7 hI6 (by simp)
          refine hK.out _ _ (GO3.out _ hI7) (fun hHeld => ?_)
          clear hK K hL hGr7 hG7
          (try simp only [Act.put, List.setIfInBounds_toArray, List.set_cons_zero, List.set_cons_succ])
          refine held_call 19 rfl (by kernel_rfl) (fun K hK => ?_)
          refine step8s rfl (.tmp 46) (.tmp 48) rfl w1.heap.size A7 (28 * k + 4) c7 _ rfl hO7 a rfl (by omega) hF7.size ?_
          intro A8 c8 w8 hO8 hG8
          have hI8 := hI7.kept hG8 hAp7.row
          have hF8 := hF7.grown hG8 (fun q hq => (hO7.block q hq).1)
          refine hK.out _ _ (GO3.out _ hI8) (fun hHeld => ?_)
          clear hK K
          (try simp only [Act.put, List.setIfInBounds_toArray, List.set_cons_zero, List.set_cons_succ])
          refine held_take 20 rfl (by kernel_rfl) (by kernel_rfl) (by kernel_rfl) (fun _ _ _ _ h => h) (by rfl) ?_ ?_ (by assumption) ?_
          rotate_left
          · (intro wx hSx; (try dsimp only at hSx); go_simp)
            all_goals with_reducible rfl
          (try simp only [Act.put, List.setIfInBounds_toArray, List.set_cons_zero, List.set_cons_succ])
          refine wpAnyH_done (by kernel_rfl) ?_ _
          clear hHeld keepS hG8 hI7 hO7 hF7 hAp7
          have hx2 := (GO3.out _ hI8).2.2
          go_wp2_with (at_builtin; refine app8z rfl (.tmp 50) (.tmp 54) rfl w1.heap.size _ (28 * k + 4 + a.size) c8 _ rfl hO8 _ (24 - a.size) rfl (by omega) (by omega) hF8.size ?_; intro A9 c9 w9 hO9 hG9; have hF9 := hF8.grown hG9 (fun q hq => (hO8.block q hq).1))
          rw [← HBH.out, strCells_by8, show (Value.int .u8 0) = Value.int .u8 ((0 : Nat) : Int) from rfl, by8_rep, ← by8_append, ← by8_append, ← by8_append, show ∀ (p q r s : List Nat), p ++ q ++ r ++ s = p ++ (q ++ (r ++ s)) from fun _ _ _ _ => by simp, ← HEQ.out, ← HS.out, show 28 * k + 4 + a.size + (24 - a.size) = 28 * (k + 1) from by omega] at hO9
          go_roundw
          case rel => exact ⟨k + 1, c9, A9, by omega, by go_num, by simp; omega, hO9, HA, hF9⟩
          case measure => simp [intOf]; omega
    · obtain rfl : k = 4 := by omega
      have H12 := hide (And.intro (show layDL ss = sealOf 68 (layBS ss 4) from if_pos ha.out) (show layDE ss = 0 from if_pos ha.out))
      have bb := Bytes.layBS ha.out
      clear ha hlt
      go_wp2_with fail
      refine (ref_Seal 68 _ _ _ _ _ hO.sl bb (by omega) (by omega) (by omega)).mono ?_
      rintro e w5 ⟨g5, c5, rfl, hO5, hE5⟩
      go_wp2
      go_ret2
      rw [H12.out.1, H12.out.2]
      exact ⟨_, _, _, rfl, by omega, hO5.low (by omega), hE1.trans (hE.trans hE5)⟩
end Go.Proofs.Ytngffmchjjpfbaa
