/- Lines of operations: bytes out of digits. -/
import Derived.Test.YtmfenegkeiipnaaDoorSpD
import Derived.Test.YtmfenegkeiipnaaDoorShelfL
namespace Go.Proofs.YtmfenegkeiipnaaDoor
set_option linter.unusedVariables false
set_option linter.unusedSimpArgs false
open Go.RowKit

theorem unhex_step : ∀ (k : Nat) (l : L8) (a b : UInt8), l[2 * k]? = some a → l[2 * k + 1]? = some b → unhex (l.take (2 * k + 2)) = unhex (l.take (2 * k)) ++ [UInt8.ofNat (digV a * 16 + digV b)]
  | 0, x :: y :: l, a, b, h1, h2 => by
    simp at h1 h2
    subst h1 h2
    rfl
  | 0, [x], a, b, h1, h2 => by simp at h2
  | 0, [], a, b, h1, h2 => by simp at h1
  | k + 1, x :: y :: l, a, b, h1, h2 => by
    have e1 : 2 * (k + 1) = 2 * k + 2 := by omega
    rw [e1] at h1 h2 ⊢
    simp only [List.getElem?_cons_succ] at h1
    rw [show 2 * k + 2 + 1 = 2 * k + 1 + 2 by omega] at h2
    simp only [List.getElem?_cons_succ] at h2
    have ih := unhex_step k l a b h1 h2
    simp only [List.take_succ_cons, unhex, ih, List.cons_append]
  | k + 1, [x], a, b, h1, h2 => by simp at h1
  | k + 1, [], a, b, h1, h2 => by simp at h1
theorem unhex_all : ∀ (k : Nat) (l : L8), 2 * k ≤ l.length → l.length ≤ 2 * k + 1 → unhex (l.take (2 * k)) = unhex l
  | 0, [], _, _ => rfl
  | 0, [x], _, _ => rfl
  | 0, x :: y :: l, _, h => by simp at h
  | k + 1, [], h, _ => by simp at h
  | k + 1, [x], h, _ => by simp at h; omega
  | k + 1, x :: y :: l, h1, h2 => by
    simp at h1 h2
    have ih := unhex_all k l (by omega) (by omega)
    rw [show 2 * (k + 1) = 2 * k + 2 by omega]
    simp only [List.take_succ_cons, unhex, ih]
theorem unhex_len : ∀ (k : Nat) (l : L8), l.length = 2 * k → (unhex l).length = k
  | 0, [], _ => rfl
  | k + 1, x :: y :: l, h => by
    simp only [unhex, List.length_cons]
    rw [unhex_len k l (by simp at h; omega)]
  | k + 1, [x], h => by simp at h; omega
  | k + 1, [], h => by simp at h
  | 0, x :: l, h => by simp at h
theorem or_u8 {m n : Nat} (h : m < 16) (h2 : n < 16) : bits BinOp.or IntKind.u8 ((m : Int) * 16) (n : Int) = ((m * 16 + n : Nat) : Int) := by
  have : ∀ (a : Fin 16) (b : Fin 16), bits BinOp.or IntKind.u8 (((a.1 : Nat) : Int) * 16) ((b.1 : Nat) : Int) = ((a.1 * 16 + b.1 : Nat) : Int) := by decide +kernel
  exact this ⟨m, h⟩ ⟨n, h2⟩
theorem or_i64 {m n : Nat} (h : m < 16) (h2 : n < 16) : bits BinOp.or IntKind.i64 ((m : Int) * 16) (n : Int) = ((m * 16 + n : Nat) : Int) := by
  have : ∀ (a : Fin 16) (b : Fin 16), bits BinOp.or IntKind.i64 (((a.1 : Nat) : Int) * 16) ((b.1 : Nat) : Int) = ((a.1 * 16 + b.1 : Nat) : Int) := by decide +kernel
  exact this ⟨m, h⟩ ⟨n, h2⟩
theorem shl_u8 {m : Nat} (h : m < 16) : IntKind.u8.wrap ((m : Int) * 16) = (m : Int) * 16 := by
  simp [IntKind.wrap, IntKind.bits, IntKind.signed]
  omega
set_option maxRecDepth 100000 in
set_option maxHeartbeats 2000000 in
theorem q_bytes (l : L8) (w : World) (hn : l.length ≤ 1000000) : Calls Tryd.prog 23 #[.string (toB l)] w fun e w' => ∃ (A : Option Addr) (m c : Nat), e = .returned (.slice A m c) ∧ Own w' w.heap.size 5 A m c (by8 (nat8 (unhex l))) ∧ Ext w w' := by
  obtain ⟨n, hnl⟩ : ∃ n, n = l.length := ⟨_, rfl⟩
  have hsz := toB_size l
  obtain ⟨s, hs⟩ : ∃ s, s = toB l := ⟨_, rfl⟩
  rw [← hnl] at hsz hn
  rw [← hs] at hsz ⊢
  have HS := hide hs
  have HL := hide hnl
  clear hs hnl
  go_enter Tryd.func23, Tryd.ntmps23
  go_wp2_with fail
  go_loopw [3, 4] (fun u v wr => ∃ (k c1 : Nat) (A1 : Option Addr), 2 * k ≤ n ∧ v = .int .i64 ((2 * k : Nat) : Int) ∧ u = .slice A1 k c1 ∧ Own wr w.heap.size 5 A1 k c1 (by8 (nat8 (unhex (l.take (2 * k))))) ∧ Ext w wr) (fun _ v _ => n + 2 - (intOf v).toNat)
  case atStart => exact ⟨0, 0, none, by omega, rfl, rfl, Own.nilS _ _ _, Ext.refl w⟩
  case round =>
    obtain ⟨k, c1, A1, hk, rfl, rfl, hO, hE⟩ := hrel
    obtain ⟨j, hj⟩ : ∃ j, j = 2 * k := ⟨_, rfl⟩
    rw [← hj] at hk hO ⊢
    have W0 : IntKind.i64.wrap ((j : Int) + 1) = (j : Int) + 1 := IntWalk.i64_in _ (by omega)
    have HJ := hide hj
    have hjk : k ≤ j := by omega
    clear hj
    by_cases hlt : j + 1 < n
    · have i2 : (j : Int) < (n : Int) := by omega
      have i3 : j < n := by omega
      have i4 : (j : Int) + 1 < (n : Int) := by omega
      have i6 : (0 : Int) ≤ (j : Int) + 1 := by omega
      have W3 : IntKind.i64.wrap ((j : Int) + 2) = (j : Int) + 2 := IntWalk.i64_in _ (by omega)
      have i5 : j + 1 < n := hlt
      obtain ⟨b, hb⟩ : ∃ b, l[j]? = some b := ⟨_, List.getElem?_eq_getElem (by rw [← HL.out]; omega)⟩
      obtain ⟨b2, hb2⟩ : ∃ b, l[j + 1]? = some b := ⟨_, List.getElem?_eq_getElem (by rw [← HL.out]; omega)⟩
      have hat : ∀ h : j < s.size, s[j]'h = b := by
        have := HS.out
        subst this
        exact fun h => toB_at hb h
      have hat2 : ∀ h : j + 1 < s.size, s[j + 1]'h = b2 := by
        have := HS.out
        subst this
        exact fun h => toB_at hb2 h
      have HB := hide (show by8 (nat8 (unhex (l.take (j + 2)))) = by8 (nat8 (unhex (l.take j))) ++ [Value.int .u8 ((digV b * 16 + digV b2 : Nat) : Int)] by
        rw [HJ.out] at hb hb2 ⊢
        rw [unhex_step k l b b2 hb hb2, nat8_app, by8_append]
        have := digV_lt b
        have := digV_lt b2
        simp only [nat8, by8, List.map_cons, List.map_nil]
        rw [UInt8.toNat_ofNat_of_lt' (by show _ < 256; omega)])
      have Q1 := hide (q_digit b)
      have Q2 := hide (q_digit b2)
      have hd1 := digV_lt b
      have hd2 := digV_lt b2
      generalize digV b = x1 at *
      generalize digV b2 = x2 at *
      have W1 := shl_u8 hd1
      have W2 := hide (or_u8 hd1 hd2)
      clear hb hb2
      go_wp2_with fail
      refine wp_region_held_drew (S := (fun w' => Ext w w')) (by kernel_rfl) (hE.drew) (fun hHeld => ?_)
      refine held_take 0 rfl (by kernel_rfl) (by kernel_rfl) (by kernel_rfl) (fun _ _ _ _ h => h) (by rfl) ?_ ?_ (by assumption) ?_
      rotate_left
      · (intro wx hSx; (try dsimp only at hSx); go_simp)
        all_goals with_reducible rfl
      (try simp only [Act.put, List.setIfInBounds_toArray, List.set_cons_zero, List.set_cons_succ])
      refine held_take 1 rfl (by kernel_rfl) (by kernel_rfl) (by kernel_rfl) (fun _ _ _ _ h => h) (by rfl) ?_ ?_ (by assumption) ?_
      rotate_left
      · (intro wx hSx; (try dsimp only at hSx); go_simp)
        all_goals with_reducible rfl
      (try simp only [Act.put, List.setIfInBounds_toArray, List.set_cons_zero, List.set_cons_succ])
      refine held_take 2 rfl (by kernel_rfl) (by kernel_rfl) (by kernel_rfl) (fun _ _ _ _ h => h) (by rfl) ?_ ?_ (by assumption) ?_
      rotate_left
      · (intro wx hSx; (try dsimp only at hSx); go_simp)
        all_goals with_reducible rfl
      (try simp only [Act.put, List.setIfInBounds_toArray, List.set_cons_zero, List.set_cons_succ])
      refine held_take 3 rfl (by kernel_rfl) (by kernel_rfl) (by kernel_rfl) (fun _ _ _ _ h => h) (by rfl) ?_ ?_ (by assumption) ?_
      rotate_left
      · (intro wx hSx; (try dsimp only at hSx); go_simp)
        all_goals with_reducible rfl
      (try simp only [Act.put, List.setIfInBounds_toArray, List.set_cons_zero, List.set_cons_succ])
      refine held_take 6 rfl (by kernel_rfl) (by kernel_rfl) (by kernel_rfl) (fun _ _ _ _ h => h) (by rfl) ?_ ?_ (by assumption) ?_
      rotate_left
      · (intro wx hSx; (try dsimp only at hSx); go_simp)
        all_goals with_reducible rfl
      (try simp only [Act.put, List.setIfInBounds_toArray, List.set_cons_zero, List.set_cons_succ])
      refine held_take 7 rfl (by kernel_rfl) (by kernel_rfl) (by kernel_rfl) (fun _ _ _ _ h => h) (by rfl) ?_ ?_ (by assumption) ?_
      rotate_left
      · (intro wx hSx; (try dsimp only at hSx); go_simp)
        all_goals with_reducible rfl
      (try simp only [Act.put, List.setIfInBounds_toArray, List.set_cons_zero, List.set_cons_succ])
      refine held_take 8 rfl (by kernel_rfl) (by kernel_rfl) (by kernel_rfl) (fun _ _ _ _ h => h) (by rfl) ?_ ?_ (by assumption) ?_
      rotate_left
      · (intro wx hSx; (try dsimp only at hSx); go_simp)
        all_goals with_reducible rfl
      (try simp only [Act.put, List.setIfInBounds_toArray, List.set_cons_zero, List.set_cons_succ])
      refine held_take 9 rfl (by kernel_rfl) (by kernel_rfl) (by kernel_rfl) (fun _ _ _ _ h => h) (by rfl) ?_ ?_ (by assumption) ?_
      rotate_left
      · (intro wx hSx; (try dsimp only at hSx); go_simp)
        all_goals with_reducible rfl
      (try simp only [Act.put, List.setIfInBounds_toArray, List.set_cons_zero, List.set_cons_succ])
      refine held_call 4 rfl (by kernel_rfl) (fun K hK => ?_)
      go_simp
      go_at_call 35
      refine (Q1.out _).mono ?_
      rintro e w5 ⟨rfl, rfl⟩
      go_wp2_with fail
      refine hK.out _ _ hE.drew (fun hHeld => ?_)
      clear hK K
      (try simp only [Act.put, List.setIfInBounds_toArray, List.set_cons_zero, List.set_cons_succ])
      refine held_take 5 rfl (by kernel_rfl) (by kernel_rfl) (by kernel_rfl) (fun _ _ _ _ h => h) (by rfl) ?_ ?_ (by assumption) ?_
      rotate_left
      · (intro wx hSx; (try dsimp only at hSx); go_simp)
        all_goals with_reducible rfl
      (try simp only [Act.put, List.setIfInBounds_toArray, List.set_cons_zero, List.set_cons_succ])
      refine held_call 10 rfl (by kernel_rfl) (fun K hK => ?_)
      go_simp
      go_at_call 35
      refine (Q2.out _).mono ?_
      rintro e w5 ⟨rfl, rfl⟩
      go_wp2_with fail
      refine hK.out _ _ hE.drew (fun hHeld => ?_)
      clear hK K
      (try simp only [Act.put, List.setIfInBounds_toArray, List.set_cons_zero, List.set_cons_succ])
      refine held_take 11 rfl (by kernel_rfl) (by kernel_rfl) (by kernel_rfl) (fun _ _ _ _ h => h) (by rfl) ?_ ?_ (by assumption) ?_
      rotate_left
      · (intro wx hSx; (try dsimp only at hSx); go_simp)
        all_goals with_reducible rfl
      (try simp only [Act.put, List.setIfInBounds_toArray, List.set_cons_zero, List.set_cons_succ])
      rw [W2.out]
      refine held_call 12 rfl (by kernel_rfl) (fun K hK => ?_)
      go_simp
      refine hK.out _ _ ((hE.drew).alloc _) (fun hHeld => ?_)
      clear hK K
      (try simp only [Act.put, List.setIfInBounds_toArray, List.set_cons_zero, List.set_cons_succ])
      refine held_call 13 rfl (by kernel_rfl) (fun K hK => ?_)
      have hEs := hE.size
      refine step8 rfl (.tmp 12) (.tmp 24) rfl w.heap.size A1 k c1 _ rfl (hO.ext (((Ext.refl wr).alloc _).drew)) _ 1 1 _ rfl ((Sl.lit wr _ 5 1 rfl (by omega) (by simp [Value.oneCell'])).ext (Ext.refl _).drew) (by omega) (by simp; omega) ?_
      intro A2 c2 w2 hO2 hG2
      have hE2 : Ext w w2 := ((hE.alloc _).drew).grown hG2 (fun q hq => (hO.block q hq).1)
      refine hK.out _ _ hE2 (fun hHeld => ?_)
      clear hK K
      (try simp only [Act.put, List.setIfInBounds_toArray, List.set_cons_zero, List.set_cons_succ])
      refine held_take 14 rfl (by kernel_rfl) (by kernel_rfl) (by kernel_rfl) (fun _ _ _ _ h => h) (by rfl) ?_ ?_ (by assumption) ?_
      rotate_left
      · (intro wx hSx; (try dsimp only at hSx); go_simp)
        all_goals with_reducible rfl
      (try simp only [Act.put, List.setIfInBounds_toArray, List.set_cons_zero, List.set_cons_succ])
      refine wpAnyH_done (by kernel_rfl) ?_ _
      have hj := HJ.out
      go_wp2_with fail
      go_roundw
      case rel => exact ⟨k + 1, c2, A2, by omega, by rw [show 2 * (k + 1) = j + 2 by omega]; go_num, rfl, by rw [show 2 * (k + 1) = j + 2 by omega, HB.out]; simpa using hO2, hE2⟩
      case measure => simp [intOf]; omega
    · have i4 : ¬ (j : Int) + 1 < (n : Int) := by omega
      have ht : unhex (l.take j) = unhex l := by
        have hj := HJ.out
        rw [hj]
        exact unhex_all k l (by rw [← HL.out]; omega) (by rw [← HL.out]; omega)
      rw [ht] at hO
      have HO := hide hO
      clear hO ht
      go_wp2_with fail
      go_ret
      exact ⟨A1, k, c1, rfl, HO.out, hE⟩
theorem idx_dig (c : UInt8) : max (Lib.indexByte [48, 49, 50, 51, 52, 53, 54, 55, 56, 57, 97, 98, 99, 100, 101, 102] c) 0 = ((digV c : Nat) : Int) := by
  have : ∀ m : Fin 256, max (Lib.indexByte [48, 49, 50, 51, 52, 53, 54, 55, 56, 57, 97, 98, 99, 100, 101, 102] (UInt8.ofNat m.1)) 0 = ((digV (UInt8.ofNat m.1) : Nat) : Int) := by decide +kernel
  have h := this ⟨c.toNat, c.toNat_lt⟩
  rwa [UInt8.ofNat_toNat] at h
theorem q_IndexByte (b : UInt8) (w : World) : Calls Tryd.prog 34 #[.string ⟨#[48, 49, 50, 51, 52, 53, 54, 55, 56, 57, 97, 98, 99, 100, 101, 102]⟩, .int .u8 (b.toNat : Nat)] w fun e w' => ∃ x : Int, Hid (max x 0 = ((digV b : Nat) : Int)) ∧ e = .returned (.int .i64 x) ∧ w = w' := by
  refine (Tryd.strings_IndexByte ⟨#[48, 49, 50, 51, 52, 53, 54, 55, 56, 57, 97, 98, 99, 100, 101, 102]⟩ _ w).mono ?_
  rintro e w' ⟨h1, h2⟩
  exact ⟨_, idx_dig b, by rw [h1]; rw [show ((b.toNat : Nat) : Int).toNat.toUInt8 = b from UInt8.ofNat_toNat], h2.symm⟩
set_option maxRecDepth 100000 in
set_option maxHeartbeats 2000000 in
theorem f_heard (l : L8) (w : World) (hn : l.length ≤ 1000000) : Calls Tryd.prog 19 #[.string (toB l)] w fun e w' => e = .returned (.string (toB (unhex l))) ∧ Ext w w' := by
  obtain ⟨n, hnl⟩ : ∃ n, n = l.length := ⟨_, rfl⟩
  have hsz := toB_size l
  obtain ⟨s, hs⟩ : ∃ s, s = toB l := ⟨_, rfl⟩
  rw [← hnl] at hsz hn
  rw [← hs] at hsz ⊢
  have HS := hide hs
  have HL := hide hnl
  clear hs hnl
  go_enter Tryd.func19, Tryd.ntmps19
  go_wp2_with fail
  go_loopw [3, 4] (fun u v wr => ∃ (k c1 : Nat) (A1 : Option Addr), 2 * k ≤ n ∧ v = .int .i64 ((2 * k : Nat) : Int) ∧ u = .slice A1 k c1 ∧ Own wr w.heap.size 5 A1 k c1 (by8 (nat8 (unhex (l.take (2 * k))))) ∧ Ext w wr) (fun _ v _ => n + 2 - (intOf v).toNat)
  case atStart => exact ⟨0, 0, none, by omega, rfl, rfl, Own.nilS _ _ _, Ext.refl w⟩
  case round =>
    obtain ⟨k, c1, A1, hk, rfl, rfl, hO, hE⟩ := hrel
    obtain ⟨j, hj⟩ : ∃ j, j = 2 * k := ⟨_, rfl⟩
    rw [← hj] at hk hO ⊢
    have W0 : IntKind.i64.wrap ((j : Int) + 1) = (j : Int) + 1 := IntWalk.i64_in _ (by omega)
    have HJ := hide hj
    have hjk : k ≤ j := by omega
    clear hj
    by_cases hlt : j + 1 < n
    · have i2 : (j : Int) < (n : Int) := by omega
      have i3 : j < n := by omega
      have i4 : (j : Int) + 1 < (n : Int) := by omega
      have i6 : (0 : Int) ≤ (j : Int) + 1 := by omega
      have W3 : IntKind.i64.wrap ((j : Int) + 2) = (j : Int) + 2 := IntWalk.i64_in _ (by omega)
      have i5 : j + 1 < n := hlt
      obtain ⟨b, hb⟩ : ∃ b, l[j]? = some b := ⟨_, List.getElem?_eq_getElem (by rw [← HL.out]; omega)⟩
      obtain ⟨b2, hb2⟩ : ∃ b, l[j + 1]? = some b := ⟨_, List.getElem?_eq_getElem (by rw [← HL.out]; omega)⟩
      have hat : ∀ h : j < s.size, s[j]'h = b := by
        have := HS.out
        subst this
        exact fun h => toB_at hb h
      have hat2 : ∀ h : j + 1 < s.size, s[j + 1]'h = b2 := by
        have := HS.out
        subst this
        exact fun h => toB_at hb2 h
      have HB := hide (show by8 (nat8 (unhex (l.take (j + 2)))) = by8 (nat8 (unhex (l.take j))) ++ [Value.int .u8 ((digV b * 16 + digV b2 : Nat) : Int)] by
        rw [HJ.out] at hb hb2 ⊢
        rw [unhex_step k l b b2 hb hb2, nat8_app, by8_append]
        have := digV_lt b
        have := digV_lt b2
        simp only [nat8, by8, List.map_cons, List.map_nil]
        rw [UInt8.toNat_ofNat_of_lt' (by show _ < 256; omega)])
      have Q1 := hide (q_IndexByte b)
      have Q2 := hide (q_IndexByte b2)
      have hd1 := digV_lt b
      have hd2 := digV_lt b2
      generalize digV b = x1 at *
      generalize digV b2 = x2 at *
      have W1 : IntKind.i64.wrap ((x1 : Int) * 16) = (x1 : Int) * 16 := IntWalk.i64_in _ (by omega)
      have W2 := or_i64 hd1 hd2
      have W4 : IntKind.u8.wrap ((x1 * 16 + x2 : Nat) : Int) = ((x1 * 16 + x2 : Nat) : Int) := by simp [IntKind.wrap, IntKind.bits, IntKind.signed]; omega
      obtain ⟨v, hv⟩ : ∃ v, v = x1 * 16 + x2 := ⟨_, rfl⟩
      rw [← hv] at HB W2 W4
      clear hv hb hb2
      have hEs := hE.size
      go_wp2_with fail
      refine wp_region_held_drew (S := (fun w' => Ext w w')) (by kernel_rfl) (hE.drew) (fun hHeld => ?_)
      refine held_take 0 rfl (by kernel_rfl) (by kernel_rfl) (by kernel_rfl) (fun _ _ _ _ h => h) (by rfl) ?_ ?_ (by assumption) ?_
      rotate_left
      · (intro wx hSx; (try dsimp only at hSx); go_simp)
        all_goals with_reducible rfl
      (try simp only [Act.put, List.setIfInBounds_toArray, List.set_cons_zero, List.set_cons_succ])
      refine held_take 1 rfl (by kernel_rfl) (by kernel_rfl) (by kernel_rfl) (fun _ _ _ _ h => h) (by rfl) ?_ ?_ (by assumption) ?_
      rotate_left
      · (intro wx hSx; (try dsimp only at hSx); go_simp)
        all_goals with_reducible rfl
      (try simp only [Act.put, List.setIfInBounds_toArray, List.set_cons_zero, List.set_cons_succ])
      refine held_take 2 rfl (by kernel_rfl) (by kernel_rfl) (by kernel_rfl) (fun _ _ _ _ h => h) (by rfl) ?_ ?_ (by assumption) ?_
      rotate_left
      · (intro wx hSx; (try dsimp only at hSx); go_simp)
        all_goals with_reducible rfl
      (try simp only [Act.put, List.setIfInBounds_toArray, List.set_cons_zero, List.set_cons_succ])
      refine held_take 4 rfl (by kernel_rfl) (by kernel_rfl) (by kernel_rfl) (fun _ _ _ _ h => h) (by rfl) ?_ ?_ (by assumption) ?_
      rotate_left
      · (intro wx hSx; (try dsimp only at hSx); go_simp)
        all_goals with_reducible rfl
      (try simp only [Act.put, List.setIfInBounds_toArray, List.set_cons_zero, List.set_cons_succ])
      refine held_take 5 rfl (by kernel_rfl) (by kernel_rfl) (by kernel_rfl) (fun _ _ _ _ h => h) (by rfl) ?_ ?_ (by assumption) ?_
      rotate_left
      · (intro wx hSx; (try dsimp only at hSx); go_simp)
        all_goals with_reducible rfl
      (try simp only [Act.put, List.setIfInBounds_toArray, List.set_cons_zero, List.set_cons_succ])
      refine held_take 6 rfl (by kernel_rfl) (by kernel_rfl) (by kernel_rfl) (fun _ _ _ _ h => h) (by rfl) ?_ ?_ (by assumption) ?_
      rotate_left
      · (intro wx hSx; (try dsimp only at hSx); go_simp)
        all_goals with_reducible rfl
      (try simp only [Act.put, List.setIfInBounds_toArray, List.set_cons_zero, List.set_cons_succ])
      refine held_take 7 rfl (by kernel_rfl) (by kernel_rfl) (by kernel_rfl) (fun _ _ _ _ h => h) (by rfl) ?_ ?_ (by assumption) ?_
      rotate_left
      · (intro wx hSx; (try dsimp only at hSx); go_simp)
        all_goals with_reducible rfl
      (try simp only [Act.put, List.setIfInBounds_toArray, List.set_cons_zero, List.set_cons_succ])
      refine held_call 3 rfl (by kernel_rfl) (fun K hK => ?_)
      go_simp
      go_at_call 34
      refine (Q1.out _).mono ?_
      rintro e w5 ⟨y1, hy1, rfl, rfl⟩
      go_wp2_with fail
      refine hK.out _ _ hE.drew (fun hHeld => ?_)
      clear hK K
      (try simp only [Act.put, List.setIfInBounds_toArray, List.set_cons_zero, List.set_cons_succ])
      refine held_call 8 rfl (by kernel_rfl) (fun K hK => ?_)
      go_simp
      go_at_call 34
      refine (Q2.out _).mono ?_
      rintro e w5 ⟨y2, hy2, rfl, rfl⟩
      go_wp2_with fail
      refine hK.out _ _ hE.drew (fun hHeld => ?_)
      clear hK K
      (try simp only [Act.put, List.setIfInBounds_toArray, List.set_cons_zero, List.set_cons_succ])
      refine held_take 9 rfl (by kernel_rfl) (by kernel_rfl) (by kernel_rfl) (fun _ _ _ _ h => h) (by rfl) ?_ ?_ (by assumption) ?_
      rotate_left
      · (intro wx hSx; (try dsimp only at hSx); go_simp)
        all_goals with_reducible rfl
      (try simp only [Act.put, List.setIfInBounds_toArray, List.set_cons_zero, List.set_cons_succ])
      refine held_take 10 rfl (by kernel_rfl) (by kernel_rfl) (by kernel_rfl) (fun _ _ _ _ h => h) (by rfl) ?_ ?_ (by assumption) ?_
      rotate_left
      · (intro wx hSx; (try dsimp only at hSx); go_simp)
        all_goals with_reducible rfl
      (try simp only [Act.put, List.setIfInBounds_toArray, List.set_cons_zero, List.set_cons_succ])
      refine wpAnyH_done (by kernel_rfl) ?_ _
      have hm1 := hy1.out
      have hm2 := hy2.out
      go_wp2_with (at_builtin; refine app8 rfl (.tmp 23) (.tmp 31) rfl w.heap.size A1 k c1 _ rfl (hO.ext ((Ext.refl _).alloc _).drew) _ 1 1 _ rfl ((Sl.lit wr _ 5 1 rfl (by omega) (by simp [Value.oneCell'])).ext (Ext.refl _).drew) (by omega) (by simp; omega) ?_; intro A2 c2 w2 hO2 hG2; have hE2 : Ext w w2 := ((hE.alloc _).drew).grown hG2 (fun q hq => (hO.block q hq).1))
      have hj := HJ.out
      go_roundw
      case rel => exact ⟨k + 1, c2, A2, by omega, by rw [show 2 * (k + 1) = j + 2 by omega]; go_num, rfl, by rw [show 2 * (k + 1) = j + 2 by omega, HB.out]; simpa using hO2, hE2⟩
      case measure => simp [intOf]; omega
    · have i4 : ¬ (j : Int) + 1 < (n : Int) := by omega
      have ht : unhex (l.take j) = unhex l := by
        have hj := HJ.out
        rw [hj]
        exact unhex_all k l (by rw [← HL.out]; omega) (by rw [← HL.out]; omega)
      rw [ht] at hO
      have hcv2 := str8 hO.sl
      rw [strN_nat8] at hcv2
      clear hO ht
      go_wp2_with fail
      go_ret
      exact ⟨rfl, hE⟩
end Go.Proofs.YtmfenegkeiipnaaDoor
