/- Lines of operations: words for texts, and what the inner functions write. -/
import Derived.Test.YtmfenegkeiipnaaDoorSpQ
import Derived.Test.YtmfenegkeiipnaaDoorBase
import Derived.Test.YtmfenegkeiipnaaDoorFlat
import Derived.Lib.ConvBytes
import Derived.Deep.DeepCutAuto
import Derived.Deep.CutBlock
namespace Go.Proofs.YtmfenegkeiipnaaDoor
set_option linter.unusedVariables false
set_option linter.unusedSimpArgs false
open Go.RowKit

def toB (p : L8) : ByteArray := ⟨p.toArray⟩
theorem toB_data (p : L8) : (toB p).data.toList = p := rfl
theorem toB_size (p : L8) : (toB p).size = p.length := by simp [toB, ByteArray.size]
theorem toB_list (p : L8) : (toB p).toList = p := by rw [ByteArray.toList_eq]; rfl
theorem toB_of (s : ByteArray) : toB s.data.toList = s := by apply ByteArray.ext; simp [toB]
theorem toB_inj {p q : L8} (h : toB p = toB q) : p = q := by rw [← toB_data p, h]; rfl
theorem toB_app (p q : L8) : toB p ++ toB q = toB (p ++ q) := by
  apply ByteArray.ext
  simp [toB]
theorem ba_eq {x y : ByteArray} : (x.toList == y.toList) = decide (x = y) := by
  rw [ByteArray.toList_eq, ByteArray.toList_eq]
  by_cases h : x = y
  · subst h; simp
  · have : ¬ x.data.toList = y.data.toList := fun e => h (by
      apply ByteArray.ext
      exact Array.ext' e)
    simp only [h, decide_false]
    exact beq_eq_false_iff_ne.2 this
/-- Bytes as numbers. -/
def nat8 (l : L8) : List Nat := l.map UInt8.toNat
theorem nat8_len (l : L8) : (nat8 l).length = l.length := by simp [nat8]
theorem nat8_bytes (l : L8) : Bytes (nat8 l) := fun x hx => by
  obtain ⟨y, _, rfl⟩ := List.mem_map.1 hx
  exact y.toNat_lt
theorem nat8_app (a b : L8) : nat8 (a ++ b) = nat8 a ++ nat8 b := by simp [nat8]
theorem strN_nat8 (l : L8) : strN (nat8 l) = toB l := by
  unfold strN nat8 toB
  rw [List.map_map]
  congr 2
  conv => rhs; rw [← List.map_id l]
  apply List.map_congr_left
  intro a _
  exact UInt8.ofNat_toNat
theorem nat8_inj {a b : L8} : nat8 a = nat8 b ↔ a = b := by
  constructor
  · intro h
    have := congrArg strN h
    rw [strN_nat8, strN_nat8] at this
    exact toB_inj this
  · rintro rfl; rfl
theorem nat8_of {xs : List Nat} (h : Bytes xs) : nat8 (xs.map UInt8.ofNat) = xs := by
  unfold nat8
  rw [List.map_map]
  conv => rhs; rw [← List.map_id xs]
  apply List.map_congr_left
  intro a ha
  have := h a ha
  simp only [Function.comp_apply, id_eq]
  rw [UInt8.toNat_ofNat_of_lt' (by show _ < 256; omega)]
/-- Texts as values. -/
def vT (ps : List ByteArray) : List Value := ps.map Value.string
theorem vT_len (ps : List ByteArray) : (vT ps).length = ps.length := by simp [vT]
theorem vT_append (ps qs : List ByteArray) : vT (ps ++ qs) = vT ps ++ vT qs := by simp [vT]
theorem vT_one (ps : List ByteArray) : ∀ u ∈ vT ps, u.oneCell' = true := by
  intro u hu
  obtain ⟨_, _, rfl⟩ := List.mem_map.1 hu
  rfl
theorem Sl.atT {w : World} {A : Option Addr} {n c : Nat} {ps : List ByteArray} (h : Sl w A n c (vT ps)) {k : Nat} (hk : k < n) :
    ∃ b o x, A = some ⟨b, o, none⟩ ∧ Hid (ps[k]? = some x) ∧ w.cell? ⟨b, o + k, none⟩ = some (.string x) := by
  obtain ⟨b, o, u, hA, hu, hc⟩ := h.at_ hk
  have hu' := hu.out
  simp only [vT, List.getElem?_map, Option.map_eq_some_iff] at hu'
  obtain ⟨x, hx, rfl⟩ := hu'
  exact ⟨b, o, x, hA, hx, hc⟩
def mB (ps : List L8) : List ByteArray := ps.map toB
theorem mB_len (ps : List L8) : (mB ps).length = ps.length := by simp [mB]
theorem mB_append (ps qs : List L8) : mB (ps ++ qs) = mB ps ++ mB qs := by simp [mB]
theorem drop_cons8 {l : L8} {k : Nat} (hk : k < l.length) : l.drop k = l[k] :: l.drop (k + 1) := List.drop_eq_getElem_cons hk
theorem take_succ8 {l : L8} {k : Nat} (hk : k < l.length) : l.take (k + 1) = l.take k ++ [l[k]] := by rw [List.take_add_one, List.getElem?_eq_getElem hk]; rfl
theorem hexL_app : ∀ a b : L8, hexL (a ++ b) = hexL a ++ hexL b
  | [], b => rfl
  | x :: a, b => by simp [hexL, hexL_app a b]
/-- The world behind '[]byte(s)'. -/
theorem bw_ext (w : World) (e : TypeId) (s : ByteArray) : Ext w (Lib.bytesWorld w e s) := by
  refine ⟨rfl, rfl, rfl, ?_, ?_⟩
  · rw [Lib.bytesWorld_size]; omega
  · intro b hb
    exact Lib.bytesWorld_at_old w e s b hb
theorem conv_bytes (s : ByteArray) (w : World) : ∃ c w', (convert 9 22 (.string s)).run Tryd.prog w = .ok (.slice (some ⟨w.heap.size, 0, none⟩) s.size c) w' ∧ Ext w w' ∧ (∀ j (hj : j < s.data.toList.length), w'.cell? ⟨w.heap.size, j, none⟩ = some (.int .u8 ((s.data.toList[j]).toNat : Nat))) := by
  refine ⟨_, _, Lib.run_convert_string_bytes w 9 22 5 s Tryd.underlying9 Tryd.underlying22 Tryd.underlying5, bw_ext _ _ _, ?_⟩
  intro j hj
  rw [Lib.bytesWorld_cell w _ s j (by have h1 : s.data.toList.length = s.data.size := Array.length_toList; have h2 : s.size = s.data.size := rfl; omega)]
  rw [List.getD_eq_getElem?_getD, List.getElem?_eq_getElem hj]
  rfl
/-- append of bytes, as a step of a region that draws its order. -/
theorem step8 {w : World} {ops : Array Oper} {o : Oper} {a : Act} {K : Act → World → Prop} {Q : Exit → Act → World → Prop} {E : Prop} (hgd : o.guard = none) (s x : Operand)
    (ho : o.op = .call { callee := .builtin .append, args := #[s, x], argTypes := #[22, 22] })
    (B : Nat) (A : Option Addr) (n c : Nat) (xs : List Value) (hs : a.eval s = .slice A n c) (hown : Own w B 5 A n c xs)
    (A2 : Option Addr) (m c2 : Nat) (ys : List Value) (hx : a.eval x = .slice A2 m c2) (hsl : Sl w A2 m c2 ys) (hbytes : n + m ≤ 140737488355328) (hB : B ≤ w.heap.size)
    (h : ∀ A' c' w', Own w' B 5 A' (n + m) c' (xs ++ ys) → w.grownBy w' (Value.slice A n c).ownBlock → K (a.put o.dst (.slice A' (n + m) c')) w') :
    if Region.wanted o (yielded ops a.tmps) = true then Oper.wp Tryd.prog o a w K Q else E := by
  obtain ⟨i0, hi0, hz0, hz1, hz2⟩ := info_parts info_u8
  exact step_app hgd s x 22 ho B 5 i0 _ 1 Tryd.underlying22 hi0 hz0 hz1 hz2 rfl A n c xs hs hown A2 m c2 ys hx hsl (by omega) (by omega) hB h
theorem hex_step {l : L8} {k : Nat} {b : UInt8} {hi lo : Nat} (hb : l[k]? = some b) (h1 : hi = b.toNat / 16) (h2 : lo = b.toNat % 16) :
    by8 (nat8 (hexL (l.take (k + 1)))) = by8 (nat8 (hexL (l.take k))) ++ [Value.int .u8 ((hexD hi).toNat : Nat), Value.int .u8 ((hexD lo).toNat : Nat)] := by
  subst h1 h2
  rw [List.take_add_one, hb, hexL_app, nat8_app, by8_append]
  rfl
theorem dig_at {n : Nat} (h : n < (⟨#[48, 49, 50, 51, 52, 53, 54, 55, 56, 57, 97, 98, 99, 100, 101, 102]⟩ : ByteArray).size) : (⟨#[48, 49, 50, 51, 52, 53, 54, 55, 56, 57, 97, 98, 99, 100, 101, 102]⟩ : ByteArray)[n]'h = hexD n := by
  have : ∀ m : Fin 16, (⟨#[48, 49, 50, 51, 52, 53, 54, 55, 56, 57, 97, 98, 99, 100, 101, 102]⟩ : ByteArray)[m.1]'m.2 = hexD m.1 := by decide
  exact this ⟨n, h⟩
theorem and15 {x : Nat} (h : x < 256) : bits BinOp.and IntKind.u8 (x : Int) 15 = ((x % 16 : Nat) : Int) := by
  have : ∀ m : Fin 256, bits BinOp.and IntKind.u8 ((m.1 : Nat) : Int) 15 = ((m.1 % 16 : Nat) : Int) := by decide +kernel
  exact this ⟨x, h⟩
set_option maxRecDepth 100000 in
set_option maxHeartbeats 2000000 in
theorem f_told (l : L8) (w : World) (hn : l.length ≤ 1000000) : Calls Tryd.prog 25 #[.string (toB l)] w fun e w' => e = .returned (.string (toB (hexL l))) ∧ Ext w w' := by
  have hl : (toB l).data.toList.length = l.length := rfl
  obtain ⟨n, hnl⟩ : ∃ n, n = l.length := ⟨_, rfl⟩
  have hsz := toB_size l
  rw [← hnl] at hsz hn
  obtain ⟨c, w0, hcv, hE0, hcell⟩ := conv_bytes (toB l) w
  rw [hsz] at hcv
  have HC := hide hcell
  have HL := hide hnl
  clear hcell hnl hl hsz
  go_enter Tryd.func25, Tryd.ntmps25
  go_wp2_with fail
  go_loopw [3, 9] (fun s v wr => ∃ (k c1 : Nat) (A1 : Option Addr), k ≤ n ∧ v = .int .i64 k ∧ s = .slice A1 (2 * k) c1 ∧ Own wr w0.heap.size 5 A1 (2 * k) c1 (by8 (nat8 (hexL (l.take k)))) ∧ Ext w0 wr) (fun _ v _ => n - (intOf v).toNat)
  case atStart => exact ⟨0, 0, none, by omega, rfl, rfl, Own.nilS _ _ _, Ext.refl w0⟩
  case round =>
    obtain ⟨k, c1, A1, hk, rfl, rfl, hO, hE⟩ := hrel
    by_cases hlt : k < n
    · have i2 : (k : Int) < (n : Int) := by omega
      have hkl : k < l.length := by rw [← HL.out]; exact hlt
      have hck := hE.cell (HC.out k hkl)
      obtain ⟨b, hb⟩ : ∃ b, l[k]? = some b := ⟨_, List.getElem?_eq_getElem hkl⟩
      rw [show (toB l).data.toList[k]'hkl = b from Option.some.inj ((List.getElem?_eq_getElem hkl).symm.trans hb)] at hck
      have HB := hide hb
      clear hb hkl
      obtain ⟨x, hx⟩ : ∃ x, x = b.toNat := ⟨_, rfl⟩
      rw [← hx] at hck
      have hx256 : x < 256 := by rw [hx]; exact b.toNat_lt
      have d1 := hide (show (x : Int) / 16 = ((x / 16 : Nat) : Int) by omega)
      have h1 := hide (show x / 16 < 16 by omega)
      have HX := hide hx
      clear hx
      go_wp2_with fail
      refine wp_region_held_drew (S := (fun w' => Ext w0 w')) (by kernel_rfl) (hE.drew) (fun hHeld => ?_)
      refine held_take 0 rfl (by kernel_rfl) (by kernel_rfl) (by kernel_rfl) (fun _ _ _ _ h => h) (by rfl) ?_ ?_ (by assumption) ?_
      rotate_left
      · (intro wx hSx; (try dsimp only at hSx); go_simp)
        all_goals with_reducible rfl
      (try simp only [Act.put, List.setIfInBounds_toArray, List.set_cons_zero, List.set_cons_succ])
      refine held_take 1 rfl (by kernel_rfl) (by kernel_rfl) (by kernel_rfl) (fun _ _ _ _ h => h) (by rfl) ?_ ?_ (by assumption) ?_
      rotate_left
      · (intro wx hSx; (try dsimp only at hSx); go_simp)
        all_goals with_reducible rfl
      (try simp only [Act.put, List.setIfInBounds_toArray, List.set_cons_zero, List.set_cons_succ])
      refine held_take 2 rfl (by kernel_rfl) (by kernel_rfl) (by kernel_rfl) (fun _ _ _ _ h => h) (by rfl) ?_ ?_ (by assumption) ?_
      rotate_left
      · (intro wx hSx; (try dsimp only at hSx); go_simp)
        all_goals with_reducible rfl
      (try simp only [Act.put, List.setIfInBounds_toArray, List.set_cons_zero, List.set_cons_succ])
      rw [d1.out]
      obtain ⟨hi, hhi⟩ : ∃ hi, hi = x / 16 := ⟨_, rfl⟩
      rw [← hhi] at h1 d1 ⊢
      have d2 : (hi : Int) < 16 := by have := h1.out; omega
      have HHI := hide hhi
      clear hhi
      refine held_take 3 rfl (by kernel_rfl) (by kernel_rfl) (by kernel_rfl) (fun _ _ _ _ h => h) (by rfl) ?_ ?_ (by assumption) ?_
      rotate_left
      · (intro wx hSx; (try dsimp only at hSx); go_simp)
        all_goals with_reducible rfl
      (try simp only [Act.put, List.setIfInBounds_toArray, List.set_cons_zero, List.set_cons_succ])
      rw [dig_at]
      refine held_take 4 rfl (by kernel_rfl) (by kernel_rfl) (by kernel_rfl) (fun _ _ _ _ h => h) (by rfl) ?_ ?_ (by assumption) ?_
      rotate_left
      · (intro wx hSx; (try dsimp only at hSx); go_simp)
        all_goals with_reducible rfl
      (try simp only [Act.put, List.setIfInBounds_toArray, List.set_cons_zero, List.set_cons_succ])
      refine held_take 5 rfl (by kernel_rfl) (by kernel_rfl) (by kernel_rfl) (fun _ _ _ _ h => h) (by rfl) ?_ ?_ (by assumption) ?_
      rotate_left
      · (intro wx hSx; (try dsimp only at hSx); go_simp)
        all_goals with_reducible rfl
      (try simp only [Act.put, List.setIfInBounds_toArray, List.set_cons_zero, List.set_cons_succ])
      rw [and15 hx256]
      obtain ⟨lo, hlo⟩ : ∃ lo, lo = x % 16 := ⟨_, rfl⟩
      rw [← hlo]
      have d3 : (lo : Int) < 16 := by omega
      have HLO := hide hlo
      clear hlo
      refine held_take 6 rfl (by kernel_rfl) (by kernel_rfl) (by kernel_rfl) (fun _ _ _ _ h => h) (by rfl) ?_ ?_ (by assumption) ?_
      rotate_left
      · (intro wx hSx; (try dsimp only at hSx); go_simp)
        all_goals with_reducible rfl
      (try simp only [Act.put, List.setIfInBounds_toArray, List.set_cons_zero, List.set_cons_succ])
      rw [dig_at]
      refine held_call 7 rfl (by kernel_rfl) (fun K hK => ?_)
      go_simp
      refine hK.out _ _ ((hE.drew).alloc _) (fun hHeld => ?_)
      clear hK K
      (try simp only [Act.put, List.setIfInBounds_toArray, List.set_cons_zero, List.set_cons_succ])
      refine held_call 8 rfl (by kernel_rfl) (fun K hK => ?_)
      have hEs := hE.size
      have hEs0 := hE0.size
      refine step8 rfl (.tmp 13) (.tmp 20) rfl w0.heap.size A1 (2 * k) c1 _ rfl (hO.ext (((Ext.refl wr).alloc _).drew)) _ 2 2 _ rfl ((Sl.lit wr _ 5 2 rfl (by omega) (by simp [Value.oneCell'])).ext (Ext.refl _).drew) (by omega) (by simp; omega) ?_
      intro A2 c2 w2 hO2 hG2
      have hE2 : Ext w0 w2 := ((hE.alloc _).drew).grown hG2 (fun q hq => (hO.block q hq).1)
      refine hK.out _ _ hE2 (fun hHeld => ?_)
      clear hK K
      (try simp only [Act.put, List.setIfInBounds_toArray, List.set_cons_zero, List.set_cons_succ])
      refine held_take 9 rfl (by kernel_rfl) (by kernel_rfl) (by kernel_rfl) (fun _ _ _ _ h => h) (by rfl) ?_ ?_ (by assumption) ?_
      rotate_left
      · (intro wx hSx; (try dsimp only at hSx); go_simp)
        all_goals with_reducible rfl
      (try simp only [Act.put, List.setIfInBounds_toArray, List.set_cons_zero, List.set_cons_succ])
      refine wpAnyH_done (by kernel_rfl) ?_ _
      go_wp2_with fail
      go_roundw
      case rel => exact ⟨k + 1, c2, A2, by omega, by go_num, rfl, by rw [hex_step (hi := hi) (lo := lo) HB.out (by rw [HHI.out, HX.out]) (by rw [HLO.out, HX.out])]; exact hO2, hE2⟩
      case measure => simp [intOf]; omega
    · obtain rfl : k = n := by omega
      have hcv2 := str8 hO.sl
      have ht : l.take k = l := List.take_of_length_le (by rw [HL.out]; exact Nat.le_refl _)
      rw [ht, strN_nat8] at hcv2
      have hE2 := hE0.trans hE
      clear ht hO hE
      go_wp2_with fail
      go_ret
      exact ⟨rfl, hE2⟩
end Go.Proofs.YtmfenegkeiipnaaDoor
