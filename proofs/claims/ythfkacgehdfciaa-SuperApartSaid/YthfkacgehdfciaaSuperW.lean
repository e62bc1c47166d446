/- Contracts of superblocks, and of their reference. -/
import Derived.Test.YthfkacgehdfciaaSealW
import Derived.Test.YthfkacgehdfciaaSuper
import Derived.Lib.SlBytesConst
namespace Go.Proofs.Ythfkacgehdfciaa
open Go.RowKit

theorem by8_supB {a b c : Nat} (ha : a < 256) (hb : b < 256) (hc : c < 256) (o : Bool) :
    by8 (supB a b c o) = [.int .u8 80, .int .u8 82, .int .u8 76, .int .u8 1] ++ [.int .u8 (a : Int), .int .u8 (b : Int), .int .u8 (c : Int), .int .u8 (b01 o : Nat)] := by
  simp [by8, supB]
  omega
theorem app8_full {w : World} {ops : Array Oper} {rest : List Oper} {o : Oper} {a : Act} {Q : Exit → Act → World → Prop} (hgd : o.guard = none) (s x : Operand)
    (ho : o.op = .call { callee := .builtin .append, args := #[s, x], argTypes := #[22, 22] }) (B : Nat)
    (A : Addr) (n c : Nat) (xs : List Value) (hev : a.eval s = .slice (some A) n c) (hs : Sl w (some A) n c xs)
    (A2 : Addr) (m c2 : Nat) (ys : List Value) (hx : a.eval x = .slice (some A2) m c2) (hsl : Sl w (some A2) m c2 ys) (hfull : c < n + m) (hbytes : n + m ≤ 140737488355328) (hB : B ≤ w.heap.size)
    (h : ∀ A' c' w', Own w' B 5 A' (n + m) c' (xs ++ ys) → Ext w w' → wpList Try.prog ops Q rest (a.put o.dst (.slice A' (n + m) c')) w') : wpList Try.prog ops Q (o :: rest) a w := by
  obtain ⟨i0, hi0, hz0, hz1, hz2⟩ := info_parts info_u8
  exact wpList_app_full hgd s x 22 ho B 5 i0 _ 1 Try.underlying22 hi0 hz0 hz1 hz2 rfl A n c xs hev hs A2 m c2 ys hx hsl hfull (by omega) (by omega) hB h
theorem conv_const (w : World) (C : Array Value) (n c : Nat) : (convert 22 22 (.slice (some ⟨w.heap.size, 0, none⟩) n c)).run Try.prog (w.alloc (.cells C 5)) =
    .ok (.slice (some ⟨w.heap.size, 0, none⟩) n c) (w.alloc (.cells C 5 (C.size, C.size + 1))) := Lib.run_convert_bytes_const w 22 5 C n c Try.underlying22 Try.underlying5
set_option maxHeartbeats 1000000 in
theorem super_Lay (a b c : Int) (o : Bool) (w : World) : Calls Try.prog 36 #[.agg (i64s (geo a b c)).toArray, .bool o] w fun e w' =>
    ∃ A' n' c', e = .returned (.tuple #[.slice A' n' c', .int .i64 (supE a b c : Nat)]) ∧ n' ≤ 128 ∧ Own w' w.heap.size 5 A' n' c' (by8 (supL a b c o)) ∧ Ext w w' := by
  have hn := geo_len a b c
  have go : ∀ w1, Own w1 w.heap.size 46 (some ⟨w.heap.size, 0, none⟩) 3 3 (i64s (geo a b c)) → (w1.cell? ⟨w.heap.size, 0, none⟩ = some (.int .i64 a) ∧ w1.cell? ⟨w.heap.size, 1, none⟩ = some (.int .i64 b) ∧ w1.cell? ⟨w.heap.size, 2, none⟩ = some (.int .i64 c)) := fun w1 h => Own.geo h
  by_cases h : mayG a b c
  case neg =>
    obtain ⟨e1, e2⟩ := sup_bad h o
    rw [e1, e2]
    clear e1 e2 go
    have HH := hide h
    clear h
    go_enter Try.func36, Try.ntmps36
    go_wp2_with (first
      | (with_reducible refine ag_box (o := ⟨some 2, _, _, _, _, _⟩) rfl 46 _ rfl _ 3 rfl rfl (by omega) (i64s_one (geo a b c)) w.heap.size (Nat.le_refl _) ?_; intro w1 hB1 hE1 hz1)
      | (with_reducible refine ag_load (o := ⟨some 7, _, _, _, _, _⟩) rfl 46 (.tmp 2) rfl w.heap.size 3 w.heap.size 46 _ rfl hB1 agg_geo info_geo ?_))
    refine (May a b c _).mono ?_
    rintro e w2 ⟨rfl, hE2⟩
    rw [decide_eq_false HH.out]
    go_wp2
    go_ret2
    exact ⟨none, 0, 0, rfl, by omega, Own.nilS _ _ _, hE1.trans hE2⟩
  case pos =>
  obtain ⟨e1, e2⟩ := sup_lay h o
  rw [e1, e2]
  clear e1 e2
  have HH := hide h
  unfold mayG at h
  obtain ⟨p, rfl⟩ := Int.eq_ofNat_of_zero_le (show 0 ≤ a by omega)
  obtain ⟨q, rfl⟩ := Int.eq_ofNat_of_zero_le (show 0 ≤ b by omega)
  obtain ⟨r, rfl⟩ := Int.eq_ofNat_of_zero_le (show 0 ≤ c by omega)
  have hp : p < 256 := by omega
  have hq : q < 256 := by omega
  have hr : r < 256 := by omega
  clear h
  go_enter Try.func36, Try.ntmps36
  go_wp2_with (first
    | (with_reducible refine ag_box (o := ⟨some 2, _, _, _, _, _⟩) rfl 46 _ rfl _ 3 rfl rfl (by omega) (i64s_one (geo p q r)) w.heap.size (Nat.le_refl _) ?_; intro w1 hB1 hE1 hz1)
    | (with_reducible refine ag_load (o := ⟨some 7, _, _, _, _, _⟩) rfl 46 (.tmp 2) rfl w.heap.size 3 w.heap.size 46 _ rfl hB1 agg_geo info_geo ?_))
  refine (May p q r _).mono ?_
  rintro e w2 ⟨rfl, hE2⟩
  rw [decide_eq_true HH.out]
  obtain ⟨c0, c1, c2⟩ := go w2 (hB1.ext hE2)
  have hz2 := hE2.size
  have hcv := conv_const
  have d0 : ∀ ob, (w2.alloc ob).cell? ⟨w.heap.size, 0, none⟩ = some (.int .i64 p) := fun ob => ((Ext.refl w2).alloc ob).cell c0
  have d1 : ∀ ob, (w2.alloc ob).cell? ⟨w.heap.size, 1, none⟩ = some (.int .i64 q) := fun ob => ((Ext.refl w2).alloc ob).cell c1
  have d2 : ∀ ob, (w2.alloc ob).cell? ⟨w.heap.size, 2, none⟩ = some (.int .i64 r) := fun ob => ((Ext.refl w2).alloc ob).cell c2
  have hlit : ∀ x : Value, x.oneCell' = true → Sl ((w2.alloc (.cells #[.int .u8 80, .int .u8 82, .int .u8 76, .int .u8 1] 5 (4, 5))).alloc (.cells #[.int .u8 (p : Int), .int .u8 (q : Int), .int .u8 (r : Int), x] 5)) (some ⟨w2.heap.size + 1, 0, none⟩) 4 4 [.int .u8 (p : Int), .int .u8 (q : Int), .int .u8 (r : Int), x] := by
    intro x hx
    have := Sl.lit (w2.alloc (.cells #[.int .u8 80, .int .u8 82, .int .u8 76, .int .u8 1] 5 (4, 5))) #[.int .u8 (p : Int), .int .u8 (q : Int), .int .u8 (r : Int), x] 5 4 rfl (by omega) (by
      intro u hu
      simp at hu
      rcases hu with rfl | rfl | rfl | rfl <;> first | rfl | exact hx)
    simpa using this
  cases o
  · go_wp2_with (at_builtin; refine app8_full rfl (.tmp 12) (.tmp 23) rfl w.heap.size _ 4 4 _ rfl ((Sl.litF w2 #[.int .u8 80, .int .u8 82, .int .u8 76, .int .u8 1] 5 _ 4 rfl (by omega) (by simp [Value.oneCell'])).ext ((Ext.refl _).alloc _)) _ 4 4 _ rfl (hlit (.int .u8 0) rfl) (by omega) (by omega) (by simp; omega) ?_; intro A3 c3 w3 hO3 hE3)
    have hF3 : Ext w2 w3 := (((Ext.refl w2).alloc _).alloc _).trans hE3
    have hO4 : Own w3 w.heap.size 5 A3 8 c3 (by8 (supB p q r false)) := by rw [by8_supB hp hq hr]; exact hO3
    refine (seal_Seal 83 _ _ _ _ _ hO4.sl (Bytes.supB _ _ _ _) (by omega) (by omega) (by omega)).mono ?_
    rintro e w4 ⟨g4, c4, rfl, hO5, hE5⟩
    go_wp2_with fail
    go_ret2
    exact ⟨_, _, _, rfl, by omega, hO5.low (by have := hF3.size; omega), hE1.trans (hE2.trans (hF3.trans hE5))⟩
  · go_wp2_with (at_builtin; refine app8_full rfl (.tmp 12) (.tmp 23) rfl w.heap.size _ 4 4 _ rfl ((Sl.litF w2 #[.int .u8 80, .int .u8 82, .int .u8 76, .int .u8 1] 5 _ 4 rfl (by omega) (by simp [Value.oneCell'])).ext ((Ext.refl _).alloc _)) _ 4 4 _ rfl (hlit (.int .u8 1) rfl) (by omega) (by omega) (by simp; omega) ?_; intro A3 c3 w3 hO3 hE3)
    have hF3 : Ext w2 w3 := (((Ext.refl w2).alloc _).alloc _).trans hE3
    have hO4 : Own w3 w.heap.size 5 A3 8 c3 (by8 (supB p q r true)) := by rw [by8_supB hp hq hr]; exact hO3
    refine (seal_Seal 83 _ _ _ _ _ hO4.sl (Bytes.supB _ _ _ _) (by omega) (by omega) (by omega)).mono ?_
    rintro e w4 ⟨g4, c4, rfl, hO5, hE5⟩
    go_wp2_with fail
    go_ret2
    exact ⟨_, _, _, rfl, by omega, hO5.low (by have := hF3.size; omega), hE1.trans (hE2.trans (hF3.trans hE5))⟩

set_option maxHeartbeats 1000000 in
theorem refsuper_Lay (a b c : Int) (o : Bool) (w : World) : Calls Try.prog 37 #[.agg (i64s (geo a b c)).toArray, .bool o] w fun e w' =>
    ∃ A' n' c', e = .returned (.tuple #[.slice A' n' c', .int .i64 (supE a b c : Nat)]) ∧ n' ≤ 128 ∧ Own w' w.heap.size 5 A' n' c' (by8 (supL a b c o)) ∧ Ext w w' := by
  have hn := geo_len a b c
  have go : ∀ w1, Own w1 w.heap.size 46 (some ⟨w.heap.size, 0, none⟩) 3 3 (i64s (geo a b c)) → (w1.cell? ⟨w.heap.size, 0, none⟩ = some (.int .i64 a) ∧ w1.cell? ⟨w.heap.size, 1, none⟩ = some (.int .i64 b) ∧ w1.cell? ⟨w.heap.size, 2, none⟩ = some (.int .i64 c)) := fun w1 h => Own.geo h
  by_cases h : mayG a b c
  case neg =>
    obtain ⟨e1, e2⟩ := sup_bad h o
    rw [e1, e2]
    clear e1 e2 go
    have HH := hide h
    clear h
    go_enter Try.func37, Try.ntmps37
    go_wp2_with (first
      | (with_reducible refine ag_box (o := ⟨some 2, _, _, _, _, _⟩) rfl 46 _ rfl _ 3 rfl rfl (by omega) (i64s_one (geo a b c)) w.heap.size (Nat.le_refl _) ?_; intro w1 hB1 hE1 hz1)
      | (with_reducible refine ag_load (o := ⟨some 7, _, _, _, _, _⟩) rfl 46 (.tmp 2) rfl w.heap.size 3 w.heap.size 46 _ rfl hB1 agg_geo info_geo ?_))
    refine (refMay a b c _).mono ?_
    rintro e w2 ⟨rfl, hE2⟩
    rw [decide_eq_false HH.out]
    go_wp2
    go_ret2
    exact ⟨none, 0, 0, rfl, by omega, Own.nilS _ _ _, hE1.trans hE2⟩
  case pos =>
  obtain ⟨e1, e2⟩ := sup_lay h o
  rw [e1, e2]
  clear e1 e2
  have HH := hide h
  unfold mayG at h
  obtain ⟨p, rfl⟩ := Int.eq_ofNat_of_zero_le (show 0 ≤ a by omega)
  obtain ⟨q, rfl⟩ := Int.eq_ofNat_of_zero_le (show 0 ≤ b by omega)
  obtain ⟨r, rfl⟩ := Int.eq_ofNat_of_zero_le (show 0 ≤ c by omega)
  have hp : p < 256 := by omega
  have hq : q < 256 := by omega
  have hr : r < 256 := by omega
  clear h
  go_enter Try.func37, Try.ntmps37
  go_wp2_with (first
    | (with_reducible refine ag_box (o := ⟨some 2, _, _, _, _, _⟩) rfl 46 _ rfl _ 3 rfl rfl (by omega) (i64s_one (geo p q r)) w.heap.size (Nat.le_refl _) ?_; intro w1 hB1 hE1 hz1)
    | (with_reducible refine ag_load (o := ⟨some 7, _, _, _, _, _⟩) rfl 46 (.tmp 2) rfl w.heap.size 3 w.heap.size 46 _ rfl hB1 agg_geo info_geo ?_))
  refine (refMay p q r _).mono ?_
  rintro e w2 ⟨rfl, hE2⟩
  rw [decide_eq_true HH.out]
  obtain ⟨c0, c1, c2⟩ := go w2 (hB1.ext hE2)
  have hz2 := hE2.size
  cases o
  ·
    have hO := Own.made (w := w2) (B := w2.heap.size) (e := 5) (n := 8) (Nat.le_refl _) #[.int .u8 80, .int .u8 82, .int .u8 76, .int .u8 1, .int .u8 (p : Int), .int .u8 (q : Int), .int .u8 (r : Int), .int .u8 0] 8 (by simp only [maxLen]; omega) (by omega) rfl (by simp [Value.oneCell'])
    have hE3 : Ext w2 (w2.alloc (.cells #[.int .u8 80, .int .u8 82, .int .u8 76, .int .u8 1, .int .u8 (p : Int), .int .u8 (q : Int), .int .u8 (r : Int), .int .u8 0] 5)) := (Ext.refl w2).alloc _
    have hv : List.take 8 #[.int .u8 80, .int .u8 82, .int .u8 76, .int .u8 1, .int .u8 (p : Int), .int .u8 (q : Int), .int .u8 (r : Int), .int .u8 0].toList = by8 (supB p q r false) := by rw [by8_supB hp hq hr]; rfl
    rw [hv] at hO
    clear hv
    go_wp2_with fail
    refine (ref_Seal 83 _ _ _ _ _ hO.sl (Bytes.supB _ _ _ _) (by omega) (by omega) (by omega)).mono ?_
    rintro e w4 ⟨g4, c4, rfl, hO5, hE5⟩
    go_wp2_with fail
    go_ret2
    exact ⟨_, _, _, rfl, by omega, hO5.low (by have := hE3.size; omega), hE1.trans (hE2.trans (hE3.trans hE5))⟩
  ·
    have hO := Own.made (w := w2) (B := w2.heap.size) (e := 5) (n := 8) (Nat.le_refl _) #[.int .u8 80, .int .u8 82, .int .u8 76, .int .u8 1, .int .u8 (p : Int), .int .u8 (q : Int), .int .u8 (r : Int), .int .u8 1] 8 (by simp only [maxLen]; omega) (by omega) rfl (by simp [Value.oneCell'])
    have hE3 : Ext w2 (w2.alloc (.cells #[.int .u8 80, .int .u8 82, .int .u8 76, .int .u8 1, .int .u8 (p : Int), .int .u8 (q : Int), .int .u8 (r : Int), .int .u8 1] 5)) := (Ext.refl w2).alloc _
    have hv : List.take 8 #[.int .u8 80, .int .u8 82, .int .u8 76, .int .u8 1, .int .u8 (p : Int), .int .u8 (q : Int), .int .u8 (r : Int), .int .u8 1].toList = by8 (supB p q r true) := by rw [by8_supB hp hq hr]; rfl
    rw [hv] at hO
    clear hv
    go_wp2_with fail
    refine (ref_Seal 83 _ _ _ _ _ hO.sl (Bytes.supB _ _ _ _) (by omega) (by omega) (by omega)).mono ?_
    rintro e w4 ⟨g4, c4, rfl, hO5, hE5⟩
    go_wp2_with fail
    go_ret2
    exact ⟨_, _, _, rfl, by omega, hO5.low (by have := hE3.size; omega), hE1.trans (hE2.trans (hE3.trans hE5))⟩

theorem results_agg3 {P : Program} {w : World} {fn : Func} {p u x : Tmp} {t : TypeId} (h : fn.results = #[.cell p t, .tmp u, .tmp x]) (tmps : Array Value) {g n B e : Nat} {vs : List Value} {v y : Value}
    (hp : tmps.getD p undef = .pointer (some ⟨g, 0, none⟩)) (hu : tmps.getD u undef = v) (hx : tmps.getD x undef = y) (hO : Own w B e (some ⟨g, 0, none⟩) n n vs) (hagg : ∀ w1, (isAgg t).run P w1 = .ok true w1)
    (hi : (P.info? t).map (·.size) = some n) : (results fn tmps).run P w = .ok (.tuple #[.agg vs.toArray, v, y]) w := by
  have hl := run_loadVar_own t hO hagg hi
  have e : (results fn tmps).run P w = ((asAddr (tmps.getD p undef)).run P w).andThen fun a w₁ => ((loadVar t a).run P w₁).andThen fun v w₂ => .ok (.tuple #[v, tmps.getD u undef, tmps.getD x undef]) w₂ := by
    simp only [results, h]
    simp [Sem.run_bind, Result.andThen]
  rw [e, hp, hu, hx]
  simp [asAddr, hl]
theorem bd_lt {xs : List Nat} (hb : Bytes xs) (k : Nat) : bd xs k < 256 := by
  unfold bd
  rcases h : (bodyOf xs)[k]? with _ | x
  · simp [h]
  · have hbb : Bytes (bodyOf xs) := (hb.drop 1).take 123
    have := hbb.get h
    simp [h]; omega
set_option maxHeartbeats 1000000 in
theorem super_Read (A : Option Addr) (n c : Nat) (xs : List Nat) (w : World) (h : Sl w A n c (by8 xs)) (hb : Bytes xs) :
    Calls Try.prog 38 #[.slice A n c] w fun e w' => e = .returned (.tuple #[.agg (i64s (supG xs)).toArray, .bool (supO xs), .int .i64 (supF xs : Nat)]) ∧ Ext w w' := by
  by_cases hk : kindOf xs = 83
  · have hl := kind_len (xs := xs) (by omega)
    have hbl : (bodyOf xs).length = 123 := bodyOf_len hl
    have hbb : Bytes (bodyOf xs) := (hb.drop 1).take 123
    have HK := hide hk
    have HBL := hide hbl
    clear hk hl hbl
    go_enter Try.func38, Try.ntmps38
    go_wp2_with (with_reducible refine ag_alloc (o := ⟨some 2, _, _, _, _, _⟩) rfl 46 rfl _ 3 zero_geo rfl (by omega) (i64s_one _) w.heap.size (Nat.le_refl _) ?_; intro w1 hR1 hE1 hz1)
    refine (seal_Open 83 _ _ _ xs _ (h.ext hE1) hb (by omega) HK.out).mono ?_
    rintro e w2 ⟨g2, k2, rfl, hO2, hE2⟩
    have cellOf : ∀ j, j < 123 → w2.cell? ⟨g2, j, none⟩ = some (.int .u8 (bd xs j : Nat)) := by
      intro j hj
      rw [hO2.cellAt j hj]
      simp only [by8, List.getElem?_map, bd]
      rw [List.getElem?_eq_getElem (by rw [HBL.out]; exact hj)]
      simp
      rw [List.getElem?_eq_getElem (by rw [HBL.out]; exact hj)]
      rfl
    have b4 := bd_lt hb 4
    have b5 := bd_lt hb 5
    have b6 := bd_lt hb 6
    have b7 := bd_lt hb 7
    have e4 := cellOf 4 (by omega)
    have e5 := cellOf 5 (by omega)
    have e6 := cellOf 6 (by omega)
    have e7 := cellOf 7 (by omega)
    clear cellOf
    have n4 := World.new_ne w2 _ e4
    have s5 : IntKind.i64.wrap 5 = 5 := by decide
    have s6 : IntKind.i64.wrap 6 = 6 := by decide
    have s7 : IntKind.i64.wrap 7 = 7 := by decide
    have hqo : ((bd xs 7 : Nat) : Int) = 1 ↔ bd xs 7 = 1 := by omega
    have hqb : (((bd xs 7 : Nat) : Int) == 1) = (bd xs 7 == 1) := by rw [Bool.eq_iff_iff]; simp; omega
    have HOK : supOk xs ↔ mayG (bd xs 4) (bd xs 5) (bd xs 6) ∧ sealOf 83 (supB (bd xs 4) (bd xs 5) (bd xs 6) (bd xs 7 == 1)) = xs := ⟨fun h => h.2, fun h => ⟨HK.out, h⟩⟩
    have HY := fun h => @sup_yes xs h
    have hok1 := hide HOK
    have hy1 := hide HY
    clear HOK HY hqo
    generalize bd xs 4 = q4 at *
    generalize bd xs 5 = q5 at *
    generalize bd xs 6 = q6 at *
    generalize bd xs 7 = q7 at *
    have HQB := hide hqb
    clear hqb
    go_wp2_with fail
    go_region_held3 (fun w' => w'.cell? ⟨g2, 4, none⟩ = some (.int .u8 q4) ∧ w'.cell? ⟨g2, 5, none⟩ = some (.int .u8 q5) ∧ w'.cell? ⟨g2, 6, none⟩ = some (.int .u8 q6) ∧ w'.cell? ⟨g2, 7, none⟩ = some (.int .u8 q7)) (go_keep) (fail)
    have hT2 := (Own.made (w := w2) (B := w2.heap.size) (e := 46) (n := 3) (Nat.le_refl _) #[.int .i64 (q4 : Int), .int .i64 (q5 : Int), .int .i64 (q6 : Int)] 3 (by simp only [maxLen]; omega) (by omega) rfl (by simp [Value.oneCell']))
    have hE2a : Ext w2 (w2.alloc (.cells #[.int .i64 (q4 : Int), .int .i64 (q5 : Int), .int .i64 (q6 : Int)] 46)).drew := ((Ext.refl w2).alloc _).drew
    have hT3 : Own (w2.alloc (.cells #[.int .i64 (q4 : Int), .int .i64 (q5 : Int), .int .i64 (q6 : Int)] 46)).drew w2.heap.size 46 (some ⟨w2.heap.size, 0, none⟩) 3 3 (i64s (geo q4 q5 q6)) := hT2.ext (Ext.drew (Ext.refl _))
    rw [HQB.out]
    clear hT2 e4 e5 e6 e7 s5 s6 s7
    have hR3 := hR1.ext (hE2.trans hE2a)
    have hF3 := hE1.trans (hE2.trans hE2a)
    generalize (q7 == 1) = o at *
    go_wp2_with (with_reducible refine ag_load (o := ⟨some 45, _, _, _, _, _⟩) rfl 46 (.tmp 8) rfl w2.heap.size 3 w2.heap.size 46 _ rfl hT3 agg_geo info_geo ?_)
    refine (super_Lay q4 q5 q6 o _).mono ?_
    rintro e w4 ⟨A4, n4', c4, rfl, hn4, hO4, hE4⟩
    have hT4 := hT3.ext hE4
    have hR4 := hR3.ext hE4
    have hF4 := hF3.trans hE4
    clear hT3 hR3 hF3 hE4 hE2a
    by_cases hm : mayG q4 q5 q6
    · obtain ⟨l1, l2⟩ := sup_lay hm o
      rw [l2]
      rw [l1] at hO4
      clear l1 l2
      have hbs : Bytes (sealOf 83 (supB q4 q5 q6 o)) := Bytes.sealOf (by omega) (Bytes.supB _ _ _ _)
      go_wp2_with fail
      refine (BEqual _ _ _ _ _ _ _ _ _ hO4.sl (h.ext hF4) hbs hb).mono ?_
      rintro e w5 ⟨rfl, rfl⟩
      by_cases hs : sealOf 83 (supB q4 q5 q6 o) = xs
      · rw [decide_eq_true hs]
        obtain ⟨r1, r2, r3⟩ := hy1.out (hok1.out.2 ⟨hm, hs⟩)
        have RR := hide (And.intro r1 (And.intro r2 r3))
        clear hs hm r1 r2 r3
        go_wp2_with (first
          | (with_reducible refine ag_load (o := ⟨some 59, _, _, _, _, _⟩) rfl 46 (.tmp 8) rfl w2.heap.size 3 w2.heap.size 46 _ rfl hT4 agg_geo info_geo ?_)
          | (with_reducible refine ag_store (o := ⟨none, _, _, _, _, _⟩) rfl 46 (.tmp 2) (.tmp 59) rfl w.heap.size 3 w.heap.size 46 _ _ rfl rfl hR4 rfl (i64s_one _) info_geo ?_; intro w6 hR6 hG6))
        rw [RR.out.1, RR.out.2.1, RR.out.2.2]
        exact bodyPost_ret (results_agg3 rfl _ rfl rfl rfl hR6 agg_geo info_geo) rfl ⟨rfl, hF4.grown hG6 (by simp)⟩
      · rw [decide_eq_false hs]
        obtain ⟨r1, r2, r3⟩ := sup_no (fun h => hs (hok1.out.1 h).2)
        have RR := hide (And.intro r1 (And.intro r2 r3))
        clear hs hm r1 r2 r3
        go_wp2_with (first
          | (with_reducible refine ag_zero (o := ⟨some 58, _, _, _, _, _⟩) rfl 46 rfl _ (bld_geo0 _) ?_)
          | (with_reducible refine ag_store (o := ⟨none, _, _, _, _, _⟩) rfl 46 (.tmp 2) (.tmp 58) rfl w.heap.size 3 w.heap.size 46 _ _ rfl rfl hR4 rfl (i64s_one _) info_geo ?_; intro w6 hR6 hG6))
        rw [RR.out.1, RR.out.2.1, RR.out.2.2]
        exact bodyPost_ret (results_agg3 rfl _ rfl rfl rfl hR6 agg_geo info_geo) rfl ⟨rfl, hF4.grown hG6 (by simp)⟩
    · obtain ⟨l1, l2⟩ := sup_bad hm o
      rw [l2]
      obtain ⟨r1, r2, r3⟩ := sup_no (fun h => hm (hok1.out.1 h).1)
      have RR := hide (And.intro r1 (And.intro r2 r3))
      clear l1 l2 r1 r2 r3 hm
      go_wp2_with (first
        | (with_reducible refine ag_zero (o := ⟨some 58, _, _, _, _, _⟩) rfl 46 rfl _ (bld_geo0 _) ?_)
        | (with_reducible refine ag_store (o := ⟨none, _, _, _, _, _⟩) rfl 46 (.tmp 2) (.tmp 58) rfl w.heap.size 3 w.heap.size 46 _ _ rfl rfl hR4 rfl (i64s_one _) info_geo ?_; intro w6 hR6 hG6))
      rw [RR.out.1, RR.out.2.1, RR.out.2.2]
      exact bodyPost_ret (results_agg3 rfl _ rfl rfl rfl hR6 agg_geo info_geo) rfl ⟨rfl, hF4.grown hG6 (by simp)⟩
  · obtain ⟨r1, r2, r3⟩ := sup_no (fun h => hk h.1)
    have RR := hide (And.intro r1 (And.intro r2 r3))
    have HK := hide hk
    clear hk r1 r2 r3
    go_enter Try.func38, Try.ntmps38
    go_wp2_with (with_reducible refine ag_alloc (o := ⟨some 2, _, _, _, _, _⟩) rfl 46 rfl _ 3 zero_geo rfl (by omega) (i64s_one _) w.heap.size (Nat.le_refl _) ?_; intro w1 hR1 hE1 hz1)
    refine (seal_Open_no 83 _ _ _ xs _ (h.ext hE1) hb (Or.inr HK.out)).mono ?_
    rintro e w2 ⟨rfl, hE2⟩
    go_wp2_with (first
      | (with_reducible refine ag_zero (o := ⟨some 19, _, _, _, _, _⟩) rfl 46 rfl _ (bld_geo0 _) ?_)
      | (with_reducible refine ag_store (o := ⟨none, _, _, _, _, _⟩) rfl 46 (.tmp 2) (.tmp 19) rfl w.heap.size 3 w.heap.size 46 _ _ rfl rfl (hR1.ext hE2) rfl (i64s_one _) info_geo ?_; intro w6 hR6 hG6))
    rw [RR.out.1, RR.out.2.1, RR.out.2.2]
    exact bodyPost_ret (results_agg3 rfl _ rfl rfl rfl hR6 agg_geo info_geo) rfl ⟨rfl, (hE1.trans hE2).grown hG6 (by simp)⟩
set_option maxHeartbeats 1000000 in
theorem refsuper_Read (A : Option Addr) (n c : Nat) (xs : List Nat) (w : World) (h : Sl w A n c (by8 xs)) (hb : Bytes xs) :
    Calls Try.prog 39 #[.slice A n c] w fun e w' => e = .returned (.tuple #[.agg (i64s (supG xs)).toArray, .bool (supO xs), .int .i64 (supF xs : Nat)]) ∧ Ext w w' := by
  by_cases hk : kindOf xs = 83
  · have hl := kind_len (xs := xs) (by omega)
    have hbl : (bodyOf xs).length = 123 := bodyOf_len hl
    have hbb : Bytes (bodyOf xs) := (hb.drop 1).take 123
    have HK := hide hk
    have HBL := hide hbl
    clear hk hl hbl
    go_enter Try.func39, Try.ntmps39
    go_wp2_with (with_reducible refine ag_alloc (o := ⟨some 2, _, _, _, _, _⟩) rfl 46 rfl _ 3 zero_geo rfl (by omega) (i64s_one _) w.heap.size (Nat.le_refl _) ?_; intro w1 hR1 hE1 hz1)
    refine (ref_Open 83 _ _ _ xs _ (h.ext hE1) hb (by omega) HK.out).mono ?_
    rintro e w2 ⟨g2, k2, rfl, hO2, hE2⟩
    have cellOf : ∀ j, j < 123 → w2.cell? ⟨g2, j, none⟩ = some (.int .u8 (bd xs j : Nat)) := by
      intro j hj
      rw [hO2.cellAt j hj]
      simp only [by8, List.getElem?_map, bd]
      rw [List.getElem?_eq_getElem (by rw [HBL.out]; exact hj)]
      simp
      rw [List.getElem?_eq_getElem (by rw [HBL.out]; exact hj)]
      rfl
    have b4 := bd_lt hb 4
    have b5 := bd_lt hb 5
    have b6 := bd_lt hb 6
    have b7 := bd_lt hb 7
    have e4 := cellOf 4 (by omega)
    have e5 := cellOf 5 (by omega)
    have e6 := cellOf 6 (by omega)
    have e7 := cellOf 7 (by omega)
    clear cellOf
    have n4 := World.new_ne w2 _ e4
    have hqo : ((bd xs 7 : Nat) : Int) = 1 ↔ bd xs 7 = 1 := by omega
    have hqb : (((bd xs 7 : Nat) : Int) == 1) = (bd xs 7 == 1) := by rw [Bool.eq_iff_iff]; simp; omega
    have HOK : supOk xs ↔ mayG (bd xs 4) (bd xs 5) (bd xs 6) ∧ sealOf 83 (supB (bd xs 4) (bd xs 5) (bd xs 6) (bd xs 7 == 1)) = xs := ⟨fun h => h.2, fun h => ⟨HK.out, h⟩⟩
    have HY := fun h => @sup_yes xs h
    have hok1 := hide HOK
    have hy1 := hide HY
    clear HOK HY hqo
    generalize bd xs 4 = q4 at *
    generalize bd xs 5 = q5 at *
    generalize bd xs 6 = q6 at *
    generalize bd xs 7 = q7 at *
    have HQB := hide hqb
    clear hqb
    go_wp2_with fail
    go_region_held3 (fun w' => w'.cell? ⟨g2, 4, none⟩ = some (.int .u8 q4) ∧ w'.cell? ⟨g2, 5, none⟩ = some (.int .u8 q5) ∧ w'.cell? ⟨g2, 6, none⟩ = some (.int .u8 q6) ∧ w'.cell? ⟨g2, 7, none⟩ = some (.int .u8 q7)) (go_keep) (fail)
    have hT2 := (Own.made (w := w2) (B := w2.heap.size) (e := 46) (n := 3) (Nat.le_refl _) #[.int .i64 (q4 : Int), .int .i64 (q5 : Int), .int .i64 (q6 : Int)] 3 (by simp only [maxLen]; omega) (by omega) rfl (by simp [Value.oneCell']))
    have hE2a : Ext w2 (w2.alloc (.cells #[.int .i64 (q4 : Int), .int .i64 (q5 : Int), .int .i64 (q6 : Int)] 46)).drew := ((Ext.refl w2).alloc _).drew
    have hT3 : Own (w2.alloc (.cells #[.int .i64 (q4 : Int), .int .i64 (q5 : Int), .int .i64 (q6 : Int)] 46)).drew w2.heap.size 46 (some ⟨w2.heap.size, 0, none⟩) 3 3 (i64s (geo q4 q5 q6)) := hT2.ext (Ext.drew (Ext.refl _))
    rw [HQB.out]
    clear hT2 e4 e5 e6 e7
    have hR3 := hR1.ext (hE2.trans hE2a)
    have hF3 := hE1.trans (hE2.trans hE2a)
    generalize (q7 == 1) = o at *
    go_wp2_with (with_reducible refine ag_load (o := ⟨some 36, _, _, _, _, _⟩) rfl 46 (.tmp 7) rfl w2.heap.size 3 w2.heap.size 46 _ rfl hT3 agg_geo info_geo ?_)
    refine (refsuper_Lay q4 q5 q6 o _).mono ?_
    rintro e w4 ⟨A4, n4', c4, rfl, hn4, hO4, hE4⟩
    have hT4 := hT3.ext hE4
    have hR4 := hR3.ext hE4
    have hF4 := hF3.trans hE4
    clear hT3 hR3 hF3 hE4 hE2a
    by_cases hm : mayG q4 q5 q6
    · obtain ⟨l1, l2⟩ := sup_lay hm o
      rw [l2]
      rw [l1] at hO4
      clear l1 l2
      have hbs : Bytes (sealOf 83 (supB q4 q5 q6 o)) := Bytes.sealOf (by omega) (Bytes.supB _ _ _ _)
      have hcv1 := str8 hO4.sl
      have hcv2 := str8 (h.ext hF4)
      by_cases hs : sealOf 83 (supB q4 q5 q6 o) = xs
      · have e1 : ((strN (sealOf 83 (supB q4 q5 q6 o))).toList == (strN xs).toList) = true := by rw [strN_eq hbs hb]; simpa using hs
        obtain ⟨r1, r2, r3⟩ := hy1.out (hok1.out.2 ⟨hm, hs⟩)
        have RR := hide (And.intro r1 (And.intro r2 r3))
        clear hs hm r1 r2 r3
        go_wp2_with (first
          | (with_reducible refine ag_load (o := ⟨some 51, _, _, _, _, _⟩) rfl 46 (.tmp 7) rfl w2.heap.size 3 w2.heap.size 46 _ rfl hT4 agg_geo info_geo ?_)
          | (with_reducible refine ag_store (o := ⟨none, _, _, _, _, _⟩) rfl 46 (.tmp 2) (.tmp 51) rfl w.heap.size 3 w.heap.size 46 _ _ rfl rfl hR4 rfl (i64s_one _) info_geo ?_; intro w6 hR6 hG6))
        rw [RR.out.1, RR.out.2.1, RR.out.2.2]
        exact bodyPost_ret (results_agg3 rfl _ rfl rfl rfl hR6 agg_geo info_geo) rfl ⟨rfl, hF4.grown hG6 (by simp)⟩
      · have e1 : ((strN (sealOf 83 (supB q4 q5 q6 o))).toList == (strN xs).toList) = false := by rw [strN_eq hbs hb]; simpa using hs
        obtain ⟨r1, r2, r3⟩ := sup_no (fun h => hs (hok1.out.1 h).2)
        have RR := hide (And.intro r1 (And.intro r2 r3))
        clear hs hm r1 r2 r3
        go_wp2_with (first
          | (with_reducible refine ag_zero (o := ⟨some 50, _, _, _, _, _⟩) rfl 46 rfl _ (bld_geo0 _) ?_)
          | (with_reducible refine ag_store (o := ⟨none, _, _, _, _, _⟩) rfl 46 (.tmp 2) (.tmp 50) rfl w.heap.size 3 w.heap.size 46 _ _ rfl rfl hR4 rfl (i64s_one _) info_geo ?_; intro w6 hR6 hG6))
        rw [RR.out.1, RR.out.2.1, RR.out.2.2]
        exact bodyPost_ret (results_agg3 rfl _ rfl rfl rfl hR6 agg_geo info_geo) rfl ⟨rfl, hF4.grown hG6 (by simp)⟩
    · obtain ⟨l1, l2⟩ := sup_bad hm o
      rw [l2]
      obtain ⟨r1, r2, r3⟩ := sup_no (fun h => hm (hok1.out.1 h).1)
      have RR := hide (And.intro r1 (And.intro r2 r3))
      clear l1 l2 r1 r2 r3 hm
      go_wp2_with (first
        | (with_reducible refine ag_zero (o := ⟨some 50, _, _, _, _, _⟩) rfl 46 rfl _ (bld_geo0 _) ?_)
        | (with_reducible refine ag_store (o := ⟨none, _, _, _, _, _⟩) rfl 46 (.tmp 2) (.tmp 50) rfl w.heap.size 3 w.heap.size 46 _ _ rfl rfl hR4 rfl (i64s_one _) info_geo ?_; intro w6 hR6 hG6))
      rw [RR.out.1, RR.out.2.1, RR.out.2.2]
      exact bodyPost_ret (results_agg3 rfl _ rfl rfl rfl hR6 agg_geo info_geo) rfl ⟨rfl, hF4.grown hG6 (by simp)⟩
  · obtain ⟨r1, r2, r3⟩ := sup_no (fun h => hk h.1)
    have RR := hide (And.intro r1 (And.intro r2 r3))
    have HK := hide hk
    clear hk r1 r2 r3
    go_enter Try.func39, Try.ntmps39
    go_wp2_with (with_reducible refine ag_alloc (o := ⟨some 2, _, _, _, _, _⟩) rfl 46 rfl _ 3 zero_geo rfl (by omega) (i64s_one _) w.heap.size (Nat.le_refl _) ?_; intro w1 hR1 hE1 hz1)
    refine (ref_Open_no 83 _ _ _ xs _ (h.ext hE1) hb (Or.inr HK.out)).mono ?_
    rintro e w2 ⟨rfl, hE2⟩
    go_wp2_with (first
      | (with_reducible refine ag_zero (o := ⟨some 17, _, _, _, _, _⟩) rfl 46 rfl _ (bld_geo0 _) ?_)
      | (with_reducible refine ag_store (o := ⟨none, _, _, _, _, _⟩) rfl 46 (.tmp 2) (.tmp 17) rfl w.heap.size 3 w.heap.size 46 _ _ rfl rfl (hR1.ext hE2) rfl (i64s_one _) info_geo ?_; intro w6 hR6 hG6))
    rw [RR.out.1, RR.out.2.1, RR.out.2.2]
    exact bodyPost_ret (results_agg3 rfl _ rfl rfl rfl hR6 agg_geo info_geo) rfl ⟨rfl, (hE1.trans hE2).grown hG6 (by simp)⟩
end Go.Proofs.Ythfkacgehdfciaa
