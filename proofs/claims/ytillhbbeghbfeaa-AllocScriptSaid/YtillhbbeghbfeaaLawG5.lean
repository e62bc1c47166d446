/- AllocAll. -/
import Derived.Test.YtillhbbeghbfeaaLawG4
import Derived.Deep.DeepCutAuto
namespace Go.Proofs.Ytillhbbeghbfeaa
set_option linter.unusedVariables false
open Go.RowKit

/-- Where the law stands: behind so many that were taken. -/
structure AllS (w0 w : World) (B g : Nat) (p : Pl) (G gi ci : Nat) (is : List Bool) (gb cb : Nat) (bs : List Bool) (A : Option Addr) (m c : Nat) (all : List Nat) (tn tb : List (List Nat)) : Prop where
  sp : SpaceAt w B g p G 8 16 tn (List.replicate G (zr 8)) tb (List.replicate G (zr 16))
  bi : Own w w0.heap.size 4 (some ⟨gi, 0, none⟩) (8 * G + 1) ci (bl is)
  bb : Own w w0.heap.size 4 (some ⟨gb, 0, none⟩) (2 + 19 * G) cb (bl bs)
  ne : gi ≠ gb
  ge : Own w w0.heap.size 24 (some ⟨w0.heap.size, 0, none⟩) 3 3 (i64s (geo (G : Int) 8 16))
  al : Own w w0.heap.size 3 A m c (i64s (nI all))
  iz : IsOf G bs tb
  iN : IsIn G is tn
  av : Avs G all tb
  ex : Ext w0 w
  hB : w0.heap.size ≤ B
section
variable {w0 w w' : World} {B g : Nat} {p : Pl} {G gi ci : Nat} {is : List Bool} {gb cb : Nat} {bs : List Bool} {A : Option Addr} {m c : Nat} {all : List Nat} {tn tb : List (List Nat)} {k i : Nat} {xs : List Nat}
theorem AllS.ext (h : AllS w0 w B g p G gi ci is gb cb bs A m c all tn tb) (hE : Ext w w') : AllS w0 w' B g p G gi ci is gb cb bs A m c all tn tb :=
  { h with sp := h.sp.ext hE, bi := h.bi.ext hE, bb := h.bb.ext hE, ge := h.ge.ext hE, al := h.al.ext hE, ex := h.ex.trans hE }
theorem AllS.block (h : AllS w0 w B g p G gi ci is gb cb bs A m c all tn tb) (hk : k < G) (hi : i < 16) (hx : tb[k]? = some xs) (hxi : hasB xs i = false)
    (hS : SpaceAt w' B g p G 8 16 tn (List.replicate G (zr 8)) (tb.set k (withB xs i true)) (List.replicate G (zr 16))) (hT : Turned [p.g3] w w') :
    w'.cell? ⟨gb, posN k i, none⟩ = some (.bool false) ∧ w'.frozen? ⟨gb, posN k i, none⟩ = false ∧ AllS w0 (w'.setCell ⟨gb, posN k i, none⟩ (.bool true)) B g p G gi ci is gb cb (bs.set (posN k i) true) A m c all tn (tb.set k (withB xs i true)) := by
  have hbb := h.sp.beside hT (by simp) h.bb (by decide)
  have hbi := h.sp.beside hT (by simp) h.bi (by decide)
  have hge := h.sp.beside hT (by simp) h.ge (by decide)
  have hal := h.sp.beside hT (by simp) h.al (by decide)
  have hE : Ext w0 w' := Turned.ext h.ex hT (fun x hx => by rw [List.mem_singleton] at hx; subst hx; have := h.sp.r3.base; have := h.hB; omega)
  have hl : bs.length = 2 + 19 * G := by have := h.bb.len; rwa [bl_len] at this
  have hq : posN k i < 2 + 19 * G := by unfold posN; omega
  have hxl := h.sp.w3 xs (List.mem_of_getElem? hx)
  have hb := h.sp.bytes3 hx
  have hiz := h.iz k i xs hk hi hx
  have hTs : Turned [gb] w' (w'.setCell ⟨gb, posN k i, none⟩ (.bool true)) := Turned.setCell _ _ _ _
  have ht : ∀ {e : Nat}, 4 ≠ e → ∀ x ∈ [gb], ¬ Tag w' x e := fun he x hx ht => by
    rw [List.mem_singleton] at hx; subst hx; exact he (hbb.tag.uniq ht)
  have hav := h.av.put hk hi hx hb (by omega)
  refine ⟨?_, hbb.frozenAt _, hS.turn hTs (ht (by decide)) (ht (by decide)) (ht (by decide)), hbi.other h.ne _ _, ?_, h.ne, hTs.own hge (hge.off (ht (by decide))), hTs.own hal (hal.off (ht (by decide))), h.iz.put hl hk hi hx hb (by omega), h.iN, (fun v hv => hav v (List.mem_append_left _ hv)), ?_, h.hB⟩
  · rw [hbb.cellAt _ hq, bl_get hiz, hxi]
  · rw [← bl_set]; exact hbb.store _ _ rfl
  · exact hE.setCell (p := ⟨gb, posN k i, none⟩) hbb.base _
theorem AllS.inode (h : AllS w0 w B g p G gi ci is gb cb bs A m c all tn tb) (hk : k < G) (hi : i < 8) (hx : tn[k]? = some xs) (hxi : hasB xs i = false)
    (hS : SpaceAt w' B g p G 8 16 (tn.set k (withB xs i true)) (List.replicate G (zr 8)) tb (List.replicate G (zr 16))) (hT : Turned [p.g1] w w') :
    w'.cell? ⟨gi, k * 8 + i + 1, none⟩ = some (.bool false) ∧ w'.frozen? ⟨gi, k * 8 + i + 1, none⟩ = false ∧ AllS w0 (w'.setCell ⟨gi, k * 8 + i + 1, none⟩ (.bool true)) B g p G gi ci (is.set (k * 8 + i + 1) true) gb cb bs A m c all (tn.set k (withB xs i true)) tb := by
  have hbb := h.sp.beside hT (by simp) h.bb (by decide)
  have hbi := h.sp.beside hT (by simp) h.bi (by decide)
  have hge := h.sp.beside hT (by simp) h.ge (by decide)
  have hal := h.sp.beside hT (by simp) h.al (by decide)
  have hE : Ext w0 w' := Turned.ext h.ex hT (fun x hx => by rw [List.mem_singleton] at hx; subst hx; have := h.sp.r1.base; have := h.hB; omega)
  have hl : is.length = 8 * G + 1 := by have := h.bi.len; rwa [bl_len] at this
  have hq : k * 8 + i + 1 < 8 * G + 1 := by omega
  have hxl := h.sp.w1 xs (List.mem_of_getElem? hx)
  have hb := h.sp.bytes1 hx
  have hiz := h.iN k i xs hk hi hx
  have hTs : Turned [gi] w' (w'.setCell ⟨gi, k * 8 + i + 1, none⟩ (.bool true)) := Turned.setCell _ _ _ _
  have ht : ∀ {e : Nat}, 4 ≠ e → ∀ x ∈ [gi], ¬ Tag w' x e := fun he x hx ht => by
    rw [List.mem_singleton] at hx; subst hx; exact he (hbi.tag.uniq ht)
  refine ⟨?_, hbi.frozenAt _, hS.turn hTs (ht (by decide)) (ht (by decide)) (ht (by decide)), ?_, hbb.other h.ne.symm _ _, h.ne, hTs.own hge (hge.off (ht (by decide))), hTs.own hal (hal.off (ht (by decide))), h.iz, h.iN.put hl hk hi hx hb (by omega), h.av, ?_, h.hB⟩
  · rw [hbi.cellAt _ hq, bl_get hiz, hxi]
  · rw [← bl_set]; exact hbi.store _ _ rfl
  · exact hE.setCell (p := ⟨gi, k * 8 + i + 1, none⟩) hbi.base _
theorem AllS.app (h : AllS w0 w B g p G gi ci is gb cb bs A m c all tn tb) {A' : Option Addr} {c' v : Nat} (hO : Own w' w0.heap.size 3 A' (m + 1) c' (i64s (nI all) ++ [.int .i64 (v : Int)])) (hG : w.grownBy w' (Value.slice A m c).ownBlock)
    (hv : Avs G (all ++ [v]) tb) : AllS w0 w' B g p G gi ci is gb cb bs A' (m + 1) c' (all ++ [v]) tn tb :=
  { h with sp := h.sp.across h.al (by decide) (by decide) (by decide) hG, bi := h.bi.across h.al (by decide) hG, bb := h.bb.across h.al (by decide) hG, ge := h.ge.across h.al (by decide) hG,
           al := by rw [nI_append, i64s_append]; exact hO, av := hv, ex := h.ex.grown hG (fun k hk => (h.al.block k hk).1) }
end
/-- The two rows of bools lie anew. -/
def Rows2 (w3 : World) (G : Nat) (s9 s10 : Value) (wx : World) : Prop :=
  ∃ gi gb, s9 = .slice (some ⟨gi, 0, none⟩) (8 * G + 1) (8 * G + 1) ∧ s10 = .slice (some ⟨gb, 0, none⟩) (2 + 19 * G) (2 + 19 * G) ∧ Own wx w3.heap.size 4 (some ⟨gi, 0, none⟩) (8 * G + 1) (8 * G + 1) (bl (List.replicate (8 * G + 1) false)) ∧
    Own wx w3.heap.size 4 (some ⟨gb, 0, none⟩) (2 + 19 * G) (2 + 19 * G) (bl (List.replicate (2 + 19 * G) false)) ∧ gi ≠ gb ∧ Ext w3 wx
theorem Rows2.intro {w3 wx : World} {G gi gb : Nat} (h1 : Own wx w3.heap.size 4 (some ⟨gi, 0, none⟩) (8 * G + 1) (8 * G + 1) (bl (List.replicate (8 * G + 1) false)))
    (h2 : Own wx w3.heap.size 4 (some ⟨gb, 0, none⟩) (2 + 19 * G) (2 + 19 * G) (bl (List.replicate (2 + 19 * G) false))) (hne : gi ≠ gb) (hE : Ext w3 wx) :
    Rows2 w3 G (.slice (some ⟨gi, 0, none⟩) (8 * G + 1) (8 * G + 1)) (.slice (some ⟨gb, 0, none⟩) (2 + 19 * G) (2 + 19 * G)) wx := ⟨gi, gb, rfl, rfl, h1, h2, hne, hE⟩
theorem mkB_own {w : World} {B : Nat} (hB : B ≤ w.heap.size) (c : Nat) (hc : c ≤ 9223372036854775807) : Own (w.alloc (.cells (madeCells #[.bool false] c) 4)) B 4 (some ⟨w.heap.size, 0, none⟩) c c (bl (List.replicate c false)) := by
  have := Own.mk (w := w) (B := B) (e := 4) hB (.bool false) c hc rfl
  simpa [bl] using this
theorem Sl.lit1 (w : World) (cs : Array Value) (e : TypeId) (n : Nat) (hn : cs.size = n) (hm : n ≤ 9223372036854775807) (h1 : ∀ u ∈ cs.toList, u.oneCell' = true) (g : Nat) (hg : g = w.heap.size) : Sl (w.alloc (.cells cs e)) (some ⟨g, 0, none⟩) n n cs.toList := by
  subst hg
  exact Sl.lit w cs e n hn hm h1
theorem mkB_own1 {w : World} {B : Nat} (hB : B ≤ w.heap.size) (c : Nat) (hc : c ≤ 9223372036854775807) (g : Nat) (hg : g = w.heap.size) : Own (w.alloc (.cells (madeCells #[.bool false] c) 4)) B 4 (some ⟨g, 0, none⟩) c c (bl (List.replicate c false)) := by
  subst hg
  exact mkB_own hB c hc
set_option maxRecDepth 100000 in
set_option maxHeartbeats 8000000 in
theorem law_AllocAll (w : World) (a : Int) (_a1 : -9223372036854775808 ≤ a) (_a2 : a ≤ 9223372036854775807) (near : Int) (_b1 : -9223372036854775808 ≤ near) (_b2 : near ≤ 9223372036854775807) (z : Int) (_z1 : -9223372036854775808 ≤ z) (_z2 : z ≤ 9223372036854775807) :
    Calls Try.prog 5 #[.int .i64 a, .int .i64 near, .int .i64 z] w fun e w' => e = .returned (.bool true) ∧ Ext w w' := by
  have hL1 := fun w => Low a 8 8 w rfl (by omega) (by omega)
  have hg4 := low_lt a (n := 8) (by omega)
  generalize low a 8 = G0 at *
  obtain ⟨G, hGe⟩ : ∃ G, G = 1 + G0 := ⟨_, rfl⟩
  have hGi : (1 : Int) + (G0 : Int) = (G : Int) := by omega
  have HGI := hide hGi
  have hGb : 1 ≤ G ∧ G ≤ 8 := by omega
  clear hGi hGe
  have hmay : mayG (G : Int) ((8 : Nat) : Int) ((16 : Nat) : Int) := by unfold mayG; omega
  have HN := hide (fun w => show Calls Try.prog 8 #[.agg (i64s (geo (G : Int) 8 16)).toArray] w fun e w' =>
    ∃ g p, e = .returned (.pointer (some ⟨g, 0, none⟩)) ∧ SpaceAt w' w.heap.size g p G 8 16 (List.replicate G (zr 8)) (List.replicate G (zr 8)) (List.replicate G (zr 16)) (List.replicate G (zr 16)) ∧ Ext w w' from alloc_New G 8 16 hmay w)
  have hm8 : mayG (G : Int) 8 16 := hmay
  have hsec := fun w => geom_Sectors (G : Int) 8 16 w
  rw [sec_pos hm8] at hsec
  have hBL := fun w => geom_Blocks (G : Int) 8 16 w
  have hIN := fun w => geom_Inodes (G : Int) 8 16 w
  rw [blosG_yes hm8] at hBL
  rw [inosG_yes hm8] at hIN
  have HM := hide (hide hm8)
  clear hmay hm8
  go_enter Try.func5, Try.ntmps5
  go_wp2_with (first
    | (go_at_call 7; with_reducible refine (hL1 _).mono ?_; rintro e w' ⟨rfl, rfl⟩)
    | (with_reducible refine ag_alloc (o := ⟨some 7, _, _, _, _, _⟩) rfl 24 rfl _ 3 zero_geo rfl (by omega) (i64s_one _) w.heap.size (Nat.le_refl _) ?_; intro w1 hR1 hE1 hz1)
    | (with_reducible refine ag_store (o := ⟨none, _, _, _, _, _⟩) rfl 24 (.tmp 7) (.tmp 39) rfl w.heap.size 3 w.heap.size 24 _ (i64s (geo (1 + (G0 : Int)) 8 16)) rfl rfl hR1 rfl (i64s_one _) info_geo ?_; intro w2 hR2 hG2; rw [HGI.out] at hR2)
    | (with_reducible refine ag_load (o := ⟨some 40, _, _, _, _, _⟩) rfl 24 (.tmp 7) rfl w.heap.size 3 w.heap.size 24 _ rfl hR2 agg_geo info_geo ?_)
    | (go_at_call 8; with_reducible refine (HN.out _).mono ?_; rintro e w3 ⟨g, p, rfl, hSp, hE3⟩))
  have hE2 : Ext w w2 := hE1.grown hG2 (by simp)
  have hR3 := hR2.ext hE3
  have hEW := hE2.trans hE3
  have hsz2 := hE2.size
  have hszW := hEW.size
  clear hR1 hR2 hG2 hE1 hE2 hE3 hz1
  go_cut [9, 10] (fun s9 s10 wx => Rows2 w3 G s9 s10 wx)
  case first =>
    obtain ⟨c0, c1, c2⟩ := Own.geo hR3
    have hM1 := fun w => mkB .i64 .i64 ((G : Int) * 8 + 1) ((G : Int) * 8 + 1) (8 * G + 1) (8 * G + 1) (by omega) (by omega) (by omega) (by omega) w
    have hM2 := fun w => mkB .i64 .i64 (2 + 19 * (G : Int)) (2 + 19 * (G : Int)) (2 + 19 * G) (2 + 19 * G) (by omega) (by omega) (by omega) (by omega) w
    have hW := wrapI ((G : Int) * 8 + 1) (by omega)
    go_region_held3 (fun w' => w'.cell? ⟨w.heap.size, 0, none⟩ = some (.int .i64 (G : Int)) ∧ w'.cell? ⟨w.heap.size, 1, none⟩ = some (.int .i64 8) ∧ w'.cell? ⟨w.heap.size, 2, none⟩ = some (.int .i64 16))
      (go_keep)
      (first
        | (go_at_call 22; refine (hIN _).mono ?_; rintro e w4 ⟨rfl, hE4⟩; have hX4 : Ext w3 w4 := ((Ext.refl w3).drew).trans hE4; have d0 := hX4.cell c0; have d1 := hX4.cell c1; have d2 := hX4.cell c2)
        | (go_at_call 23; refine (hsec _).mono ?_; rintro e w5 ⟨rfl, hE5⟩; have hX5 : Ext w4 w5 := Ext.trans (by first | exact Ext.refl _ | exact (Ext.refl w4).alloc _) hE5; have e0 := hX5.cell d0; have e1 := hX5.cell d1; have e2 := hX5.cell d2))
    all_goals (go_wp2; go_meet)
    all_goals
      have hs4 := hX4.size
      have hs5 := (hX4.trans hX5).size
      have hz5 := hE5.size
      first
        | exact Rows2.intro (((mkB_own hs4 (8 * G + 1) (by omega)).ext hE5).ext ((Ext.refl w5).alloc _)) (mkB_own hs5 (2 + 19 * G) (by omega)) (by simp at hz5; omega) ((hX4.trans hX5).alloc _)
        | exact Rows2.intro ((mkB_own hs5 (8 * G + 1) (by omega)).ext ((Ext.refl (w5.alloc _)).alloc _)) (mkB_own1 (w := w5.alloc (.cells (madeCells #[.bool false] (8 * G + 1)) 4)) (by simp; omega) (2 + 19 * G) (by omega) (w5.heap.size + 1) (by simp)) (by simp) (((hX4.trans hX5).alloc _).alloc _)
        | exact Rows2.intro (mkB_own1 (w := w5.alloc (.cells (madeCells #[.bool false] (2 + 19 * G)) 4)) (by simp; omega) (8 * G + 1) (by omega) (w5.heap.size + 1) (by simp)) ((mkB_own hs5 (2 + 19 * G) (by omega)).ext ((Ext.refl (w5.alloc _)).alloc _)) (by simp) (((hX4.trans hX5).alloc _).alloc _)
        | skip
  case rest =>
    obtain ⟨gi, gb, rfl, rfl, hbi, hbb, hne, hEc⟩ := hcut
    have hS0 : AllS w wc w2.heap.size g p G gi (8 * G + 1) (List.replicate (8 * G + 1) false) gb (2 + 19 * G) (List.replicate (2 + 19 * G) false) none 0 0 [] (List.replicate G (zr 8)) (List.replicate G (zr 16)) := by
      refine ⟨hSp.ext hEc, hbi.low hszW, hbb.low hszW, hne, hR3.ext hEc, Own.nilS _ _ _, ?_, ?_, (fun v hv => by cases hv), hEW.trans hEc, hsz2⟩
      · intro k i xs hk hi hx
        rw [List.getElem?_replicate, if_pos (by unfold posN; omega)]
        rw [List.getElem?_replicate, if_pos hk] at hx
        cases hx
        rw [zr, hasB_zero]
      · intro k i xs hk hi hx
        rw [List.getElem?_replicate, if_pos (by omega)]
        rw [List.getElem?_replicate, if_pos hk] at hx
        cases hx
        rw [zr, hasB_zero]
    have hz0 := firmN_zr 16 G
    have hz8 := firmN_zr 8 G
    clear hsec hEc hbi hbb hSp hR3 hEW HN hL1 HGI
    go_wp2_with fail
    go_loopw [11, 12] (fun v i wr => ∃ (k : Nat) (A1 : Option Addr) (c1 : Nat) (bs : List Bool) (all : List Nat) (tb : List (List Nat)), k ≤ G * 16 ∧ v = .slice A1 k c1 ∧ i = .int .i64 k ∧ Hid (firmN 16 tb = k) ∧
      AllS w wr w2.heap.size g p G gi (8 * G + 1) (List.replicate (8 * G + 1) false) gb (2 + 19 * G) bs A1 k c1 all (List.replicate G (zr 8)) tb) (fun _ i _ => G * 16 - (intOf i).toNat)
    case atStart => exact ⟨0, none, 0, _, [], _, by omega, rfl, rfl, hz0, hS0⟩
    case round =>
      obtain ⟨k, A1, c1, bs, all, tb, hk, rfl, rfl, hct, hSt⟩ := hrel
      have hsz := hSt.ex.size
      by_cases hlt : k < G * 16
      · have l3 := hSt.sp.l3
        have hsum := sumF_all 16 tb
        rw [hct.out, l3] at hsum
        rcases best_cases near (each := 16) l3 (by omega) (by omega) with ⟨_, hz⟩ | ⟨q, xs, hb, hq, hxs, hf⟩
        · have := sumF_zero hz
          rw [l3] at this
          omega
        obtain ⟨r1, r2⟩ := firN_lt hf
        have hfi := firN_is hf
        generalize firN 16 xs = r at *
        have hfp := fst_pos (i := r) HM.out.out hq
        obtain ⟨o1, o2⟩ := isB_of (s := fstG (G : Int) 8 16 q + (r : Int)) HM.out.out (show (0 : Int) ≤ (q : Int) by omega) (by omega) (by omega) (by omega)
        rw [hfp] at o1 o2
        have hOB := fun w => geom_OfBlock (G : Int) 8 16 ((posN q r : Nat) : Int) w
        rw [o1] at hOB
        have hpb : posN q r < 2 + 19 * G := by unfold posN; omega
        have hput := firmN_put (n := 16) hxs (hSt.sp.bytes3 hxs) (i := r) r1 (by rw [hSt.sp.w3 xs (List.mem_of_getElem? hxs)]; omega) r2
        rw [hct.out] at hput
        have HP := hide hput
        have hav := hSt.av.put hq r1 hxs (hSt.sp.bytes3 hxs) (by rw [hSt.sp.w3 xs (List.mem_of_getElem? hxs)]; omega)
        have HBK := hide (fun w' (hE : Ext wr w') => (show Calls Try.prog 25 #[.pointer (some ⟨g, 0, none⟩), .int .i64 near] w' fun e w'' => e = .returned (.tuple #[.int .i64 ((posN q r : Nat) : Int), .int .i64 0]) ∧
            SpaceAt w'' w2.heap.size g p G 8 16 (List.replicate G (zr 8)) (List.replicate G (zr 8)) (tb.set q (withB xs r true)) (List.replicate G (zr 16)) ∧ Turned [p.g3] w' w'' by
          have := space_Block_ok (hSt.sp.ext hE) near hb hxs hfi
          rw [show ((8 : Nat) : Int) = 8 from rfl, show ((16 : Nat) : Int) = 16 from rfl, hfp] at this
          exact this))
        clear hct hput hsum hb hfi hf o1 o2 hfp
        go_wp2_with (first
          | (with_reducible refine ag_load (o := ⟨some 52, _, _, _, _, _⟩) rfl 24 (.tmp 7) rfl w.heap.size 3 w.heap.size 24 _ rfl hSt.ge agg_geo info_geo ?_)
          | (go_at_call 24; with_reducible refine (hBL _).mono ?_; rintro e w4 ⟨rfl, hE4⟩; have hSt4 := hSt.ext hE4)
          | (go_at_call 25; with_reducible refine (HBK.out _ hE4).mono ?_; rintro e w5 ⟨rfl, hS5, hT5⟩; have hge5 := hSt4.sp.beside hT5 (by simp) hSt4.ge (by decide))
          | (with_reducible refine ag_load (o := ⟨some 64, _, _, _, _, _⟩) rfl 24 (.tmp 7) rfl w.heap.size 3 w.heap.size 24 _ rfl hge5 agg_geo info_geo ?_)
          | (go_at_call 26; with_reducible refine (hOB _).mono ?_; rintro e w6 ⟨rfl, hE6⟩; obtain ⟨k1, k2, hS7⟩ := hSt4.block hq r1 hxs r2 (hS5.ext hE6) (hT5.trans (hE6.turned _)))
          | (at_builtin; refine appI rfl (.tmp 94) (.tmp 96) rfl w.heap.size _ k c1 _ rfl (hS7.al.ext ((Ext.refl _).alloc (.cells #[.int .i64 ((posN q r : Nat) : Int)] 3))) _ 1 1 _ rfl (Sl.lit1 (w6.setCell ⟨gb, posN q r, none⟩ (.bool true)) #[.int .i64 ((posN q r : Nat) : Int)] 3 1 rfl (by omega) (by simp [Value.oneCell']) w6.heap.size (by simp)) (by omega) (by have := hS7.ex.size; simp only [World.size_setCell, World.size_alloc] at this ⊢; omega) ?_; intro A8 c8 w8 hO8 hG8))
        go_roundw
        case rel => exact ⟨k + 1, A8, c8, _, _, _, by omega, rfl, by go_num, HP.out, (hS7.ext ((Ext.refl _).alloc (.cells #[.int .i64 ((posN q r : Nat) : Int)] 3))).app hO8 hG8 hav⟩
        case measure => simp [intOf]; omega
      · obtain rfl : k = G * 16 := by omega
        have hSt' := fun w' (hE : Ext wr w') => hSt.ext hE
        have HST := hide hSt'
        clear hS0 hSt'
        go_wp2_with (first
          | (with_reducible refine ag_load (o := ⟨some 52, _, _, _, _, _⟩) rfl 24 (.tmp 7) rfl w.heap.size 3 w.heap.size 24 _ rfl hSt.ge agg_geo info_geo ?_)
          | (go_at_call 24; with_reducible refine (hBL _).mono ?_; rintro e w4 ⟨rfl, hE4⟩))
        have hS4 := HST.out _ hE4
        clear HST hSt hE4
        go_loopw [17] (fun i wr => ∃ (k : Nat) (is : List Bool) (tn : List (List Nat)), k ≤ G * 8 ∧ i = .int .i64 k ∧ Hid (firmN 8 tn = k) ∧
          AllS w wr w2.heap.size g p G gi (8 * G + 1) is gb (2 + 19 * G) bs A1 (G * 16) c1 all tn tb) (fun i _ => G * 8 - (intOf i).toNat)
        case atStart => exact ⟨0, _, _, by omega, rfl, hz8, hS4⟩
        case round =>
          obtain ⟨k, is, tn, hk, rfl, hcn, hSt⟩ := hrel
          have hsz := hSt.ex.size
          have l1 := hSt.sp.l1
          have hsum := sumF_all 8 tn
          rw [hcn.out, l1] at hsum
          by_cases hlt : k < G * 8
          · rcases best_cases near (each := 8) l1 (by omega) (by omega) with ⟨_, hz⟩ | ⟨q, xs, hb, hq, hxs, hf⟩
            · have := sumF_zero hz
              rw [l1] at this
              omega
            obtain ⟨r1, r2⟩ := firN_lt hf
            have hfi := firN_is hf
            generalize firN 8 xs = r at *
            have hpb : q * 8 + r + 1 < 8 * G + 1 := by omega
            have hput := firmN_put (n := 8) hxs (hSt.sp.bytes1 hxs) (i := r) r1 (by rw [hSt.sp.w1 xs (List.mem_of_getElem? hxs)]; omega) r2
            rw [hcn.out] at hput
            have HP := hide hput
            obtain ⟨v, hv⟩ : ∃ v, v = q * 8 + r + 1 := ⟨_, rfl⟩
            have HIK := hide (fun w' (hE : Ext wr w') => (show Calls Try.prog 27 #[.pointer (some ⟨g, 0, none⟩), .int .i64 near] w' fun e w'' => e = .returned (.tuple #[.int .i64 (v : Int), .int .i64 0]) ∧
                SpaceAt w'' w2.heap.size g p G 8 16 (tn.set q (withB xs r true)) (List.replicate G (zr 8)) tb (List.replicate G (zr 16)) ∧ Turned [p.g1] w' w'' by
              subst hv
              exact space_Inode_ok (hSt.sp.ext hE) near hq hb hxs hfi))
            have hIN2 := fun w4 w5 hE4 hS hT => @AllS.inode w w4 w5 w2.heap.size g p G gi (8 * G + 1) is gb (2 + 19 * G) bs A1 (G * 16) c1 all tn tb q r xs (hSt.ext hE4) hq r1 hxs r2 hS hT
            rw [← hv] at hIN2 hpb
            have v1 : 1 ≤ v := by omega
            have HI2 := hide hIN2
            clear hcn hput hsum hb hfi hf hv hIN2
            go_wp2_with (first
              | (with_reducible refine ag_load (o := ⟨some 99, _, _, _, _, _⟩) rfl 24 (.tmp 7) rfl w.heap.size 3 w.heap.size 24 _ rfl hSt.ge agg_geo info_geo ?_)
              | (go_at_call 22; with_reducible refine (hIN _).mono ?_; rintro e w5 ⟨rfl, hE5⟩)
              | (go_at_call 27; with_reducible refine (HIK.out _ hE5).mono ?_; rintro e w6 ⟨rfl, hS6, hT6⟩; obtain ⟨k1, k2, hS7⟩ := HI2.out _ _ hE5 hS6 hT6))
            go_roundw
            case rel => exact ⟨k + 1, _, _, by omega, by go_num, HP.out, hS7⟩
            case measure => simp [intOf]; omega
          · obtain rfl : k = G * 8 := by omega
            have l3 := hSt.sp.l3
            have hsum3 := sumF_all 16 tb
            rw [hct.out, l3] at hsum3
            have hfz : ∀ (k : Nat) (xs : List Nat), tb[k]? = some xs → freeN 16 xs = 0 := fun k xs hx => by
              have := sumF_pos (n := 16) hx
              rw [l3] at this
              omega
            have hfn : ∀ (k : Nat) (xs : List Nat), tn[k]? = some xs → freeN 8 xs = 0 := fun k xs hx => by
              have := sumF_pos (n := 8) hx
              rw [l1] at this
              omega
            have hb3 : bestF (scL near 16 tb G) = -1 := by
              rcases best_cases near (each := 16) l3 (by omega) (by omega) with ⟨h1, _⟩ | ⟨q, xs, _, _, h1, h2⟩
              · exact h1
              · rw [hfz q xs h1] at h2; omega
            have hb1 : bestF (scL near 8 tn G) = -1 := by
              rcases best_cases near (each := 8) l1 (by omega) (by omega) with ⟨h1, _⟩ | ⟨q, xs, _, _, h1, h2⟩
              · exact h1
              · rw [hfn q xs h1] at h2; omega
            have hlen := hSt.al.len
            rw [i64s_len, nI_len] at hlen
            have hL2 := fun w => Low z ((G : Int) * 16) (G * 16) w (by omega) (by omega) (by omega)
            have hx2 := low_lt z (n := G * 16) (by omega)
            generalize low z (G * 16) = ix at *
            obtain ⟨v, hv⟩ : ∃ v, all[ix]? = some v := ⟨_, List.getElem?_eq_getElem (by omega)⟩
            obtain ⟨q, r, xs, hq, hr, rfl, hxs, hxr⟩ := hSt.av v (List.mem_of_getElem? hv)
            obtain ⟨bA, oA, x, rfl, hx, hcA⟩ := hSt.al.sl.atI hx2
            have hxv := hx.out
            rw [show (nI all)[ix]? = some ((posN q r : Nat) : Int) from by simp [nI, hv]] at hxv
            cases hxv
            have hfp := fst_pos (i := r) HM.out.out hq
            have hsp := spot_of (G := G) (N := 8) (M := 16) (i := r) HM.out.out hq hr
            rw [show ((8 : Nat) : Int) = 8 from rfl, show ((16 : Nat) : Int) = 16 from rfl, hfp] at hsp
            have hzk : (List.replicate G (zr 16))[q]? = some (zr 16) := by rw [List.getElem?_replicate, if_pos hq]
            have hzh : hasB (zr 16) r = false := by rw [zr, hasB_zero]
            obtain ⟨ys, hy1, hy2, hy3⟩ := back_one (near := near) l3 hq hr (fun xs hx => by rw [hSt.sp.w3 xs hx]) (fun xs hx => by obtain ⟨k, hk⟩ := List.getElem?_of_mem hx; exact hSt.sp.bytes3 hk) hfz
            have hcd : firmN 8 (List.replicate G (zr 8)) + firmN 16 ((List.replicate G (zr 16)).set q (withB (zr 16) r true)) = 1 := by
              rw [firmN_put hzk (Bytes.rep _) (by omega) (by rw [zr_len]; omega) hzh, hz0, hz8]
            have hBase := hSt.sp.all4
            have hWB := hSt.hB
            have HB := hide (fun w' (hE : Ext wr w') => space_Block_no (hSt.sp.ext hE) near hb3)
            have HI := hide (fun w' (hE : Ext wr w') => space_Inode_no (hSt.sp.ext hE) near hb1)
            have HD := hide (fun w' (hE : Ext wr w') => space_Defer2_ok (hSt.sp.ext hE) hsp hxs hzk hxr hzh)
            have HB2 := hide (fun w' (h : SpaceAt w' w2.heap.size g p G 8 16 tn (List.replicate G (zr 8)) tb ((List.replicate G (zr 16)).set q (withB (zr 16) r true))) => space_Block_no h near hb3)
            have HFM := hide (fun w' (h : SpaceAt w' w2.heap.size g p G 8 16 tn (List.replicate G (zr 8)) tb ((List.replicate G (zr 16)).set q (withB (zr 16) r true))) => (show Calls Try.prog 29 #[.pointer (some ⟨g, 0, none⟩)] w' fun e w'' => e = .returned (.int .i64 1) ∧
              SpaceAt w'' w2.heap.size g p G 8 16 (firmT 8 tn (List.replicate G (zr 8))) (List.replicate G (zr 8)) (firmT 16 tb ((List.replicate G (zr 16)).set q (withB (zr 16) r true))) (List.replicate G (zr 16)) ∧ Turned [p.g1, p.g2, p.g3, p.g4] w' w'' by
                have := space_Firm h
                rwa [hcd] at this))
            have HB3 := hide (fun w' (h : SpaceAt w' w2.heap.size g p G 8 16 (firmT 8 tn (List.replicate G (zr 8))) (List.replicate G (zr 8)) (firmT 16 tb ((List.replicate G (zr 16)).set q (withB (zr 16) r true))) (List.replicate G (zr 16))) =>
              (show Calls Try.prog 25 #[.pointer (some ⟨g, 0, none⟩), .int .i64 near] w' fun e w'' => e = .returned (.tuple #[.int .i64 ((posN q r : Nat) : Int), .int .i64 0]) ∧ Turned [p.g3] w' w'' by
                have := space_Block_ok h near hy2 hy1 hy3
                rw [show ((8 : Nat) : Int) = 8 from rfl, show ((16 : Nat) : Int) = 16 from rfl, hfp] at this
                exact this.mono fun e w'' ⟨a, b, c⟩ => ⟨a, c⟩))
            have HE1 := hide (fun w1 w2' (hE : Ext wr w1) (hT : Turned [p.g4] w1 w2') => Turned.ext (hSt.ex.trans hE) hT (fun x hx => by have := hBase x (by simp at hx; simp [hx]); omega))
            have HE2 := hide (fun w1 w2' (hE : Ext w w1) (hT : Turned [p.g1, p.g2, p.g3, p.g4] w1 w2') => Turned.ext hE hT (fun x hx => by have := hBase x hx; omega))
            have HE3 := hide (fun w1 w2' (hE : Ext w w1) (hT : Turned [p.g3] w1 w2') => Turned.ext hE hT (fun x hx => by have := hBase x (by simp at hx; simp [hx]); omega))
            have hge := hSt.ge
            have i1 : (ix : Int) < (G : Int) * 16 := by omega
            generalize posN q r = V at *
            clear hBase hSt hfz hfn hb3 hb1 hsum hsum3 hct hcn hfp hsp hzk hzh hy1 hy2 hy3 hcd hxs hxr hv HM hS4
            go_wp2_with (first
              | (with_reducible refine ag_load (o := ⟨some 99, _, _, _, _, _⟩) rfl 24 (.tmp 7) rfl w.heap.size 3 w.heap.size 24 _ rfl hge agg_geo info_geo ?_)
              | (go_at_call 22; with_reducible refine (hIN _).mono ?_; rintro e w5 ⟨rfl, hE5⟩)
              | (go_at_call 25; with_reducible refine (HB.out _ hE5).mono ?_; rintro e w6 ⟨rfl, hE6⟩)
              | (go_at_call 27; with_reducible refine (HI.out _ (hE5.trans hE6)).mono ?_; rintro e w7 ⟨rfl, hE7⟩; have hX7 := (hE5.trans hE6).trans hE7; have hcA7 := hX7.cell hcA)
              | (go_at_call 7; with_reducible refine (hL2 _).mono ?_; rintro e w' ⟨rfl, rfl⟩)
              | (go_at_call 28; with_reducible refine (HD.out _ hX7).mono ?_; rintro e w8 ⟨rfl, hS8, hT8⟩; have hX8 := HE1.out _ _ hX7 hT8)
              | (go_at_call 25; with_reducible refine (HB2.out _ hS8).mono ?_; rintro e w9 ⟨rfl, hE9⟩; have hS9 := hS8.ext hE9)
              | (go_at_call 29; with_reducible refine (HFM.out _ hS9).mono ?_; rintro e w10 ⟨rfl, hS10, hT10⟩; have hX10 := HE2.out _ _ (hX8.trans hE9) hT10)
              | (go_at_call 25; with_reducible refine (HB3.out _ hS10).mono ?_; rintro e w11 ⟨rfl, hT11⟩; have hX11 := HE3.out _ _ hX10 hT11)
              | (go_at_call 25; with_reducible refine (nil_Block _ _).mono ?_; rintro e w' ⟨rfl, rfl⟩)
              | (go_at_call 15; with_reducible refine (nil_Left _).mono ?_; rintro e w' ⟨rfl, rfl⟩)
              | (go_at_call 9; with_reducible refine (nil_Mark _ _ _).mono ?_; rintro e w' ⟨rfl, rfl⟩)
              | (go_at_call 29; with_reducible refine (nil_Firm _).mono ?_; rintro e w' ⟨rfl, rfl⟩)
              | (go_at_call 12; with_reducible refine (law16_awake _).mono ?_; rintro e w12 ⟨rfl, hE12⟩))
            go_ret
            exact ⟨rfl, hX11.trans hE12⟩
end Go.Proofs.Ytillhbbeghbfeaa
