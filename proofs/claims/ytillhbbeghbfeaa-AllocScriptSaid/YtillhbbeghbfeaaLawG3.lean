/- AllocBack. -/
import Derived.Test.YtillhbbeghbfeaaLawG2
import Derived.Test.YtillhbbeghbfeaaArg
namespace Go.Proofs.Ytillhbbeghbfeaa
set_option linter.unusedVariables false
open Go.RowKit

/-- Where the law stands: behind so many marks. -/
structure Back (w0 w : World) (B g : Nat) (p : Pl) (G : Nat) (A : Option Addr) (c : Nat) (bs : List Bool) (tb db : List (List Nat)) : Prop where
  sp : SpaceAt w B g p G 8 16 (List.replicate G (zr 8)) (List.replicate G (zr 8)) tb db
  bo : Own w w0.heap.size 4 A (2 + 19 * G) c (bl bs)
  ge : Own w w0.heap.size 24 (some ⟨w0.heap.size, 0, none⟩) 3 3 (i64s (geo (G : Int) 8 16))
  iz : IsOf G bs tb
  sb : SubAll tb db
  ex : Ext w0 w
section
variable {w0 w w' : World} {B g : Nat} {p : Pl} {G : Nat} {A : Option Addr} {c : Nat} {bs : List Bool} {tb db : List (List Nat)}
theorem Back.ext (h : Back w0 w B g p G A c bs tb db) (hE : Ext w w') : Back w0 w' B g p G A c bs tb db :=
  { h with sp := h.sp.ext hE, bo := h.bo.ext hE, ge := h.ge.ext hE, ex := h.ex.trans hE }
theorem Back.len (h : Back w0 w B g p G A c bs tb db) : bs.length = 2 + 19 * G := by have := h.bo.len; rwa [bl_len] at this
end
theorem grown_tags {w : World} {B f n c e : Nat} {A : Option Addr} {vs : List Value} (h : Own w B f A n c vs) (he : f ≠ e) : ∀ x ∈ (Value.slice A n c).ownBlock.toList, ¬ Tag w x e := by
  intro x hx ht
  cases A with
  | none => simp [Value.ownBlock] at hx
  | some a =>
    have e : x = a.block := by simpa [Value.ownBlock] using hx
    subst e
    exact he (h.tag.uniq ht)
/-- Behind an append to a row of another type. -/
theorem Own.across {w w' : World} {B B' e f n c m d : Nat} {A A2 : Option Addr} {vs us : List Value} (h : Own w B e A n c vs) (hO : Own w B' f A2 m d us) (he : f ≠ e) (hG : w.grownBy w' (Value.slice A2 m d).ownBlock) : Own w' B e A n c vs :=
  (Turned.grown hG).own h (h.off (grown_tags hO he))
theorem SpaceAt.across {w w' : World} {B B' g f m d : Nat} {p : Pl} {G N M : Nat} {tn dn tb db : List (List Nat)} {A2 : Option Addr} {us : List Value} (h : SpaceAt w B g p G N M tn dn tb db) (hO : Own w B' f A2 m d us)
    (h1 : f ≠ 64) (h2 : f ≠ 43) (h3 : f ≠ 5) (hG : w.grownBy w' (Value.slice A2 m d).ownBlock) : SpaceAt w' B g p G N M tn dn tb db :=
  h.turn (Turned.grown hG) (grown_tags hO h1) (grown_tags hO h2) (grown_tags hO h3)
theorem Back.mark {w0 w w' : World} {B g gb : Nat} {p : Pl} {G : Nat} {c : Nat} {bs : List Bool} {tb db : List (List Nat)} (h : Back w0 w B g p G (some ⟨gb, 0, none⟩) c bs tb db) {k i : Nat} {xs : List Nat} (hk : k < G) (hi : i < 16) (hx : tb[k]? = some xs) (hxi : hasB xs i = false) (hB : w0.heap.size ≤ B)
    (hS : SpaceAt w' B g p G 8 16 (List.replicate G (zr 8)) (List.replicate G (zr 8)) (tb.set k (withB xs i true)) db) (hT : Turned [p.g3] w w') :
    w'.cell? ⟨gb, posN k i, none⟩ = some (.bool false) ∧ w'.frozen? ⟨gb, posN k i, none⟩ = false ∧ Back w0 (w'.setCell ⟨gb, posN k i, none⟩ (.bool true)) B g p G (some ⟨gb, 0, none⟩) c (bs.set (posN k i) true) (tb.set k (withB xs i true)) db := by
  have hbo := h.sp.beside hT (by simp) h.bo (by decide)
  have hge := h.sp.beside hT (by simp) h.ge (by decide)
  have hE : Ext w0 w' := Turned.ext h.ex hT (fun x hx => by rw [List.mem_singleton] at hx; subst hx; have := h.sp.r3.base; omega)
  have hl := h.len
  have hq : posN k i < 2 + 19 * G := by unfold posN; omega
  have hxl := h.sp.w3 xs (List.mem_of_getElem? hx)
  have hb := h.sp.bytes3 hx
  have hiz := h.iz k i xs hk hi hx
  have hTs : Turned [gb] w' (w'.setCell ⟨gb, posN k i, none⟩ (.bool true)) := Turned.setCell _ _ _ _
  have ht : ∀ {e : Nat}, 4 ≠ e → ∀ x ∈ [gb], ¬ Tag w' x e := fun he x hx ht => by
    rw [List.mem_singleton] at hx; subst hx; exact he (hbo.tag.uniq ht)
  refine ⟨?_, hbo.frozenAt _, hS.turn hTs (ht (by decide)) (ht (by decide)) (ht (by decide)), ?_, hTs.own hge (hge.off (ht (by decide))), h.iz.put hl hk hi hx hb (by omega), h.sb.put hx hb, ?_⟩
  · rw [hbo.cellAt _ hq, bl_get hiz, hxi]
  · rw [← bl_set]; exact hbo.store _ _ rfl
  · exact hE.setCell (p := ⟨gb, posN k i, none⟩) hbo.base _
theorem Back.defer {w0 w w' : World} {B g : Nat} {A : Option Addr} {p : Pl} {G : Nat} {c : Nat} {bs : List Bool} {tb db : List (List Nat)} (h : Back w0 w B g p G A c bs tb db) {k i : Nat} {xs ys : List Nat} (hx : tb[k]? = some xs) (hy : db[k]? = some ys) (hxi : hasB xs i = true) (hB : w0.heap.size ≤ B)
    (hS : SpaceAt w' B g p G 8 16 (List.replicate G (zr 8)) (List.replicate G (zr 8)) tb (db.set k (withB ys i true))) (hT : Turned [p.g4] w w') : Back w0 w' B g p G A c bs tb (db.set k (withB ys i true)) :=
  ⟨hS, h.sp.beside hT (by simp) h.bo (by decide), h.sp.beside hT (by simp) h.ge (by decide), h.iz, h.sb.put2 hx hy (h.sp.bytes4 hy) hxi, Turned.ext h.ex hT (fun x hx => by rw [List.mem_singleton] at hx; subst hx; have := h.sp.r4.base; omega)⟩
set_option maxRecDepth 100000 in
set_option maxHeartbeats 4000000 in
theorem law_AllocBack (w : World) (a : Int) (_a1 : -9223372036854775808 ≤ a) (_a2 : a ≤ 9223372036854775807) (A : Option Addr) (n c : Nat) (is : List Int) (h : Sl w A n c (is.map (Value.int .i64))) (_hw : ∀ x ∈ is, (Lit.int .i64 x).wf = true)
    (z : Int) (_z1 : -9223372036854775808 ≤ z) (_z2 : z ≤ 9223372036854775807) :
    Calls Try.prog 6 #[.int .i64 a, .slice A n c, .int .i64 z] w fun e w' => e = .returned (.bool true) ∧ Ext w w' := by
  have hS : Sl w A n c (i64s is) := h
  have hl : is.length = n := by have := hS.len; rwa [i64s_len] at this
  have hm : n ≤ 9223372036854775807 := Nat.le_trans h.nc h.cm
  have HL := hide hl
  have hwf : ∀ k x, is[k]? = some x → -9223372036854775808 ≤ x ∧ x ≤ 9223372036854775807 := fun k x hx => i64_wf (_hw x (List.mem_of_getElem? hx))
  have HWF := hide hwf
  clear h _hw hl hwf
  by_cases l1 : (20 : Int) < n
  · go_enter Try.func6, Try.ntmps6
    go_wp2_with (go_at_call 12; refine (law16_awake _).mono ?_; rintro e w2 ⟨rfl, hE2⟩)
    go_ret
    exact ⟨rfl, hE2⟩
  have hL1 := fun w => Low a 4 4 w rfl (by omega) (by omega)
  have hg4 := low_lt a (n := 4) (by omega)
  generalize low a 4 = G0 at *
  obtain ⟨G, hGe⟩ : ∃ G, G = 1 + G0 := ⟨_, rfl⟩
  have hGi : (1 : Int) + (G0 : Int) = (G : Int) := by omega
  have HGI := hide hGi
  have hGb : 1 ≤ G ∧ G ≤ 4 := by omega
  clear hGi hGe
  have hmay : mayG (G : Int) ((8 : Nat) : Int) ((16 : Nat) : Int) := by unfold mayG; omega
  have HN := hide (fun w => show Calls Try.prog 8 #[.agg (i64s (geo (G : Int) 8 16)).toArray] w fun e w' =>
    ∃ g p, e = .returned (.pointer (some ⟨g, 0, none⟩)) ∧ SpaceAt w' w.heap.size g p G 8 16 (List.replicate G (zr 8)) (List.replicate G (zr 8)) (List.replicate G (zr 16)) (List.replicate G (zr 16)) ∧ Ext w w' from alloc_New G 8 16 hmay w)
  have HM := hide (hide hmay)
  clear hmay
  go_enter Try.func6, Try.ntmps6
  go_wp2_with (first
    | (go_at_call 7; with_reducible refine (hL1 _).mono ?_; rintro e w' ⟨rfl, rfl⟩)
    | (with_reducible refine ag_alloc (o := ⟨some 7, _, _, _, _, _⟩) rfl 24 rfl _ 3 zero_geo rfl (by omega) (i64s_one _) w.heap.size (Nat.le_refl _) ?_; intro w1 hR1 hE1 hz1)
    | (with_reducible refine ag_store (o := ⟨none, _, _, _, _, _⟩) rfl 24 (.tmp 7) (.tmp 28) rfl w.heap.size 3 w.heap.size 24 _ (i64s (geo (1 + (G0 : Int)) 8 16)) rfl rfl hR1 rfl (i64s_one _) info_geo ?_; intro w2 hR2 hG2; rw [HGI.out] at hR2)
    | (with_reducible refine ag_load (o := ⟨some 29, _, _, _, _, _⟩) rfl 24 (.tmp 7) rfl w.heap.size 3 w.heap.size 24 _ rfl hR2 agg_geo info_geo ?_)
    | (go_at_call 8; with_reducible refine (HN.out _).mono ?_; rintro e w3 ⟨g, p, rfl, hSp, hE3⟩))
  have hE2 : Ext w w2 := hE1.grown hG2 (by simp)
  have hR3 := hR2.ext hE3
  have hEW := hE2.trans hE3
  have hsz2 := hE2.size
  have hsec := fun w => geom_Sectors (G : Int) 8 16 w
  rw [sec_pos HM.out.out] at hsec
  have HSEC := hide hsec
  clear hsec hR1 hR2 hG2 hE1 hE2 hE3 hz1
  go_loopw [9, 10] (fun v i wr => ∃ (k : Nat) (A1 : Option Addr) (c1 : Nat), k ≤ 2 + 19 * G ∧ v = .slice A1 k c1 ∧ i = .int .i64 k ∧ Own wr w.heap.size 4 A1 k c1 (bl (List.replicate k false)) ∧
    SpaceAt wr w2.heap.size g p G 8 16 (List.replicate G (zr 8)) (List.replicate G (zr 8)) (List.replicate G (zr 16)) (List.replicate G (zr 16)) ∧
    Own wr w.heap.size 24 (some ⟨w.heap.size, 0, none⟩) 3 3 (i64s (geo (G : Int) 8 16)) ∧ Ext w wr) (fun _ i _ => 2 + 19 * G - (intOf i).toNat)
  case atStart => exact ⟨0, none, 0, by omega, rfl, rfl, Own.nilS _ _ _, hSp, hR3, hEW⟩
  case round =>
    obtain ⟨k, A1, c1, hk, rfl, rfl, hO, hSp, hR, hE⟩ := hrel
    have hsz := hE.size
    by_cases hlt : k < 2 + 19 * G
    · go_wp2_with (first
        | (with_reducible refine ag_load (o := ⟨some 34, _, _, _, _, _⟩) rfl 24 (.tmp 7) rfl w.heap.size 3 w.heap.size 24 _ rfl hR agg_geo info_geo ?_)
        | (go_at_call 23; with_reducible refine (HSEC.out _).mono ?_; rintro e w4 ⟨rfl, hE4⟩; have hsz4 := hE4.size)
        | (at_builtin; refine appB rfl (.tmp 39) (.tmp 40) rfl w.heap.size _ k c1 _ rfl ((hO.ext hE4).ext ((Ext.refl _).alloc _)) _ 1 1 _ rfl (Sl.lit _ _ 4 1 rfl (by omega) (by simp [Value.oneCell'])) (by omega) (by simp; omega) ?_; intro A5 c5 w5 hO5 hG5))
      have hO4 := (hO.ext hE4).ext ((Ext.refl w4).alloc (.cells #[.bool false] 4))
      have hSp4 := (hSp.ext hE4).ext ((Ext.refl w4).alloc (.cells #[.bool false] 4))
      have hR4 := (hR.ext hE4).ext ((Ext.refl w4).alloc (.cells #[.bool false] 4))
      go_roundw
      case rel => exact ⟨k + 1, A5, c5, by omega, rfl, by go_num, by rw [List.replicate_succ', bl_append]; exact hO5, hSp4.across hO4 (by decide) (by decide) (by decide) hG5, hR4.across hO4 (by decide) hG5, ((hE.trans hE4).alloc _).grown hG5 (fun q hq => (hO.block q hq).1)⟩
      case measure => simp [intOf]; omega
    · obtain rfl : k = 2 + 19 * G := by omega
      have hBk : Back w wr w2.heap.size g p G A1 c1 (List.replicate (2 + 19 * G) false) (List.replicate G (zr 16)) (List.replicate G (zr 16)) := by
        refine ⟨hSp, hO, hR, ?_, ?_, hE⟩
        · intro k i xs hk hi hx
          rw [List.getElem?_replicate, if_pos (by unfold posN; omega)]
          rw [List.getElem?_replicate, if_pos hk] at hx
          cases hx
          rw [zr, hasB_zero]
        · intro k xs ys hx hy i hi hh
          have := List.mem_of_getElem? hy
          rw [List.eq_of_mem_replicate this, zr, hasB_zero] at hh
          cases hh
      have hz1 := firmN_zr 16 G
      obtain ⟨gb, rfl, _, _⟩ := hO.head (by have := hO.sl.nc; omega)
      clear hSp hO hR hE
      go_wp2_with (first
        | (with_reducible refine ag_load (o := ⟨some 34, _, _, _, _, _⟩) rfl 24 (.tmp 7) rfl w.heap.size 3 w.heap.size 24 _ rfl hBk.ge agg_geo info_geo ?_)
        | (go_at_call 23; with_reducible refine (HSEC.out _).mono ?_; rintro e w4 ⟨rfl, hE4⟩))
      have hBk4 := hBk.ext hE4
      clear hBk hE4 HSEC
      go_loopw [11, 12, 13] (fun tk gn i wr => ∃ (j : Nat) (bs : List Bool) (tb db : List (List Nat)), j ≤ n ∧ i = .int .i64 j ∧ tk = .int .i64 (firmN 16 tb : Nat) ∧ gn = .int .i64 (firmN 16 db : Nat) ∧ Back w wr w2.heap.size g p G (some ⟨gb, 0, none⟩) c1 bs tb db) (fun _ _ i _ => n - (intOf i).toNat)
      case atStart => exact ⟨0, _, _, _, by omega, rfl, by rw [hz1]; rfl, by rw [hz1]; rfl, hBk4⟩
      case round =>
        obtain ⟨j, bs, tb, db, hj, rfl, rfl, rfl, hBk⟩ := hrel
        have b3 := hBk.sp.l3
        have b4 := hBk.sp.l4
        have c3 := firmN_le 16 tb
        have c4 := firmN_le 16 db
        rw [b3] at c3
        rw [b4] at c4
        by_cases hlt : j < n
        · obtain ⟨b, o, x, rfl, hx, hc0⟩ := hS.atI hlt
          have hc := hBk.ex.cell hc0
          obtain ⟨x1, x2⟩ := HWF.out j x hx.out
          have hL2 := fun w => Low x (G : Int) G w rfl (by omega) (by omega)
          have hg5 := low_lt x (n := G) (by omega)
          generalize low x G = ki at *
          have hL3 := fun w => Low (IntKind.i64.wrap (x.tdiv 9)) 16 16 w rfl (by omega) (by omega)
          have hg6 := low_lt (IntKind.i64.wrap (x.tdiv 9)) (n := 16) (by omega)
          generalize low (IntKind.i64.wrap (x.tdiv 9)) 16 = ii at *
          have hfp := fst_pos (i := ii) HM.out.out hg5
          have hpb : posN ki ii < 2 + 19 * G := by unfold posN; omega
          have hW := wrapI (fstG (G : Int) 8 16 (ki : Int) + (ii : Int)) (by omega)
          rw [hfp] at hW
          obtain ⟨xs, hxs⟩ : ∃ xs, tb[ki]? = some xs := ⟨_, List.getElem?_eq_getElem (by omega)⟩
          obtain ⟨ys, hys⟩ : ∃ ys, db[ki]? = some ys := ⟨_, List.getElem?_eq_getElem (by omega)⟩
          have hsp := spot_of (G := G) (N := 8) (M := 16) (i := ii) HM.out.out hg5 hg6
          have hiz := hBk.iz ki ii xs hg5 hg6 hxs
          have HF := hide (fun w => show Calls Try.prog 10 #[.agg #[.int .i64 (G : Int), .int .i64 8, .int .i64 16], .int .i64 (ki : Int)] w fun e w' => e = .returned (.int .i64 (fstG (G : Int) 8 16 ki)) ∧ Ext w w' from geom_First (G : Int) 8 16 (ki : Int) w)
          obtain ⟨e0, e1, e2⟩ := Own.geo hBk.ge
          have i1 : (0 : Int) ≤ (j : Int) := by omega
          have i2 : (j : Int) < (n : Int) := by omega
          obtain ⟨wo, rfl⟩ : ∃ wo : World, wo = wr := ⟨_, rfl⟩
          go_wp2_with fail
          go_region_held3 (fun w' => w'.cell? ⟨w.heap.size, 0, none⟩ = some (.int .i64 (G : Int)) ∧ w'.cell? ⟨w.heap.size, 1, none⟩ = some (.int .i64 8) ∧ w'.cell? ⟨w.heap.size, 2, none⟩ = some (.int .i64 16) ∧ w'.cell? ⟨b, o + j, none⟩ = some (.int .i64 x))
            (first | go_keep | (exact ⟨hE5.cell e0, hE5.cell e1, hE5.cell e2, hE5.cell hc⟩))
            (first
              | (go_at_call 7; with_reducible refine (hL2 _).mono ?_; rintro e w' ⟨rfl, rfl⟩)
              | (go_at_call 10; with_reducible refine (HF.out _).mono ?_; rintro e w5 ⟨rfl, hE5⟩)
              | (go_at_call 7; with_reducible refine (hL3 _).mono ?_; rintro e w' ⟨rfl, rfl⟩))
          have hB5 := hBk.ext (((Ext.refl wo).drew).trans hE5)
          rw [show ((8 : Nat) : Int) = 8 from rfl, show ((16 : Nat) : Int) = 16 from rfl, hfp] at hsp
          clear hfp hW hL2 hL3 HF hBk hE5 e0 e1 e2 hc hc0
          have hl3 := hB5.sp.w3 xs (List.mem_of_getElem? hxs)
          have hbx := hB5.sp.bytes3 hxs
          rcases hxi : hasB xs ii with _ | _
          · have hM := fun w' => @Back.mark w w5 w' w2.heap.size g gb p G c1 bs tb db hB5 ki ii xs hg5 hg6 hxs hxi hsz2
            have hcnt := firmN_put (n := 16) hxs hbx (i := ii) (by omega) (by omega) hxi
            have hMK := space_Mark2_ok hB5.sp hsp hxs hxi
            have HMK := hide hMK
            clear hMK
            have hyi : hasB ys ii = false := by
              cases hh : hasB ys ii
              · rfl
              · rw [hB5.sb ki xs ys hxs hys ii (by omega) hh] at hxi; cases hxi
            have hx2 : (tb.set ki (withB xs ii true))[ki]? = some (withB xs ii true) := List.getElem?_set_self (by omega)
            have hxi2 : hasB (withB xs ii true) ii = true := by rw [hasB_withB hbx, if_pos ⟨rfl, by omega⟩]
            have hcd := firmN_put (n := 16) hys (hB5.sp.bytes4 hys) (i := ii) (by omega) (by rw [hB5.sp.w4 ys (List.mem_of_getElem? hys)]; omega) hyi
            have HX := hide (And.intro hx2 (And.intro hxi2 (And.intro hyi (And.intro hcnt hcd))))
            clear hx2 hxi2 hyi hcnt hcd
            rcases hbit : (bits .and .i64 (z / 2 ^ j) 1 == 1) with _ | _
            · go_wp2_with ((go_at_call 9; with_reducible refine HMK.out.mono ?_; rintro e w6 ⟨rfl, hS6, hT6⟩; obtain ⟨k1, k2, hB7⟩ := hM w6 hS6 hT6))
              go_roundw
              case rel => exact ⟨j + 1, _, _, db, by omega, by go_num, by rw [HX.out.2.2.2.1]; go_num, rfl, hB7⟩
              case measure => simp [intOf]; omega
            · go_wp2_with (first
                | (go_at_call 9; with_reducible refine HMK.out.mono ?_; rintro e w6 ⟨rfl, hS6, hT6⟩; obtain ⟨k1, k2, hB7⟩ := hM w6 hS6 hT6)
                | (go_at_call 28; refine (space_Defer2_ok hB7.sp hsp HX.out.1 hys HX.out.2.1 HX.out.2.2.1).mono ?_; rintro e w8 ⟨rfl, hS8, hT8⟩; have hB8 := hB7.defer HX.out.1 hys HX.out.2.1 hsz2 hS8 hT8)
                | (go_at_call 9; refine (space_Mark2_ex hB8.sp hsp HX.out.1 HX.out.2.1).mono ?_; rintro e w9 ⟨rfl, hE9⟩))
              go_roundw
              case rel => exact ⟨j + 1, _, _, _, by omega, by go_num, by rw [HX.out.2.2.2.1]; go_num, by rw [HX.out.2.2.2.2]; go_num, hB8.ext hE9⟩
              case measure => simp [intOf]; omega
          · have HMK := hide (space_Mark2_ex hB5.sp hsp hxs hxi)
            have hcq : w5.cell? ⟨gb, posN ki ii, none⟩ = some (.bool true) := by rw [hB5.bo.cellAt _ hpb, bl_get hiz, hxi]
            go_wp2_with ((go_at_call 9; with_reducible refine HMK.out.mono ?_; rintro e w6 ⟨rfl, hE6⟩; have hcq6 := hE6.cell hcq))
            go_roundw
            case rel => exact ⟨j + 1, bs, tb, db, by omega, by go_num, rfl, rfl, hB5.ext hE6⟩
            case measure => simp [intOf]; omega
        · obtain rfl : j = n := by omega
          have b1 := hBk.sp.l1
          have b2 := hBk.sp.l2
          have hLf := space_Left hBk.sp
          have hFm := fun w' (hE' : Ext wr w') => space_Firm (hBk.sp.ext hE')
          have s1 := sumF_all 16 tb
          rw [b3] at s1
          have s2 := sumF_all 16 (firmT 16 tb db)
          rw [firmT_len, b3, b4, Nat.min_self] at s2
          have s3 := firmN_firmT (n := 16) (t := tb) (d := db) (by rw [b3, b4]) (fun k x y hx hy => ⟨hBk.sp.bytes3 hx, by rw [hBk.sp.w3 x (List.mem_of_getElem? hx)]; omega, hBk.sb k x y hx hy⟩)
          have s4 := sumF_all 8 (firmT 8 (List.replicate G (zr 8)) (List.replicate G (zr 8)))
          rw [firmT_len, b1, Nat.min_self] at s4
          have s5 := firmN_firmT (n := 8) (t := List.replicate G (zr 8)) (d := List.replicate G (zr 8)) rfl (fun k x y hx hy => ⟨hBk.sp.bytes1 hx, by rw [hBk.sp.w1 x (List.mem_of_getElem? hx)]; omega, fun i hi hh => by rw [List.eq_of_mem_replicate (List.mem_of_getElem? hy), zr, hasB_zero] at hh; cases hh⟩)
          have s6 := firmN_zr 8 G
          have s7 := firmN_zr 16 G
          rw [s6] at hFm s5
          have hBL := fun w => geom_Blocks (G : Int) 8 16 w
          have hIN := fun w => geom_Inodes (G : Int) 8 16 w
          have hm8 : mayG (G : Int) 8 16 := HM.out.out
          rw [blosG_yes hm8] at hBL
          rw [inosG_yes hm8] at hIN
          have hL2 := fun w' (h : SpaceAt w' w2.heap.size g p G 8 16 (firmT 8 (List.replicate G (zr 8)) (List.replicate G (zr 8))) (List.replicate G (zr 8)) (firmT 16 tb db) (List.replicate G (zr 16))) => space_Left h
          have hF2 := fun w' (h : SpaceAt w' w2.heap.size g p G 8 16 (firmT 8 (List.replicate G (zr 8)) (List.replicate G (zr 8))) (List.replicate G (zr 8)) (firmT 16 tb db) (List.replicate G (zr 16))) => space_Firm h
          rw [s6, s7] at hF2
          have hBase := hBk.sp.all4
          have hKeep := fun w5 w6 (hE5 : Ext wr w5) (hT6 : Turned [p.g1, p.g2, p.g3, p.g4] w5 w6) => And.intro ((hBk.sp.ext hE5).beside hT6 (fun x hx => hx) (hBk.ge.ext hE5) (by decide)) (Turned.ext (hBk.ex.trans hE5) hT6 (fun x hx => by have := hBase x hx; omega))
          have hKeep2 := fun w5 w6 (hE5 : Ext w w5) (hT6 : Turned [p.g1, p.g2, p.g3, p.g4] w5 w6) => Turned.ext hE5 hT6 (fun x hx => by have := hBase x hx; omega)
          generalize sumF 16 tb G = m1 at *
          generalize sumF 8 (List.replicate G (zr 8)) G = m0 at *
          generalize sumF 16 (firmT 16 tb db) G = m2 at *
          generalize sumF 8 (firmT 8 (List.replicate G (zr 8)) (List.replicate G (zr 8))) G = m3 at *
          generalize firmN 16 (firmT 16 tb db) = f2 at *
          generalize firmN 8 (firmT 8 (List.replicate G (zr 8)) (List.replicate G (zr 8))) = f3 at *
          generalize firmN 16 tb = f1 at *
          generalize firmN 16 db = f4 at *
          have HFM := hide hFm
          have HL2 := hide hL2
          have HF2 := hide hF2
          have HK := hide hKeep
          have HK2 := hide hKeep2
          clear hFm hL2 hF2 hKeep hKeep2 hBase hBk HM HN hL1 HGI hBk4 hEW hR3 hSp hz1 HWF s6 s7 hm8
          go_wp2_with (first
            | (go_at_call 15; with_reducible refine hLf.mono ?_; rintro e w5 ⟨rfl, hE5⟩)
            | (go_at_call 29; with_reducible refine (HFM.out _ hE5).mono ?_; rintro e w6 ⟨rfl, hS6, hT6⟩; obtain ⟨hG6, hX6⟩ := HK.out _ _ hE5 hT6)
            | (go_at_call 15; with_reducible refine (HL2.out _ hS6).mono ?_; rintro e w7 ⟨rfl, hE7⟩)
            | (with_reducible refine ag_load (o := ⟨some 127, _, _, _, _, _⟩) rfl 24 (.tmp 7) rfl w.heap.size 3 w.heap.size 24 _ rfl (hG6.ext hE7) agg_geo info_geo ?_)
            | (go_at_call 24; with_reducible refine (hBL _).mono ?_; rintro e w8 ⟨rfl, hE8⟩)
            | (with_reducible refine ag_load (o := ⟨some 146, _, _, _, _, _⟩) ?k146 24 (.tmp 7) rfl w.heap.size 3 w.heap.size 24 _ rfl ((hG6.ext hE7).ext hE8) agg_geo info_geo ?_; case k146 => go_simp)
            | (go_at_call 22; with_reducible refine (hIN _).mono ?_; rintro e w9 ⟨rfl, hE9⟩)
            | (go_at_call 29; with_reducible refine (HF2.out _ (((hS6.ext hE7).ext hE8).ext hE9)).mono ?_; rintro e w10 ⟨rfl, hS10, hT10⟩; have hX10 := HK2.out _ _ (((hX6.trans hE7).trans hE8).trans hE9) hT10)
            | (go_at_call 12; with_reducible refine (law16_awake _).mono ?_; rintro e w11 ⟨rfl, hE11⟩))
          go_ret
          exact ⟨rfl, hX10.trans hE11⟩
end Go.Proofs.Ytillhbbeghbfeaa
