/- Contracts of spaces: what is taken. -/
import Derived.Test.YtillhbbeghbfeaaAlcW
namespace Go.Proofs.Ytillhbbeghbfeaa
set_option linter.unusedVariables false
open Go.RowKit

theorem put_row {w w0 w3 : World} {B g1 c1 : Nat} {t : List (List Nat)} {k : Nat} {A : Option Addr} {n c : Nat} {xs ys : List Nat} (h : RowsIs w B g1 c1 t) (hE : Ext w w3) (hO : Own w3 w0.heap.size 5 A n c (by8 ys)) (he : ys = xs)
    (hb : Bytes xs) (hB : B ≤ w0.heap.size) : RowsIs (w3.setCell ⟨g1, k, none⟩ (.slice A n c)) B g1 c1 (t.set k xs) ∧ Turned [g1] w (w3.setCell ⟨g1, k, none⟩ (.slice A n c)) := by
  subst he
  exact ⟨(h.ext hE).store (hO.low hB) hb, (hE.turned _).trans (Turned.setCell _ _ _ _)⟩
theorem set_pick_no (a : Addr) (k : Int) (w : World) (hk : k < 0) : Calls Try.prog 54 #[.pointer (some a), .int .i64 k] w fun e w' => e = .returned (.tuple #[.int .i64 0, .bool false]) ∧ w = w' := by
  go_enter Try.func54, Try.ntmps54
  go_wp2_with fail
  go_ret2
  exact ⟨rfl, rfl⟩
set_option maxHeartbeats 2000000 in
theorem set_pick {w : World} {B g o each g1 c1 g2 c2 : Nat} {t d : List (List Nat)} (h : SetAt w B g o each g1 c1 g2 c2 t d) {k : Nat} {xs : List Nat} (hk : t[k]? = some xs) {r : Nat} (hr : FirstIs xs 0 (each : Int) (r : Int)) (hB : B ≤ w.heap.size) :
    Calls Try.prog 54 #[.pointer (some ⟨g, o, none⟩), .int .i64 (k : Int)] w fun e w' =>
      e = .returned (.tuple #[.int .i64 (r : Int), .bool true]) ∧ RowsIs w' B g1 c1 (t.set k (withB xs r true)) ∧ Turned [g1] w w' := by
  have hle := h.le
  have hkl := (List.getElem?_eq_some_iff.1 hk).1
  have hxl := h.wt xs (List.mem_of_getElem? hk)
  obtain ⟨A, n, cA, hc, hf, hO, hb⟩ := h.rt.row hk
  have hn := hO.len
  rw [by8_len] at hn
  have ce := h.ce
  have ct := h.ct
  have i1 : (0 : Int) ≤ (k : Int) := by omega
  have i2 : (k : Int) < (t.length : Int) := by omega
  have hr2 : r < each := by rcases hr with ⟨h1, _⟩ | ⟨_, _, h3, _⟩ <;> omega
  have hwl := withB_len xs r true
  have HF := hide (fun w' (hE : Ext w w') => bits_First_is A n cA xs 0 (each : Int) w' (hO.sl.ext hE) hb (by omega) (by omega) hr)
  have HW := hide (fun w' (hE : Ext w w') => bits_With A n cA xs (r : Int) true w' (hO.sl.ext hE) hb (by omega) (by omega))
  have HT := hide (h.rt)
  have HB2 := hide (hb.withB r true)
  clear hn hxl hk hwl hr
  go_enter Try.func54, Try.ntmps54
  go_wp2_with fail
  go_region_held3 (fun w' => w'.cell? ⟨g, o, none⟩ = some (.int .i64 (each : Int)) ∧ w'.cell? ⟨g, o + 1, none⟩ = some (.slice (some ⟨g1, 0, none⟩) t.length c1) ∧ w'.cell? ⟨g1, k, none⟩ = some (.slice A n cA))
    (go_keep)
    ((go_at_call 68; refine (HF.out _ ((Ext.refl _).drew)).mono ?_; rintro e w2 ⟨rfl, rfl⟩))
  go_wp2_with fail
  go_region_with ((go_at_call 34; refine (HW.out _ (((Ext.refl _).drew).drew)).mono ?_; rintro e w3 ⟨A3, c3, rfl, hO3, hE3⟩; have ct3 := hE3.cell ct; have cc3 := hE3.cell hc; have cf3 := (hE3.frozen (World.block_lt_of_cell? _ _ hc)).trans hf))
  all_goals
    go_wp2
    go_ret2
    exact ⟨rfl, put_row HT.out (((Ext.refl w).drew.drew).trans hE3) hO3 (by rw [if_pos (by omega), Int.toNat_natCast]) HB2.out hB⟩
theorem results_tmp4 {fn : Func} {t u v x : Tmp} (h : fn.results = #[.tmp t, .tmp u, .tmp v, .tmp x]) (tmps : Array Value) (P : Program) (w : World) :
    (results fn tmps).run P w = .ok (.tuple #[tmps.getD t undef, tmps.getD u undef, tmps.getD v undef, tmps.getD x undef]) w := by
  simp [results, h]
section
variable {P : Program} {w : World} {ops : Array Oper} {rest : List Oper} {o : Oper} {a : Act} {Q : Exit → Act → World → Prop}
/-- A part of a row, its values told. -/
theorem ag_loadUs (us : List Value) (hw : Region.wanted o (yielded ops a.tmps) = true) (t : TypeId) (x : Operand) (ho : o.op = .load t x) (g off k n c B e : Nat) (vs : List Value) (hu : us = (vs.drop off).take k)
    (hx : a.eval x = .pointer (some ⟨g, off, none⟩)) (hO : Own w B e (some ⟨g, 0, none⟩) n c vs) (hagg : ∀ w1, (isAgg t).run P w1 = .ok true w1) (hi : (P.info? t).map (·.size) = some k) (hk : off + k ≤ n)
    (h : wpList P ops Q rest (a.put o.dst (.agg us.toArray)) w) : wpList P ops Q (o :: rest) a w :=
  ag_loadAt hw t x ho g off k n c B e vs hx hO hagg hi hk (hu ▸ h)
end
theorem asked_no (a : Addr) (ino blk : Int) (w : World) (h : ino = 0 ↔ blk = 0) :
    Calls Try.prog 32 #[.pointer (some a), .int .i64 ino, .int .i64 blk] w fun e w' => e = .returned (.tuple #[.pointer none, .int .i64 0, .int .i64 0, .bool false]) ∧ w = w' := by
  by_cases hi : ino = 0
  · obtain rfl : blk = 0 := h.1 hi
    subst hi
    clear h
    go_enter Try.func32, Try.ntmps32
    go_wp2_with fail
    exact bodyPost_ret (results_tmp4 rfl _ _ _) rfl ⟨rfl, rfl⟩
  · have hb : ¬ blk = 0 := fun hh => hi (h.2 hh)
    have d1 : (ino == 0) = false := by simpa using hi
    have d2 : (blk == 0) = false := by simpa using hb
    clear h hi hb
    go_enter Try.func32, Try.ntmps32
    go_wp2_with fail
    exact bodyPost_ret (results_tmp4 rfl _ _ _) rfl ⟨rfl, rfl⟩
theorem spc_geo (G N M : Nat) (p : Pl) : i64s (geo (G : Int) (N : Int) (M : Int)) = ((spc G N M p).drop 0).take 3 := rfl
set_option maxHeartbeats 1000000 in
theorem asked_ino {w : World} {B g : Nat} {p : Pl} {G N M : Nat} {tn dn tb db : List (List Nat)} (h : SpaceAt w B g p G N M tn dn tb db) (ino : Int) (hi0 : -9223372036854775808 ≤ ino) (hi : ¬ ino = 0) :
    Calls Try.prog 32 #[.pointer (some ⟨g, 0, none⟩), .int .i64 ino, .int .i64 0] w fun e w' =>
      e = .returned (.tuple #[.pointer (some ⟨g, 3, none⟩), .int .i64 (oinK G N M ino), .int .i64 (oinI G N M ino), .bool (decide (0 ≤ oinK G N M ino))]) ∧ Ext w w' := by
  have d1 : (ino == 0) = false := by simpa using hi
  have hO := fun w => geom_OfInode (G : Int) (N : Int) (M : Int) ino w hi0
  have hS := h.own
  clear hi h
  generalize oinK G N M ino = k at *
  generalize oinI G N M ino = i at *
  have H0 := hide hO
  clear hO
  go_enter Try.func32, Try.ntmps32
  go_wp2_with (with_reducible refine ag_loadUs (i64s (geo (G : Int) (N : Int) (M : Int))) rfl 24 _ rfl g 0 3 9 9 B 64 _ (spc_geo G N M p) rfl hS agg_geo info_geo (by omega) ?_)
  refine (H0.out _).mono ?_
  rintro e w2 ⟨rfl, hE2⟩
  go_wp2_with fail
  exact bodyPost_ret (results_tmp4 rfl _ _ _) rfl ⟨rfl, hE2⟩
set_option maxHeartbeats 1000000 in
theorem asked_blk {w : World} {B g : Nat} {p : Pl} {G N M : Nat} {tn dn tb db : List (List Nat)} (h : SpaceAt w B g p G N M tn dn tb db) (blk : Int) (hi : ¬ blk = 0) :
    Calls Try.prog 32 #[.pointer (some ⟨g, 0, none⟩), .int .i64 0, .int .i64 blk] w fun e w' =>
      e = .returned (.tuple #[.pointer (some ⟨g, 6, none⟩), .int .i64 (oblK G N M blk), .int .i64 (oblI G N M blk), .bool (decide (0 ≤ oblK G N M blk))]) ∧ Ext w w' := by
  have d1 : (blk == 0) = false := by simpa using hi
  have hO := fun w => geom_OfInode (G : Int) (N : Int) (M : Int) 0 w (by omega)
  have hO2 := fun w => geom_OfBlock (G : Int) (N : Int) (M : Int) blk w
  have hS := h.own
  clear hi h
  generalize oinK G N M 0 = k0 at *
  generalize oinI G N M 0 = i0 at *
  generalize oblK G N M blk = k at *
  generalize oblI G N M blk = i at *
  have H0 := hide hO
  have H1 := hide hO2
  clear hO hO2
  go_enter Try.func32, Try.ntmps32
  go_wp2_with (with_reducible refine ag_loadUs (i64s (geo (G : Int) (N : Int) (M : Int))) rfl 24 _ rfl g 0 3 9 9 B 64 _ (spc_geo G N M p) rfl hS agg_geo info_geo (by omega) ?_)
  refine (H0.out _).mono ?_
  rintro e w2 ⟨rfl, hE2⟩
  have hS2 := hS.ext hE2
  clear hS
  go_wp2_with (with_reducible refine ag_loadUs (i64s (geo (G : Int) (N : Int) (M : Int))) rfl 24 _ rfl g 0 3 9 9 B 64 _ (spc_geo G N M p) rfl hS2 agg_geo info_geo (by omega) ?_)
  refine (H1.out _).mono ?_
  rintro e w3 ⟨rfl, hE3⟩
  go_wp2_with fail
  exact bodyPost_ret (results_tmp4 rfl _ _ _) rfl ⟨rfl, hE2.trans hE3⟩
end Go.Proofs.Ytillhbbeghbfeaa
