/- Both spaces asked: what each answers. -/
import Derived.Test.YtillhbbeghbfeaaRfk
namespace Go.Proofs.Ytillhbbeghbfeaa
set_option linter.unusedVariables false
open Go.RowKit

section
variable {P : Program} {ops : Array Oper} {Q : Exit → Act → World → Prop} {md : Region.Mode} {S : World → Prop} {fuel : Nat} {listed : Array Bool} {a : Act} {w : World} {oi : Oper} {rest : List Oper}
theorem held_loadAt (i : Nat) (hi : ops.toList.drop i = oi :: rest) (hs : Region.noSelect ops = true) (hf : Region.free md ops listed i = true) (hr : (Region.ready md ops listed).contains i = true)
    (hQ : ∀ (v : Value) c a w, Q (.panic c) (a.put oi.dst v) w → Q (.panic c) a w) (hw : Region.wanted oi (yielded ops a.tmps) = true)
    (ty : TypeId) (x : Operand) (ho : oi.op = .load ty x) (b off : Nat) (cs : List Value) (d : TypeDesc) (hx : a.eval x = .pointer (some ⟨b, off, none⟩)) (hS' : ∀ w, S w → w.rangeAt b off cs)
    (hu : P.underlying ty = some d) (hd : d.isRow = true) (hin : (P.info? ty).map (·.size) = some cs.length) (hS : S w)
    (h : wpAnyH P md ops Q S fuel (listed.setIfInBounds i true) (a.put oi.dst (.agg cs.toArray)) w) : wpAnyH P md ops Q S (fuel + 1) listed a w :=
  wpAnyH_take (drop_get hi) hs hf hr (hQ _) (yieldsIf_load_mid hw ty x ho b off hx cs d hS' hu hd hin) hS h
end
section
variable {w0 w : World} {B g : Nat} {p : Pl} {B2 g2 : Nat} {q : Ql} {G N M : Nat} {tn dn tb db : List (List Nat)}
theorem joint_Group (h : Both w0 w B g p B2 g2 q G N M tn dn tb db) (near : Int) (b : Bool) : ∃ v : Int, ∀ w', Ext w w' →
    (Calls Try.prog 11 #[.pointer (some ⟨g, 0, none⟩), .int .i64 near, .bool b] w' fun e w'' => e = .returned (.int .i64 v) ∧ Ext w' w'') ∧
    (Calls Try.prog 17 #[.pointer (some ⟨g2, 0, none⟩), .int .i64 near, .bool b] w' fun e w'' => e = .returned (.int .i64 v) ∧ Ext w' w'') := by
  refine ⟨_, fun w' hE => ⟨space_Group (h.sp.ext hE) near b, ?_⟩⟩
  cases b
  · simpa using ref_Group_blk (h.rf.ext hE) near (t := tb) (blkL_is G N M tb)
  · simpa using ref_Group_ino (h.rf.ext hE) near (t := tn) (inoL_is G N tn)
theorem joint_Left (h : Both w0 w B g p B2 g2 q G N M tn dn tb db) : ∃ u v : Int, ∀ w', Ext w w' →
    (Calls Try.prog 15 #[.pointer (some ⟨g, 0, none⟩)] w' fun e w'' => e = .returned (.tuple #[.int .i64 u, .int .i64 v]) ∧ Ext w' w'') ∧
    (Calls Try.prog 16 #[.pointer (some ⟨g2, 0, none⟩)] w' fun e w'' => e = .returned (.tuple #[.int .i64 u, .int .i64 v]) ∧ Ext w' w'') :=
  ⟨_, _, fun w' hE => ⟨space_Left (h.sp.ext hE), ref_Left (h.rf.ext hE) (inoL_is G N tn) (blkL_is G N M tb) h.sp.l1 h.sp.l3⟩⟩
theorem joint_Bits (h : Both w0 w B g p B2 g2 q G N M tn dn tb db) (k : Int) : ∃ (n1 n2 : Nat) (xs ys : List Nat), n1 ≤ 1000 ∧ n2 ≤ 1000 ∧ Bytes xs ∧ Bytes ys ∧ (∀ w', Ext w w' →
    (Calls Try.prog 18 #[.pointer (some ⟨g, 0, none⟩), .int .i64 k] w' fun e w'' => ∃ A1 c1 A2 c2, e = .returned (.tuple #[.slice A1 n1 c1, .slice A2 n2 c2]) ∧
      Own w'' w'.heap.size 5 A1 n1 c1 (by8 xs) ∧ Own w'' w'.heap.size 5 A2 n2 c2 (by8 ys) ∧ Apart A1 A2 ∧ Ext w' w'') ∧
    (Calls Try.prog 19 #[.pointer (some ⟨g2, 0, none⟩), .int .i64 k] w' fun e w'' => ∃ A1 c1 A2 c2, e = .returned (.tuple #[.slice A1 n1 c1, .slice A2 n2 c2]) ∧
      Own w'' w'.heap.size 5 A1 n1 c1 (by8 xs) ∧ Own w'' w'.heap.size 5 A2 n2 c2 (by8 ys) ∧ Ext w' w'')) := by
  have hm := mayG_nat h.sp.may
  by_cases hk : k < 0 ∨ (G : Int) ≤ k
  · refine ⟨0, 0, [], [], by omega, by omega, (fun x hx => by cases hx), (fun x hx => by cases hx), fun w' hE => ⟨?_, ?_⟩⟩
    · refine (space_Bits_no (h.sp.ext hE) k hk).mono ?_
      rintro e w'' ⟨rfl, hE2⟩
      exact ⟨none, 0, none, 0, rfl, Own.nilS _ _ _, Own.nilS _ _ _, Apart.nil _, hE2⟩
    · refine (ref_Bits_no (h.rf.ext hE) k hk).mono ?_
      rintro e w'' ⟨rfl, hE2⟩
      exact ⟨none, 0, none, 0, rfl, Own.nilS _ _ _, Own.nilS _ _ _, hE2⟩
  · obtain ⟨k, rfl⟩ := Int.eq_ofNat_of_zero_le (show 0 ≤ k by omega)
    have hkG : k < G := by omega
    obtain ⟨xs, hx⟩ := row_some h.sp.l1 hkG
    obtain ⟨ys, hy⟩ := row_some h.sp.l3 hkG
    have b1 := h.sp.bytes1 hx
    have b3 := h.sp.bytes3 hy
    have e1 : ofB N (nI (tkL N xs)) = xs := ofB_tkL b1 (h.sp.w1 xs (List.mem_of_getElem? hx)) (h.c1 k xs hx)
    have e2 : ofB M (nI (tkL M ys)) = ys := ofB_tkL b3 (h.sp.w3 ys (List.mem_of_getElem? hy)) (h.c2 k ys hy)
    refine ⟨(N + 7) / 8, (M + 7) / 8, xs, ys, by omega, by omega, b1, b3, fun w' hE => ⟨space_Bits (h.sp.ext hE) hx hy, ?_⟩⟩
    have := ref_Bits (h.rf.ext hE) hkG (xs := xs) (ys := ys) (fun i hi => by have := inoL_is G N tn k i hkG hi; rwa [List.getD_eq_getElem?_getD, hx] at this) (fun i hi => by have := blkL_is G N M tb k i hkG hi; rwa [List.getD_eq_getElem?_getD, hy] at this)
    rw [e1, e2] at this
    exact this
end
theorem same_bytes {w : World} {A1 A2 : Option Addr} {n c1 c2 B1 B2 : Nat} {xs : List Nat} (h1 : Own w B1 5 A1 n c1 (by8 xs)) (h2 : Own w B2 5 A2 n c2 (by8 xs)) (hb : Bytes xs) :
    Calls Try.prog 20 #[.slice A1 n c1, .slice A2 n c2] w fun e w' => e = .returned (.bool true) ∧ Ext w w' := by
  refine (SameBytes A1 A2 n c1 n c2 xs xs w h1.sl h2.sl hb hb).mono ?_
  rintro e w' ⟨rfl, k, rfl⟩
  exact ⟨by simp, (Ext.refl w).drewN k⟩
theorem over_bytes {wq w : World} {A : Option Addr} {n c B : Nat} {vs : List Value} (h : Own w B 5 A n c vs) (hn : n ≤ 1000) (hq : wq.heap.size ≤ B) (hE : Ext wq w) (hB : B ≤ w.heap.size) :
    Calls Try.prog 21 #[.slice A n c] w fun e w' => e = .returned (.tuple #[]) ∧ Ext wq w' ∧ w.grownBy w' (Value.slice A n c).ownBlock ∧ B ≤ w'.heap.size := by
  refine (OverBytes B A n c vs w h hB (by omega)).mono ?_
  rintro e w' ⟨rfl, hG⟩
  exact ⟨rfl, hE.grown hG (fun k hk => by have := (h.block k hk).1; omega), hG, Nat.le_trans hB hG.size⟩
/-- The acts, as they came in. -/
structure ActIn (w : World) (A : Option Addr) (n c : Nat) : Prop where
  nc : n ≤ c
  cm : c ≤ 9223372036854775807
  act : ∀ i, i < n → ∃ (d k m : Int) (l : Bool) (b o : Nat), -9223372036854775808 ≤ k ∧ A = some ⟨b, o, none⟩ ∧ w.rangeAt b (o + i * 4) (actV d k m l)
theorem range_ext {w w' : World} {b o : Nat} {cs : List Value} (h : w.rangeAt b o cs) (hE : Ext w w') : w'.rangeAt b o cs := fun j v hj => hE.cell (h j v hj)
theorem act_range {w : World} {b o : Nat} {d n m : Int} {l : Bool} (h : w.rangeAt b o (actV d n m l)) : w.cell? ⟨b, o + 1, none⟩ = some (.int .i64 n) ∧ w.cell? ⟨b, o + 2, none⟩ = some (.int .i64 m) :=
  ⟨h 1 _ rfl, h 2 _ rfl⟩
end Go.Proofs.Ytillhbbeghbfeaa
