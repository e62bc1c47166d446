/- A space and the document's, side by side: each act answers alike. -/
import Derived.Test.YtillhbbeghbfeaaRfi
namespace Go.Proofs.Ytillhbbeghbfeaa
set_option linter.unusedVariables false
open Go.RowKit

/-- What is of no set and no bool is as it was. -/
def Keeps (w w' : World) : Prop := ∀ {B e : Nat} {A : Option Addr} {n c : Nat} {vs : List Value}, 43 ≠ e → 4 ≠ e → Own w B e A n c vs → Own w' B e A n c vs
theorem Keeps.trans {a b c : World} (h : Keeps a b) (k : Keeps b c) : Keeps a c := fun h1 h2 hO => k h1 h2 (h h1 h2 hO)
theorem Ext.keeps {a b : World} (h : Ext a b) : Keeps a b := fun _ _ hO => hO.ext h
theorem Turned.keeps {gs : List Nat} {a b : World} (h : Turned gs a b) (hg : ∀ x ∈ gs, Tag a x 43 ∨ Tag a x 4) : Keeps a b := fun h1 h2 hO => h.own hO (hO.off (fun x hx ht => by
  rcases hg x hx with h3 | h3
  · exact h1 (h3.uniq ht)
  · exact h2 (h3.uniq ht)))
structure Mid (w0 w : World) (B g : Nat) (p : Pl) (B2 g2 : Nat) (q : Ql) (G N M : Nat) (tn dn tb db tn' dn' tb' db' : List (List Nat)) : Prop where
  sp : SpaceAt w B g p G N M tn' dn' tb' db'
  rf : RefAt w B2 g2 q G N M (inoL G N tn) (blkL G N M tb) (inoL G N dn) (blkL G N M db)
  c1 : Cleans N tn
  c2 : Cleans M tb
  ex : Ext w0 w
  hB : w0.heap.size ≤ B ∧ w0.heap.size ≤ B2
def Both (w0 w : World) (B g : Nat) (p : Pl) (B2 g2 : Nat) (q : Ql) (G N M : Nat) (tn dn tb db : List (List Nat)) : Prop := Mid w0 w B g p B2 g2 q G N M tn dn tb db tn dn tb db
section
variable {w0 w w' : World} {B g : Nat} {p : Pl} {B2 g2 : Nat} {q : Ql} {G N M : Nat} {tn dn tb db tn' dn' tb' db' tn2 dn2 tb2 db2 : List (List Nat)}
theorem SpaceAt.tags (h : SpaceAt w B g p G N M tn dn tb db) : ∀ x ∈ [p.g1, p.g2, p.g3, p.g4], Tag w x 43 := by
  intro x hx
  simp at hx
  rcases hx with rfl | rfl | rfl | rfl
  · exact h.r1.tag
  · exact h.r2.tag
  · exact h.r3.tag
  · exact h.r4.tag
theorem RefAt.tags {bi bb bx bz : List Bool} (h : RefAt w B g q G N M bi bb bx bz) : ∀ x ∈ [q.g1, q.g2, q.g3, q.g4], Tag w x 4 := by
  intro x hx
  simp at hx
  rcases hx with rfl | rfl | rfl | rfl
  · exact h.r1.tag
  · exact h.r2.tag
  · exact h.r3.tag
  · exact h.r4.tag
theorem RefAt.base {bi bb bx bz : List Bool} (h : RefAt w B g q G N M bi bb bx bz) : ∀ x ∈ [q.g1, q.g2, q.g3, q.g4], B ≤ x := by
  intro x hx
  simp at hx
  rcases hx with rfl | rfl | rfl | rfl
  · exact h.r1.base
  · exact h.r2.base
  · exact h.r3.base
  · exact h.r4.base
theorem RefAt.turn {bi bb bx bz : List Bool} (h : RefAt w B g q G N M bi bb bx bz) {gs : List Nat} (hT : Turned gs w w') (h1 : ∀ x ∈ gs, ¬ Tag w x 77) (h2 : ∀ x ∈ gs, ¬ Tag w x 4) : RefAt w' B g q G N M bi bb bx bz :=
  { h with own := hT.own h.own (h.own.off h1), r1 := hT.own h.r1 (h.r1.off h2), r2 := hT.own h.r2 (h.r2.off h2), r3 := hT.own h.r3 (h.r3.off h2), r4 := hT.own h.r4 (h.r4.off h2) }
theorem notag_of {gs hs : List Nat} {e f : Nat} (h : ∀ x ∈ hs, Tag w x e) (hg : ∀ x ∈ gs, x ∈ hs) (he : e ≠ f) : ∀ x ∈ gs, ¬ Tag w x f := fun x hx ht => he ((h x (hg x hx)).uniq ht)
/-- Behind an act of the space. -/
theorem Both.mid (h : Both w0 w B g p B2 g2 q G N M tn dn tb db) {gs : List Nat} (hS : SpaceAt w' B g p G N M tn' dn' tb' db') (hT : Turned gs w w') (hg : ∀ x ∈ gs, x ∈ [p.g1, p.g2, p.g3, p.g4]) :
    Mid w0 w' B g p B2 g2 q G N M tn dn tb db tn' dn' tb' db' ∧ Keeps w w' :=
  ⟨{ h with sp := hS, rf := h.rf.turn hT (notag_of h.sp.tags hg (by decide)) (notag_of h.sp.tags hg (by decide)), ex := Turned.ext h.ex hT (fun x hx => by have := h.sp.all4 x (hg x hx); have := h.hB.1; omega) },
    hT.keeps (fun x hx => .inl (h.sp.tags x (hg x hx)))⟩
/-- Behind the document's act. -/
theorem Mid.both (h : Mid w0 w B g p B2 g2 q G N M tn dn tb db tn' dn' tb' db') {gs : List Nat} (hR : RefAt w' B2 g2 q G N M (inoL G N tn') (blkL G N M tb') (inoL G N dn') (blkL G N M db')) (hT : Turned gs w w') (hg : ∀ x ∈ gs, x ∈ [q.g1, q.g2, q.g3, q.g4])
    (h1 : Cleans N tn') (h2 : Cleans M tb') : Both w0 w' B g p B2 g2 q G N M tn' dn' tb' db' ∧ Keeps w w' :=
  ⟨{ sp := h.sp.turn hT (notag_of h.rf.tags hg (by decide)) (notag_of h.rf.tags hg (by decide)) (notag_of h.rf.tags hg (by decide)), rf := hR, c1 := h1, c2 := h2,
     ex := Turned.ext h.ex hT (fun x hx => by have := h.rf.base x (hg x hx); have := h.hB.2; omega), hB := h.hB },
    hT.keeps (fun x hx => .inr (h.rf.tags x (hg x hx)))⟩
theorem Mid.ext (h : Mid w0 w B g p B2 g2 q G N M tn dn tb db tn' dn' tb' db') (hE : Ext w w') : Mid w0 w' B g p B2 g2 q G N M tn dn tb db tn' dn' tb' db' :=
  { h with sp := h.sp.ext hE, rf := h.rf.ext hE, ex := h.ex.trans hE }
/-- Both answer alike. -/
def Joint (w0 w : World) (B g : Nat) (p : Pl) (B2 g2 : Nat) (q : Ql) (G N M : Nat) (tn dn tb db tn' dn' tb' db' : List (List Nat)) (f1 f2 : FuncId) (a1 a2 : Array Value) (v : Value) : Prop :=
  (Calls Try.prog f1 a1 w fun e w' => e = .returned v ∧ Mid w0 w' B g p B2 g2 q G N M tn dn tb db tn' dn' tb' db' ∧ Keeps w w') ∧
  ∀ w', Mid w0 w' B g p B2 g2 q G N M tn dn tb db tn' dn' tb' db' → Calls Try.prog f2 a2 w' fun e w'' => e = .returned v ∧ Both w0 w'' B g p B2 g2 q G N M tn' dn' tb' db' ∧ Keeps w' w''
theorem joint_same {f1 f2 : FuncId} {a1 a2 : Array Value} {v : Value} (h : Both w0 w B g p B2 g2 q G N M tn dn tb db) (h1 : Calls Try.prog f1 a1 w fun e w' => e = .returned v ∧ Ext w w')
    (h2 : ∀ w', Both w0 w' B g p B2 g2 q G N M tn dn tb db → Calls Try.prog f2 a2 w' fun e w'' => e = .returned v ∧ Ext w' w'') : Joint w0 w B g p B2 g2 q G N M tn dn tb db tn dn tb db f1 f2 a1 a2 v :=
  ⟨h1.mono fun e w' ⟨a, b⟩ => ⟨a, h.ext b, b.keeps⟩, fun w' hm => (h2 w' hm).mono fun e w'' ⟨a, b⟩ => ⟨a, hm.ext b, b.keeps⟩⟩
theorem row_some {t : List (List Nat)} {k G : Nat} (hl : t.length = G) (hk : k < G) : ∃ xs, t[k]? = some xs := ⟨_, List.getElem?_eq_getElem (by omega)⟩
theorem lenN {n l i : Nat} (h : l = (n + 7) / 8) (hi : i < n) : i / 8 < l := by omega
theorem joint_Inode (h : Both w0 w B g p B2 g2 q G N M tn dn tb db) (near : Int) : ∃ (a er : Int) (t' : List (List Nat)), -9223372036854775808 ≤ a ∧
    Joint w0 w B g p B2 g2 q G N M tn dn tb db t' dn tb db 27 43 #[.pointer (some ⟨g, 0, none⟩), .int .i64 near] #[.pointer (some ⟨g2, 0, none⟩), .int .i64 near, .bool true] (.tuple #[.int .i64 a, .int .i64 er]) := by
  have hm := mayG_nat h.sp.may
  rcases best_cases near h.sp.l1 (show 0 < N by omega) (by omega) with ⟨h1, _⟩ | ⟨k, xs, h1, hk, hx, hf⟩
  · exact ⟨0, 13, tn, by omega, joint_same h (space_Inode_no h.sp near h1) (fun w' h' => ref_Take_no h'.rf near true (t := tn) (by simpa using inoL_is G N tn) (by simpa using h1))⟩
  · obtain ⟨r1, r2⟩ := firN_lt hf
    have hb := h.sp.bytes1 hx
    have hl := h.sp.w1 xs (List.mem_of_getElem? hx)
    refine ⟨((k * N + firN N xs + 1 : Nat) : Int), 0, tn.set k (withB xs (firN N xs) true), by omega, (space_Inode_ok h.sp near hk h1 hx (firN_is hf)).mono fun e w' ⟨a, b, c⟩ => ⟨a, h.mid b c (by simp)⟩, fun w' hm' => ?_⟩
    refine (ref_Take_ino hm'.rf near (inoL_is G N tn) h1 hk hx hf (by have := hm'.rf.own.tag.lt; have := hm'.rf.own.base; simp at *; omega)).mono fun e w'' ⟨a, b, c⟩ => ⟨a, ?_⟩
    rw [inoL_set true hx hb r1 (lenN hl r1)] at b
    exact hm'.both b c (by simp) (h.c1.put hx hb r1) h.c2
theorem joint_Block (h : Both w0 w B g p B2 g2 q G N M tn dn tb db) (near : Int) : ∃ (a er : Int) (t' : List (List Nat)), -9223372036854775808 ≤ a ∧
    Joint w0 w B g p B2 g2 q G N M tn dn tb db tn dn t' db 25 43 #[.pointer (some ⟨g, 0, none⟩), .int .i64 near] #[.pointer (some ⟨g2, 0, none⟩), .int .i64 near, .bool false] (.tuple #[.int .i64 a, .int .i64 er]) := by
  have hm := mayG_nat h.sp.may
  rcases best_cases near h.sp.l3 (show 0 < M by omega) (by omega) with ⟨h1, _⟩ | ⟨k, xs, h1, hk, hx, hf⟩
  · exact ⟨0, 13, tb, by omega, joint_same h (space_Block_no h.sp near h1) (fun w' h' => ref_Take_no h'.rf near false (t := tb) (by simpa using blkL_is G N M tb) (by simpa using h1))⟩
  · obtain ⟨r1, r2⟩ := firN_lt hf
    have hb := h.sp.bytes3 hx
    have hl := h.sp.w3 xs (List.mem_of_getElem? hx)
    refine ⟨((posB N M k (firN M xs) : Nat) : Int), 0, tb.set k (withB xs (firN M xs) true), by omega, (space_Block_ok h.sp near h1 hx (firN_is hf)).mono fun e w' ⟨a, b, c⟩ => ⟨by rw [a, fst_posB h.sp.may hk], h.mid b c (by simp)⟩, fun w' hm' => ?_⟩
    refine (ref_Take_blk hm'.rf near (blkL_is G N M tb) h1 hk hx hf (by have := hm'.rf.own.tag.lt; have := hm'.rf.own.base; simp at *; omega)).mono fun e w'' ⟨a, b, c⟩ => ⟨a, ?_⟩
    rw [blkL_set true hx hb r1 (lenN hl r1)] at b
    exact hm'.both b c (by simp) h.c1 (h.c2.put hx hb r1)
theorem joint_Mark (h : Both w0 w B g p B2 g2 q G N M tn dn tb db) (n m : Int) (hn0 : -9223372036854775808 ≤ n) : ∃ (er : Int) (t' u' : List (List Nat)),
    Joint w0 w B g p B2 g2 q G N M tn dn tb db t' dn u' db 9 44 #[.pointer (some ⟨g, 0, none⟩), .int .i64 n, .int .i64 m] #[.pointer (some ⟨g2, 0, none⟩), .int .i64 n, .int .i64 m] (.int .i64 er) := by
  rcases hs : spot G N M n m with _ | ⟨b, k, i⟩
  · exact ⟨2, tn, tb, joint_same h (space_Mark_none h.sp hn0 hs) (fun w' h' => ref_Mark_none h'.rf n m hn0 hs)⟩
  · cases b
    · obtain ⟨_, _, hk, hi⟩ := spot_blk_eq h.sp.may hs
      obtain ⟨xs, hx⟩ := row_some h.sp.l3 hk
      have hb := h.sp.bytes3 hx
      have hl := h.sp.w3 xs (List.mem_of_getElem? hx)
      have hg := blkL_is G N M tb k i hk hi
      rw [getD_row hx] at hg
      cases hxi : hasB xs i
      · rw [hxi] at hg
        refine ⟨0, tn, tb.set k (withB xs i true), (space_Mark2_ok h.sp hs hx hxi).mono fun e w' ⟨a, b, c⟩ => ⟨a, h.mid b c (by simp)⟩, fun w' hm' => ?_⟩
        have hM := ref_Mark2 hm'.rf hs hg
        simp only [Bool.false_eq_true, if_false] at hM
        refine hM.mono fun e w'' ⟨a, b, c⟩ => ⟨a, ?_⟩
        rw [blkL_set true hx hb hi (lenN hl hi)] at b
        exact hm'.both b c (by simp) h.c1 (h.c2.put hx hb hi)
      · rw [hxi] at hg
        refine ⟨6, tn, tb, joint_same h (space_Mark2_ex h.sp hs hx hxi) (fun w' h' => ?_)⟩
        have hM := ref_Mark2 h'.rf hs hg
        simpa only [if_true] using hM
    · obtain ⟨_, _, hk, hi⟩ := spot_ino_eq h.sp.may hs
      obtain ⟨xs, hx⟩ := row_some h.sp.l1 hk
      have hb := h.sp.bytes1 hx
      have hl := h.sp.w1 xs (List.mem_of_getElem? hx)
      have hg := inoL_is G N tn k i hk hi
      rw [getD_row hx] at hg
      cases hxi : hasB xs i
      · rw [hxi] at hg
        refine ⟨0, tn.set k (withB xs i true), tb, (space_Mark1_ok h.sp hn0 hs hx hxi).mono fun e w' ⟨a, b, c⟩ => ⟨a, h.mid b c (by simp)⟩, fun w' hm' => ?_⟩
        have hM := ref_Mark1 hm'.rf hn0 hs hg
        simp only [Bool.false_eq_true, if_false] at hM
        refine hM.mono fun e w'' ⟨a, b, c⟩ => ⟨a, ?_⟩
        rw [inoL_set true hx hb hi (lenN hl hi)] at b
        exact hm'.both b c (by simp) (h.c1.put hx hb hi) h.c2
      · rw [hxi] at hg
        refine ⟨6, tn, tb, joint_same h (space_Mark1_ex h.sp hn0 hs hx hxi) (fun w' h' => ?_)⟩
        have hM := ref_Mark1 h'.rf hn0 hs hg
        simpa only [if_true] using hM
theorem joint_Defer (h : Both w0 w B g p B2 g2 q G N M tn dn tb db) (n m : Int) (hn0 : -9223372036854775808 ≤ n) : ∃ (er : Int) (t' u' : List (List Nat)),
    Joint w0 w B g p B2 g2 q G N M tn dn tb db tn t' tb u' 28 45 #[.pointer (some ⟨g, 0, none⟩), .int .i64 n, .int .i64 m] #[.pointer (some ⟨g2, 0, none⟩), .int .i64 n, .int .i64 m] (.int .i64 er) := by
  rcases hs : spot G N M n m with _ | ⟨b, k, i⟩
  · exact ⟨2, dn, db, joint_same h (space_Defer_none h.sp hn0 hs) (fun w' h' => ref_Defer_none h'.rf n m hn0 hs)⟩
  · cases b
    · obtain ⟨_, _, hk, hi⟩ := spot_blk_eq h.sp.may hs
      obtain ⟨xs, hx⟩ := row_some h.sp.l3 hk
      obtain ⟨ys, hy⟩ := row_some h.sp.l4 hk
      have hb := h.sp.bytes4 hy
      have hl := h.sp.w4 ys (List.mem_of_getElem? hy)
      have hg := blkL_is G N M tb k i hk hi
      rw [getD_row hx] at hg
      have hg2 := blkL_is G N M db k i hk hi
      rw [getD_row hy] at hg2
      by_cases hok : hasB xs i = true ∧ hasB ys i = false
      · obtain ⟨o1, o2⟩ := hok
        rw [o1] at hg
        rw [o2] at hg2
        refine ⟨0, dn, db.set k (withB ys i true), (space_Defer2_ok h.sp hs hx hy o1 o2).mono fun e w' ⟨a, b, c⟩ => ⟨a, h.mid b c (by simp)⟩, fun w' hm' => ?_⟩
        have hM := ref_Defer2 hm'.rf hs hg hg2
        simp only [Bool.not_false, Bool.and_self, if_true] at hM
        refine hM.mono fun e w'' ⟨a, b, c⟩ => ⟨a, ?_⟩
        rw [blkL_set true hy hb hi (lenN hl hi)] at b
        exact hm'.both b c (by simp) h.c1 h.c2
      · have hno : hasB xs i = false ∨ hasB ys i = true := by
          cases h1 : hasB xs i
          · exact .inl rfl
          · cases h2 : hasB ys i
            · exact absurd ⟨h1, h2⟩ hok
            · exact .inr rfl
        refine ⟨5, dn, db, joint_same h (space_Defer2_no h.sp hs hx hy hno) (fun w' h' => ?_)⟩
        have hM := ref_Defer2 h'.rf hs hg hg2
        have hc : (hasB xs i && !hasB ys i) = false := by rcases hno with h1 | h1 <;> rw [h1] <;> simp
        simp only [hc, Bool.false_eq_true, if_false] at hM
        exact hM
    · obtain ⟨_, _, hk, hi⟩ := spot_ino_eq h.sp.may hs
      obtain ⟨xs, hx⟩ := row_some h.sp.l1 hk
      obtain ⟨ys, hy⟩ := row_some h.sp.l2 hk
      have hb := h.sp.bytes2 hy
      have hl := h.sp.w2 ys (List.mem_of_getElem? hy)
      have hg := inoL_is G N tn k i hk hi
      rw [getD_row hx] at hg
      have hg2 := inoL_is G N dn k i hk hi
      rw [getD_row hy] at hg2
      by_cases hok : hasB xs i = true ∧ hasB ys i = false
      · obtain ⟨o1, o2⟩ := hok
        rw [o1] at hg
        rw [o2] at hg2
        refine ⟨0, dn.set k (withB ys i true), db, (space_Defer1_ok h.sp hn0 hs hx hy o1 o2).mono fun e w' ⟨a, b, c⟩ => ⟨a, h.mid b c (by simp)⟩, fun w' hm' => ?_⟩
        have hM := ref_Defer1 hm'.rf hn0 hs hg hg2
        simp only [Bool.not_false, Bool.and_self, if_true] at hM
        refine hM.mono fun e w'' ⟨a, b, c⟩ => ⟨a, ?_⟩
        rw [inoL_set true hy hb hi (lenN hl hi)] at b
        exact hm'.both b c (by simp) h.c1 h.c2
      · have hno : hasB xs i = false ∨ hasB ys i = true := by
          cases h1 : hasB xs i
          · exact .inl rfl
          · cases h2 : hasB ys i
            · exact absurd ⟨h1, h2⟩ hok
            · exact .inr rfl
        refine ⟨5, dn, db, joint_same h (space_Defer1_no h.sp hn0 hs hx hy hno) (fun w' h' => ?_)⟩
        have hM := ref_Defer1 h'.rf hn0 hs hg hg2
        have hc : (hasB xs i && !hasB ys i) = false := by rcases hno with h1 | h1 <;> rw [h1] <;> simp
        simp only [hc, Bool.false_eq_true, if_false] at hM
        exact hM
theorem joint_Firm (h : Both w0 w B g p B2 g2 q G N M tn dn tb db) : ∃ (n : Int) (t1 t2 t3 t4 : List (List Nat)),
    Joint w0 w B g p B2 g2 q G N M tn dn tb db t1 t2 t3 t4 29 46 #[.pointer (some ⟨g, 0, none⟩)] #[.pointer (some ⟨g2, 0, none⟩)] (.int .i64 n) := by
  have hm := mayG_nat h.sp.may
  refine ⟨_, _, _, _, _, (space_Firm h.sp).mono fun e w' ⟨a, b, c⟩ => ⟨a, h.mid b c (fun x hx => hx)⟩, fun w' hm' => ?_⟩
  have hF := ref_Firm hm'.rf
  rw [cnt_ino h.sp.l2, cnt_blk h.sp.l4, inoL_firm (by omega) h.sp.l1 h.sp.l2 (fun k x hx => ⟨h.sp.bytes1 hx, by rw [h.sp.w1 x (List.mem_of_getElem? hx)]; omega⟩),
    blkL_firm (by omega) h.sp.l3 h.sp.l4 (fun k x hx => ⟨h.sp.bytes3 hx, by rw [h.sp.w3 x (List.mem_of_getElem? hx)]; omega⟩), inoL_len, blkL_len, ← inoL_zero, ← blkL_zero] at hF
  refine hF.mono fun e w'' ⟨a, b, c⟩ => ⟨a, hm'.both b c (fun x hx => hx) (h.c1.firm (fun k x hx => h.sp.bytes1 hx)) (h.c2.firm (fun k x hx => h.sp.bytes3 hx))⟩
end
end Go.Proofs.Ytillhbbeghbfeaa
