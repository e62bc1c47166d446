/- Lines of operations: are two operations the same? -/
import Derived.Test.YtmfenegkeiipnaaDoorSpJ
namespace Go.Proofs.YtmfenegkeiipnaaDoor
set_option linter.unusedVariables false
set_option linter.unusedSimpArgs false
open Go.RowKit

def sameB (o p : Opp) : Bool := o.k == p.k && (o.fd == p.fd && (o.n == p.n && (o.off == p.off && (o.fl == p.fl && (o.pa == p.pa && (o.to == p.to && o.da == p.da))))))
theorem sameB_iff {o p : Opp} : sameB o p = true ↔ o = p := by
  unfold sameB
  cases o
  cases p
  simp
theorem toB_beq (a b : L8) : ((toB a).toList == (toB b).toList) = (a == b) := by rw [toB_list, toB_list]
theorem nat8_dec (a b : L8) : decide (nat8 a = nat8 b) = (a == b) := by
  rw [Bool.eq_iff_iff]
  simp [nat8_inj]
set_option maxRecDepth 100000 in
set_option maxHeartbeats 4000000 in
theorem f_SameOp (o p : Opp) (A A2 : Option Addr) (n c m c2 : Nat) (w : World) (hD : Sl w A n c (by8 (nat8 o.da))) (hD2 : Sl w A2 m c2 (by8 (nat8 p.da))) :
    Calls Tryd.prog 12 #[.agg (opV o A n c), .agg (opV p A2 m c2)] w fun e w' => e = .returned (.bool (sameB o p)) ∧ Ext w w' := by
  unfold sameB opV
  have t1 := toB_beq o.pa p.pa
  have t2 := toB_beq o.to p.to
  have HB := hide (SameBytes A A2 n c m c2 (nat8 o.da) (nat8 p.da) · · · (nat8_bytes _) (nat8_bytes _))
  have HD := hide hD
  have HD2 := hide hD2
  rw [nat8_dec] at HB
  generalize o.k = x1 at *
  generalize p.k = y1 at *
  generalize o.fd = x2 at *
  generalize p.fd = y2 at *
  generalize o.n = x3 at *
  generalize p.n = y3 at *
  generalize o.off = x4 at *
  generalize p.off = y4 at *
  generalize o.fl = x5 at *
  generalize p.fl = y5 at *
  generalize (o.da == p.da) = b8 at *
  generalize (o.pa == p.pa) = b6 at *
  generalize (o.to == p.to) = b7 at *
  generalize toB o.pa = x6 at *
  generalize toB p.pa = y6 at *
  generalize toB o.to = x7 at *
  generalize toB p.to = y7 at *
  clear hD hD2
  cases e1 : (x1 == y1) with
  | false =>
    go_enter Tryd.func12, Tryd.ntmps12
    go_wp2_with fail
    go_ret
    exact ⟨rfl, ((Ext.refl w).alloc _).alloc _⟩
  | true =>
  cases e2 : (x2 == y2) with
  | false =>
    go_enter Tryd.func12, Tryd.ntmps12
    go_wp2_with fail
    go_ret
    exact ⟨rfl, ((Ext.refl w).alloc _).alloc _⟩
  | true =>
  cases e3 : (x3 == y3) with
  | false =>
    go_enter Tryd.func12, Tryd.ntmps12
    go_wp2_with fail
    go_ret
    exact ⟨rfl, ((Ext.refl w).alloc _).alloc _⟩
  | true =>
  cases e4 : (x4 == y4) with
  | false =>
    go_enter Tryd.func12, Tryd.ntmps12
    go_wp2_with fail
    go_ret
    exact ⟨rfl, ((Ext.refl w).alloc _).alloc _⟩
  | true =>
  cases e5 : (x5 == y5) with
  | false =>
    go_enter Tryd.func12, Tryd.ntmps12
    go_wp2_with fail
    go_ret
    exact ⟨rfl, ((Ext.refl w).alloc _).alloc _⟩
  | true =>
  cases b6 with
  | false =>
    go_enter Tryd.func12, Tryd.ntmps12
    go_wp2_with fail
    go_ret
    exact ⟨rfl, ((Ext.refl w).alloc _).alloc _⟩
  | true =>
  cases b7 with
  | false =>
    go_enter Tryd.func12, Tryd.ntmps12
    go_wp2_with fail
    go_ret
    exact ⟨rfl, ((Ext.refl w).alloc _).alloc _⟩
  | true =>
  go_enter Tryd.func12, Tryd.ntmps12
  go_wp2_with fail
  refine (HB.out _ (HD.out.ext (((Ext.refl w).alloc _).alloc _)) (HD2.out.ext (((Ext.refl w).alloc _).alloc _))).mono ?_
  rintro e w1 ⟨rfl, k, rfl⟩
  go_wp2_with fail
  go_ret
  exact ⟨rfl, ((((Ext.refl w).alloc _).alloc _).drewN k)⟩
set_option maxRecDepth 100000 in
set_option maxHeartbeats 4000000 in
theorem f_Same (o p : Opp) (A A2 : Option Addr) (n c m c2 : Nat) (w : World) (hD : Sl w A n c (by8 (nat8 o.da))) (hD2 : Sl w A2 m c2 (by8 (nat8 p.da))) :
    Calls Tryd.prog 15 #[.agg (opV o A n c), .agg (opV p A2 m c2)] w fun e w' => e = .returned (.bool (sameB o p)) ∧ Ext w w' := by
  unfold sameB opV
  have t1 := toB_beq o.pa p.pa
  have t2 := toB_beq o.to p.to
  have HB := hide (BEqual A A2 n c m c2 (nat8 o.da) (nat8 p.da) · · · (nat8_bytes _) (nat8_bytes _))
  have HD := hide hD
  have HD2 := hide hD2
  rw [nat8_dec] at HB
  generalize o.k = x1 at *
  generalize p.k = y1 at *
  generalize o.fd = x2 at *
  generalize p.fd = y2 at *
  generalize o.n = x3 at *
  generalize p.n = y3 at *
  generalize o.off = x4 at *
  generalize p.off = y4 at *
  generalize o.fl = x5 at *
  generalize p.fl = y5 at *
  generalize (o.da == p.da) = b8 at *
  generalize (o.pa == p.pa) = b6 at *
  generalize (o.to == p.to) = b7 at *
  generalize toB o.pa = x6 at *
  generalize toB p.pa = y6 at *
  generalize toB o.to = x7 at *
  generalize toB p.to = y7 at *
  clear hD hD2
  cases e1 : (x1 == y1) with
  | false =>
    go_enter Tryd.func15, Tryd.ntmps15
    go_wp2_with fail
    go_ret
    exact ⟨rfl, ((Ext.refl w).alloc _).alloc _⟩
  | true =>
  cases e2 : (x2 == y2) with
  | false =>
    go_enter Tryd.func15, Tryd.ntmps15
    go_wp2_with fail
    go_ret
    exact ⟨rfl, ((Ext.refl w).alloc _).alloc _⟩
  | true =>
  cases e3 : (x3 == y3) with
  | false =>
    go_enter Tryd.func15, Tryd.ntmps15
    go_wp2_with fail
    go_ret
    exact ⟨rfl, ((Ext.refl w).alloc _).alloc _⟩
  | true =>
  cases e4 : (x4 == y4) with
  | false =>
    go_enter Tryd.func15, Tryd.ntmps15
    go_wp2_with fail
    go_ret
    exact ⟨rfl, ((Ext.refl w).alloc _).alloc _⟩
  | true =>
  cases e5 : (x5 == y5) with
  | false =>
    go_enter Tryd.func15, Tryd.ntmps15
    go_wp2_with fail
    go_ret
    exact ⟨rfl, ((Ext.refl w).alloc _).alloc _⟩
  | true =>
  cases b6 with
  | false =>
    go_enter Tryd.func15, Tryd.ntmps15
    go_wp2_with fail
    go_ret
    exact ⟨rfl, ((Ext.refl w).alloc _).alloc _⟩
  | true =>
  cases b7 with
  | false =>
    go_enter Tryd.func15, Tryd.ntmps15
    go_wp2_with fail
    go_ret
    exact ⟨rfl, ((Ext.refl w).alloc _).alloc _⟩
  | true =>
  go_enter Tryd.func15, Tryd.ntmps15
  go_wp2_with fail
  refine (HB.out _ (HD.out.ext (((Ext.refl w).alloc _).alloc _)) (HD2.out.ext (((Ext.refl w).alloc _).alloc _))).mono ?_
  rintro e w1 ⟨rfl, rfl⟩
  go_wp2_with fail
  go_ret
  exact ⟨rfl, ((Ext.refl w).alloc _).alloc _⟩
/-- Is an operation more than is gone through? -/
def greatB (o : Opp) : Bool := decide (300 < o.pa.length) || (decide (300 < o.to.length) || decide (3000 < o.da.length))
theorem great_sm {o : Opp} (h : greatB o = false) : o.Sm ∧ o.pa.length ≤ 300 ∧ o.to.length ≤ 300 ∧ o.da.length ≤ 3000 := by
  unfold greatB at h
  simp at h
  unfold Opp.Sm
  omega
set_option maxRecDepth 100000 in
set_option maxHeartbeats 4000000 in
theorem f_Great (o : Opp) (A : Option Addr) (n c : Nat) (w : World) (hn : n = o.da.length) :
    Calls Tryd.prog 6 #[.agg (opV o A n c)] w fun e w' => e = .returned (.bool (greatB o)) ∧ Ext w w' := by
  unfold greatB opV
  have s1 := toB_size o.pa
  have s2 := toB_size o.to
  rw [← hn]
  generalize o.pa.length = x1 at *
  generalize o.to.length = x2 at *
  generalize toB o.pa = y1 at *
  generalize toB o.to = y2 at *
  clear hn
  by_cases e1 : 300 < x1
  · have i1 : (x1 : Int) > 300 := by omega
    go_enter Tryd.func6, Tryd.ntmps6
    go_wp2_with fail
    go_ret
    exact ⟨by simp [e1], (Ext.refl w).alloc _⟩
  · have i1 : ¬ (x1 : Int) > 300 := by omega
    by_cases e2 : 300 < x2
    · have i2 : (x2 : Int) > 300 := by omega
      go_enter Tryd.func6, Tryd.ntmps6
      go_wp2_with fail
      go_ret
      exact ⟨by simp [e2], (Ext.refl w).alloc _⟩
    · have i2 : ¬ (x2 : Int) > 300 := by omega
      by_cases e3 : 3000 < n
      · have i3 : (n : Int) > 3000 := by omega
        go_enter Tryd.func6, Tryd.ntmps6
        go_wp2_with fail
        go_ret
        exact ⟨by simp [e3], (Ext.refl w).alloc _⟩
      · have i3 : ¬ (n : Int) > 3000 := by omega
        go_enter Tryd.func6, Tryd.ntmps6
        go_wp2_with fail
        go_ret
        exact ⟨by simp [e1, e2, e3], (Ext.refl w).alloc _⟩
end Go.Proofs.YtmfenegkeiipnaaDoor
