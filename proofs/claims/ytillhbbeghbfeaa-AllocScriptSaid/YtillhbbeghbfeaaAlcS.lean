/- Contracts of spaces: Inode, Block. -/
import Derived.Test.YtillhbbeghbfeaaAlcM
namespace Go.Proofs.Ytillhbbeghbfeaa
set_option linter.unusedVariables false
open Go.RowKit

section
variable {w : World} {B g : Nat} {p : Pl} {G N M : Nat} {tn dn tb db : List (List Nat)}
theorem SpaceAt.sz {w : World} (h : SpaceAt w B g p G N M tn dn tb db) : B ≤ w.heap.size := by
  have h1 := h.own.tag.lt
  have h2 := h.own.base
  simp at h1 h2
  omega
theorem space_Block_no (h : SpaceAt w B g p G N M tn dn tb db) (near : Int) (hb : bestF (scL near M tb G) = -1) :
    Calls Try.prog 25 #[.pointer (some ⟨g, 0, none⟩), .int .i64 near] w fun e w' => e = .returned (.tuple #[.int .i64 0, .int .i64 13]) ∧ Ext w w' := by
  have hG := space_Group h near false
  simp only [Bool.false_eq_true, if_false] at hG
  rw [hb] at hG
  have HG := hide hG
  clear hG hb h
  go_enter Try.func25, Try.ntmps25
  go_wp2_with (first
    | (go_at_call 11; refine HG.out.mono ?_; rintro e w2 ⟨rfl, hE2⟩)
    | (go_at_call 54; refine (set_pick_no _ _ _ (by omega)).mono ?_; rintro e w3 ⟨rfl, rfl⟩))
  go_ret2
  exact ⟨rfl, hE2⟩
theorem space_Inode_no (h : SpaceAt w B g p G N M tn dn tb db) (near : Int) (hb : bestF (scL near N tn G) = -1) :
    Calls Try.prog 27 #[.pointer (some ⟨g, 0, none⟩), .int .i64 near] w fun e w' => e = .returned (.tuple #[.int .i64 0, .int .i64 13]) ∧ Ext w w' := by
  have hG := space_Group h near true
  simp only [if_true] at hG
  rw [hb] at hG
  have HG := hide hG
  clear hG hb h
  go_enter Try.func27, Try.ntmps27
  go_wp2_with (first
    | (go_at_call 11; refine HG.out.mono ?_; rintro e w2 ⟨rfl, hE2⟩)
    | (go_at_call 54; refine (set_pick_no _ _ _ (by omega)).mono ?_; rintro e w3 ⟨rfl, rfl⟩))
  go_ret2
  exact ⟨rfl, hE2⟩
theorem SpaceAt.row3 (h : SpaceAt w B g p G N M tn dn tb db) {w' : World} {k : Nat} {xs : List Nat} {i : Nat} {on : Bool} (hk : tb[k]? = some xs) (hr : RowsIs w' B p.g3 p.c3 (tb.set k (withB xs i on))) (ht : Turned [p.g3] w w') :
    SpaceAt w' B g p G N M tn dn (tb.set k (withB xs i on)) db :=
  h.put3 ht hr (by simp [h.l3]) (set_wf h.w3 (by rw [withB_len]; exact h.w3 xs (List.mem_of_getElem? hk)))
theorem SpaceAt.row1 (h : SpaceAt w B g p G N M tn dn tb db) {w' : World} {k : Nat} {xs : List Nat} {i : Nat} {on : Bool} (hk : tn[k]? = some xs) (hr : RowsIs w' B p.g1 p.c1 (tn.set k (withB xs i on))) (ht : Turned [p.g1] w w') :
    SpaceAt w' B g p G N M (tn.set k (withB xs i on)) dn tb db :=
  h.put1 ht hr (by simp [h.l1]) (set_wf h.w1 (by rw [withB_len]; exact h.w1 xs (List.mem_of_getElem? hk)))
set_option maxHeartbeats 1000000 in
theorem space_Block_ok (h : SpaceAt w B g p G N M tn dn tb db) (near : Int) {k : Nat} (hb : bestF (scL near M tb G) = (k : Int)) {xs : List Nat} (hk : tb[k]? = some xs) {r : Nat} (hr : FirstIs xs 0 (M : Int) (r : Int)) :
    Calls Try.prog 25 #[.pointer (some ⟨g, 0, none⟩), .int .i64 near] w fun e w' => e = .returned (.tuple #[.int .i64 (fstG G N M k + r), .int .i64 0]) ∧
      SpaceAt w' B g p G N M tn dn (tb.set k (withB xs r true)) db ∧ Turned [p.g3] w w' := by
  have hG := space_Group h near false
  simp only [Bool.false_eq_true, if_false] at hG
  rw [hb] at hG
  have HG := hide hG
  have H := hide h
  have hm := mayG_nat h.may
  have hfb := fstG_bd (G : Int) (N : Int) (M : Int) (k : Int)
  have hrb : r < M := by rcases hr with ⟨h1, _⟩ | ⟨_, _, h3, _⟩ <;> omega
  have HP := hide (fun w' (hE : Ext w w') => set_pick (h.ext hE).blocks hk hr (by have := (h.ext hE).sz; exact this))
  have HF := hide (fun w => geom_First (G : Int) (N : Int) (M : Int) (k : Int) w)
  have HK := hide hk
  generalize fstG (G : Int) (N : Int) (M : Int) (k : Int) = F at *
  clear hG hb h hk hr
  go_enter Try.func25, Try.ntmps25
  go_wp2_with (first
    | (go_at_call 11; refine HG.out.mono ?_; rintro e w2 ⟨rfl, hE2⟩)
    | (go_at_call 54; refine (HP.out _ hE2).mono ?_; rintro e w3 ⟨rfl, hR3, hT3⟩; have hS3 := (H.out.ext hE2).row3 HK.out hR3 hT3; have hO3 := hS3.own)
    | (with_reducible refine ag_loadUs (i64s (geo (G : Int) (N : Int) (M : Int))) rfl 24 _ rfl g 0 3 9 9 B 64 _ (spc_geo G N M p) rfl hO3 agg_geo info_geo (by omega) ?_)
    | (go_at_call 10; refine (HF.out _).mono ?_; rintro e w4 ⟨rfl, hE4⟩))
  go_ret2
  exact ⟨rfl, hS3.ext hE4, ((hE2.turned _).trans hT3).trans (hE4.turned _)⟩
set_option maxHeartbeats 1000000 in
theorem space_Inode_ok (h : SpaceAt w B g p G N M tn dn tb db) (near : Int) {k : Nat} (hkG : k < G) (hb : bestF (scL near N tn G) = (k : Int)) {xs : List Nat} (hk : tn[k]? = some xs) {r : Nat} (hr : FirstIs xs 0 (N : Int) (r : Int)) :
    Calls Try.prog 27 #[.pointer (some ⟨g, 0, none⟩), .int .i64 near] w fun e w' => e = .returned (.tuple #[.int .i64 ((k * N + r + 1 : Nat) : Int), .int .i64 0]) ∧
      SpaceAt w' B g p G N M (tn.set k (withB xs r true)) dn tb db ∧ Turned [p.g1] w w' := by
  have hG := space_Group h near true
  simp only [if_true] at hG
  rw [hb] at hG
  have HG := hide hG
  have H := hide h
  have hm := mayG_nat h.may
  have hrb : r < N := by rcases hr with ⟨h1, _⟩ | ⟨_, _, h3, _⟩ <;> omega
  have hkN : k * N ≤ 8 * 32 := Nat.mul_le_mul (by omega) (by omega)
  have hkc : ((k * N : Nat) : Int) = (k : Int) * (N : Int) := by rw [Int.natCast_mul]
  have HP := hide (fun w' (hE : Ext w w') => set_pick (h.ext hE).nodes hk hr (by have := (h.ext hE).sz; exact this))
  have HK := hide hk
  clear hG hb h hk hr
  go_enter Try.func27, Try.ntmps27
  go_wp2_with (first
    | (go_at_call 11; refine HG.out.mono ?_; rintro e w2 ⟨rfl, hE2⟩)
    | (go_at_call 54; refine (HP.out _ hE2).mono ?_; rintro e w3 ⟨rfl, hR3, hT3⟩; have hS3 := (H.out.ext hE2).row1 HK.out hR3 hT3; have hO3 := hS3.own; have hc1 : w3.cell? ⟨g, 1, none⟩ = some (.int .i64 (N : Int)) := by { rw [hO3.cellAt 1 (by omega)]; rfl }))
  go_ret2
  refine ⟨?_, hS3, (hE2.turned _).trans hT3⟩
  go_num
end
end Go.Proofs.Ytillhbbeghbfeaa
