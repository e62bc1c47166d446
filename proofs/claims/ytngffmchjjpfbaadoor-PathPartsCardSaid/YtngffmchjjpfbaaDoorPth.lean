/- Paths: what the program takes them apart to. -/
import Derived.Test.YtngffmchjjpfbaaDoorBaseT
import Derived.Test.YtngffmchjjpfbaaDoorPthP
import Derived.Test.YtngffmchjjpfbaaDoorShelfP
namespace Go.Proofs.YtngffmchjjpfbaaDoor
set_option linter.unusedVariables false
open Go.RowKit

def toB (p : L8) : ByteArray := ⟨p.toArray⟩
theorem toB_data (p : L8) : (toB p).data.toList = p := rfl
theorem toB_size (p : L8) : (toB p).size = p.length := by simp [toB, ByteArray.size]
theorem toB_list (p : L8) : (toB p).toList = p := by rw [ByteArray.toList_eq]; rfl
theorem toB_of (s : ByteArray) : toB s.data.toList = s := by apply ByteArray.ext; simp [toB]
theorem toB_inj {p q : L8} (h : toB p = toB q) : p = q := by rw [← toB_data p, h]; rfl
def mB (ps : List L8) : List ByteArray := ps.map toB
theorem mB_len (ps : List L8) : (mB ps).length = ps.length := by simp [mB]
theorem mB_inj {ps qs : List L8} : mB ps = mB qs ↔ ps = qs := by
  constructor
  · intro h
    have := congrArg (List.map fun s : ByteArray => s.data.toList) h
    simpa [mB, List.map_map, Function.comp_def, toB_data] using this
  · rintro rfl; rfl
theorem mB_append (ps qs : List L8) : mB (ps ++ qs) = mB ps ++ mB qs := by simp [mB]
/-- The pieces of a text. -/
def pcs (s : ByteArray) : List ByteArray := mB (spl s.data.toList)
theorem pcs_split (s : ByteArray) : Lib.splitB ⟨#[47]⟩ 0 (Lib.countB s ⟨#[47]⟩) s = pcs s ∧ (pcs s).length = Lib.countB s ⟨#[47]⟩ + 1 := by
  have h := Lib.splitB_data ⟨#[47]⟩ 0 (Lib.countB s ⟨#[47]⟩) s
  have hc : Lib.countB s ⟨#[47]⟩ = s.data.toList.count 47 := Lib.count_one 47 s.data.toList
  have h2 := splitK_spl (Lib.countB s ⟨#[47]⟩) s.data.toList (by omega)
  have e : (Lib.splitB ⟨#[47]⟩ 0 (Lib.countB s ⟨#[47]⟩) s) = pcs s := by
    have h3 : ((Lib.splitB ⟨#[47]⟩ 0 (Lib.countB s ⟨#[47]⟩) s).map fun b => b.data.toList) = spl s.data.toList := h.trans h2
    unfold pcs mB
    rw [← h3, List.map_map]
    conv => lhs; rw [← List.map_id (Lib.splitB ⟨#[47]⟩ 0 (Lib.countB s ⟨#[47]⟩) s)]
    apply List.map_congr_left
    intro a _
    exact (toB_of a).symm
  exact ⟨e, by rw [← e]; exact Lib.splitB_all _ (by decide) 0 _ s rfl⟩
theorem spl_len (l : L8) : (spl l).length ≤ l.length + 1 := by
  induction l with
  | nil => simp [spl]
  | cons b l ih =>
    unfold spl
    split
    · simp; omega
    · split
      · simp
      · rename_i p ps h
        rw [h] at ih
        simp at ih ⊢
        omega
theorem spl_plen (l : L8) : ∀ p ∈ spl l, p.length ≤ l.length := by
  induction l with
  | nil => intro p hp; simp [spl] at hp; subst hp; simp
  | cons b l ih =>
    intro p hp
    unfold spl at hp
    split at hp
    · rcases List.mem_cons.1 hp with rfl | hp
      · simp
      · have := ih p hp; simp; omega
    · split at hp
      · simp at hp; subst hp; simp
      · rename_i q qs h
        rcases List.mem_cons.1 hp with rfl | hp
        · have := ih q (by rw [h]; simp); simp; omega
        · have := ih p (by rw [h]; simp [hp]); simp; omega
theorem prt_len (l : L8) : (prt l).length ≤ l.length + 1 := Nat.le_trans (List.length_filter_le _ _) (spl_len l)
theorem prt_plen (l : L8) : ∀ p ∈ prt l, p.length ≤ l.length := fun p hp => spl_plen l p (List.mem_filter.1 hp).1
theorem catL_len (M : Nat) : ∀ ps : List L8, (∀ p ∈ ps, p.length ≤ M) → (catL ps).length ≤ ps.length * (M + 1) := by
  intro ps
  induction ps with
  | nil => intro _; simp [catL]
  | cons p ps ih =>
    intro h
    have h1 := ih (fun q hq => h q (by simp [hq]))
    have h2 := h p (by simp)
    have e : catL (p :: ps) = 47 :: (p ++ catL ps) := rfl
    rw [e, List.length_cons, List.length_append, List.length_cons, Nat.succ_mul]
    omega
theorem joinL_len {M : Nat} {ps : List L8} (h : ∀ p ∈ ps, p.length ≤ M) : (joinL ps).length ≤ ps.length * (M + 1) + 1 := by
  cases ps with
  | nil => simp [joinL, Lib.join_nil]
  | cons x r => rw [joinL_cat (by simp)]; have := catL_len M (x :: r) h; omega

set_option maxHeartbeats 400000 in
theorem str_Clone (s : ByteArray) (w : World) (hs : s.size ≤ 1000000) : Calls Tryd.prog 32 #[.string s] w fun e w' => e = .returned (.string s) ∧ Ext w w' := by
  have h := fun w => Tryd.stringslite_Clone s w (by omega)
  go_enter Tryd.func32, Tryd.ntmps32
  go_wp2_with (go_at_call 38; refine (h _).mono ?_; rintro e w' ⟨rfl, hE⟩)
  go_ret
  exact ⟨rfl, hE⟩
set_option maxHeartbeats 400000 in
theorem str_Split (s : ByteArray) (w : World) (hs : s.size ≤ 1000000) : Calls Tryd.prog 31 #[.string s, .string ⟨#[47]⟩] w fun e w' =>
    e = .returned (.slice (some ⟨w.heap.size, 0, none⟩) (pcs s).length (pcs s).length) ∧ w' = w.alloc (.cells (vT (pcs s)).toArray 9) := by
  obtain ⟨e1, e2⟩ := pcs_split s
  have hle : Lib.countB s ⟨#[47]⟩ ≤ s.size := Lib.countB_le _ (by decide) s.size s (Nat.le_refl _)
  have hg : Calls Tryd.prog 37 #[.string s, .string ⟨#[47]⟩, .int .i64 0, .int .i64 (-1)] w fun e w' =>
      e = .returned (.slice (some ⟨w.heap.size, 0, none⟩) (pcs s).length (pcs s).length) ∧ w' = w.alloc (.cells (vT (pcs s)).toArray 9) := by
    have h := Any.strings_genSplit_core Tryd.lays221 (by kernel_rfl) s ⟨#[47]⟩ 0 (-1) (Lib.countB s ⟨#[47]⟩ + 1) w (by omega) (by decide) (Nat.zero_le _)
      (fun x c hx => (Any.strings_Index_one { Tryd.lays221 with } x 47 _).mono fun e w' ⟨h1, h2⟩ => ⟨by rw [h1]; unfold Lib.indexB; rw [show (⟨#[47]⟩ : ByteArray).data.toList = [47] from rfl, Lib.index_one], h2⟩)
      ((Any.strings_Count_one { Tryd.lays221 with } s 47 w).mono fun e w' ⟨h1, h2⟩ => ⟨by
        rw [h1]
        show _ = Ending.returned (Value.int .i64 ((Lib.count s.data.toList [47] : Nat) : Int))
        rw [Lib.count_one]; rfl, h2⟩)
      (by decide) (by decide) (by rw [if_pos (by decide)]; omega)
    rw [Nat.add_sub_cancel, e1, ← e2] at h
    have ec : Lib.cellsOf (pcs s) (pcs s).length = (vT (pcs s)).toArray := Lib.cellsOf_full _
    rw [ec] at h
    exact h
  clear e1 e2 hle
  go_enter Tryd.func31, Tryd.ntmps31
  go_wp2_with (go_at_call 37; refine hg.mono ?_; rintro e w' ⟨rfl, hw⟩; rw [hw])
  go_ret
  exact ⟨rfl, rfl⟩
end Go.Proofs.YtngffmchjjpfbaaDoor
