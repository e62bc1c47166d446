/- Slots of directories: whether one may be, and what is found. -/
import Derived.Test.YtngffmchjjpfbaaRecP
namespace Go.Proofs.Ytngffmchjjpfbaa
set_option linter.unusedVariables false
open Go.RowKit

/-- A slot: its inode, its kind, its name. -/
abbrev Slot := Int × Int × ByteArray
def sV (s : Slot) : List Value := [.int .i64 s.1, .int .i64 s.2.1, .string s.2.2]
def zS : Slot := (0, 0, ByteArray.empty)
theorem sV_inj {r s : Slot} : sV r = sV s ↔ r = s := by
  obtain ⟨r1, r2, r3⟩ := r
  obtain ⟨s1, s2, s3⟩ := s
  simp [sV]
theorem sV_one (r : Slot) : ∀ u ∈ sV r, u.oneCell' = true := by
  intro u hu
  simp [sV] at hu
  rcases hu with rfl | rfl | rfl <;> rfl
def mayS (s : Slot) : Bool := decide (s = zS) || (inW s.1 && (decide (1 ≤ s.2.1) && (decide (s.2.1 ≤ 3) && okN s.2.2)))
/-- Four of them. -/
def LV (ss : List Slot) : List Value := ss.flatMap sV
theorem LV_cons (s : Slot) (ss : List Slot) : LV (s :: ss) = sV s ++ LV ss := rfl
theorem LV_len (ss : List Slot) : (LV ss).length = 3 * ss.length := by
  induction ss with
  | nil => rfl
  | cons s ss ih => rw [LV_cons, List.length_append, ih]; simp [sV]; omega
theorem LV_one (ss : List Slot) : ∀ u ∈ LV ss, u.oneCell' = true := by
  intro u hu
  obtain ⟨s, _, h⟩ := List.mem_flatMap.1 hu
  exact sV_one s u h
theorem LV_inj : ∀ {rs ss : List Slot}, rs.length = ss.length → (LV rs = LV ss ↔ rs = ss) := by
  intro rs
  induction rs with
  | nil => intro ss h; cases ss with
    | nil => simp
    | cons _ _ => simp at h
  | cons r rs ih => intro ss h; cases ss with
    | nil => simp at h
    | cons s ss =>
      have hs : (sV r).length = (sV s).length := rfl
      rw [LV_cons, LV_cons, List.cons.injEq]
      constructor
      · intro e
        obtain ⟨e1, e2⟩ := List.append_inj e hs
        exact ⟨sV_inj.1 e1, (ih (by simpa using h)).1 e2⟩
      · rintro ⟨rfl, rfl⟩; rfl
def nS (ss : List Slot) (k : Nat) : Slot := ss.getD k zS
theorem LV_nth : ∀ {ss : List Slot} {k : Nat}, k < ss.length → ((LV ss).drop (k * 3)).take 3 = sV (nS ss k) := by
  intro ss
  induction ss with
  | nil => intro k h; simp at h
  | cons s ss ih =>
    intro k h
    cases k with
    | zero => simp [LV_cons, nS, sV]
    | succ k =>
      have := ih (k := k) (by simpa using h)
      have e : (LV (s :: ss)).drop 3 = LV ss := rfl
      rw [show (k + 1) * 3 = 3 + k * 3 from by omega, ← List.drop_drop, e, this]
      simp [nS]
theorem LV_at {ss : List Slot} {k : Nat} (h : k < ss.length) : (LV ss)[k * 3]? = some (.int .i64 (nS ss k).1) ∧ (LV ss)[k * 3 + 1]? = some (.int .i64 (nS ss k).2.1) ∧ (LV ss)[k * 3 + 2]? = some (.string (nS ss k).2.2) := by
  have e := LV_nth h
  have g : ∀ j, j < 3 → (LV ss)[k * 3 + j]? = (sV (nS ss k))[j]? := by
    intro j hj
    rw [← e, List.getElem?_take, if_pos hj, List.getElem?_drop]
  exact ⟨g 0 (by omega), g 1 (by omega), g 2 (by omega)⟩
theorem drop_nS {ss : List Slot} {k : Nat} (h : k < ss.length) : ss.drop k = nS ss k :: ss.drop (k + 1) := by
  rw [List.drop_eq_getElem_cons h]
  simp [nS, List.getD_eq_getElem?_getD, h]
/-- The first that a test holds of. -/
def findA (p : Slot → Bool) : List Slot → Int → Int
  | [], _ => -1
  | s :: r, k => if p s = true then k else findA p r (k + 1)
def isNm (nm : ByteArray) (s : Slot) : Bool := !(s.1 == 0) && (s.2.2.toList == nm.toList)
def isFr (s : Slot) : Bool := s.1 == 0
def findL (ss : List Slot) (nm : ByteArray) : Int := findA (isNm nm) ss 0
def freeL (ss : List Slot) : Int := findA isFr ss 0
theorem findA_step {p : Slot → Bool} {ss : List Slot} {k : Nat} (h : k < ss.length) : findA p (ss.drop k) k = if p (nS ss k) = true then (k : Int) else findA p (ss.drop (k + 1)) ((k : Int) + 1) := by
  rw [drop_nS h]
  rfl
theorem findA_end {p : Slot → Bool} {ss : List Slot} {k : Nat} (h : ss.length ≤ k) (i : Int) : findA p (ss.drop k) i = -1 := by
  rw [List.drop_of_length_le h]
  rfl

theorem info_slot : (Try.prog.info? 39).map (·.size) = some 3 := by kernel_rfl
theorem agg_slot (w : World) : (isAgg 39).run Try.prog w = .ok true w := by kernel_rfl
theorem zero_slot : (Try.prog.info? 39).map (·.zero) = some (some (.agg (sV zS).toArray)) := by kernel_rfl
theorem bld_slot (w : World) : (Instr.build 39 #[]).run Try.prog w = .ok (.agg (sV zS).toArray) w := by kernel_rfl
theorem row_slot : isRowT Try.prog 39 = true := by kernel_rfl
theorem flat_slot : flatT Try.prog 10 39 = some [.int .i64, .int .i64, .string] := by kernel_rfl
theorem shape_slot (r : Slot) : Shape [.int .i64, .int .i64, .string] (sV r) := by
  refine ⟨rfl, fun i k v hk hv => ?_⟩
  have hi := (List.getElem?_eq_some_iff.1 hk).1
  simp at hi
  rcases (show i = 0 ∨ i = 1 ∨ i = 2 by omega) with rfl | rfl | rfl <;> (simp [sV] at hk hv; subst hk; subst hv; simp [cellIs])
theorem eq_slot (r s : Slot) (w : World) : (Op.equalIn 10000 39 (.agg (sV r).toArray) (.agg (sV s).toArray)).run Try.prog w = .ok (decide (r = s)) w := by
  have := @run_eql_flat Try.prog 10 39 _ flat_slot (by omega) row_slot w (sV r) (sV s) (shape_slot r) (shape_slot s) (decidable_of_iff (r = s) sV_inj.symm)
  rw [this]
  congr 1
  simp [sV_inj]
set_option maxHeartbeats 2000000 in
set_option maxRecDepth 100000 in
theorem dir_May (r : Slot) (w : World) : Calls Try.prog 29 #[.agg (sV r).toArray] w fun e w' => e = .returned (.bool (mayS r)) ∧ Ext w w' := by
  have heq := fun w1 => eq_slot r zS w1
  by_cases hz : r = zS
  · rw [decide_eq_true hz] at heq
    have HM := hide (show mayS r = true by unfold mayS; rw [decide_eq_true hz]; rfl)
    clear hz
    go_enter Try.func29, Try.ntmps29
    go_wp2_with (first
      | (with_reducible refine ag_box rfl 39 (.tmp 0) rfl _ 3 rfl rfl (by omega) (sV_one r) w.heap.size (Nat.le_refl _) ?_; intro w1 hB1 hE1 hz1)
      | (with_reducible refine ag_load rfl 39 (.tmp 1) rfl w.heap.size 3 w.heap.size 39 _ rfl hB1 agg_slot info_slot ?_)
      | (with_reducible refine ag_zero rfl 39 rfl _ (bld_slot _) ?_))
    go_ret
    exact ⟨ret_bool HM.out.symm, hE1⟩
  rw [decide_eq_false hz] at heq
  have hm : mayS r = (inW r.1 && (decide (1 ≤ r.2.1) && (decide (r.2.1 ≤ 3) && okN r.2.2))) := by
    unfold mayS; rw [decide_eq_false hz]; rfl
  clear hz
  obtain ⟨i, k, a⟩ := r
  dsimp only at hm
  have HM := hide hm
  clear hm
  have n1 := fun w => dir_Name a w
  go_enter Try.func29, Try.ntmps29
  go_upto_region 3 with (first
    | (with_reducible refine ag_box rfl 39 (.tmp 0) rfl _ 3 rfl rfl (by omega) (sV_one (i, k, a)) w.heap.size (Nat.le_refl _) ?_; intro w1 hB1 hE1 hz1
       have c0 : w1.cell? ⟨w.heap.size, 0, none⟩ = some (.int .i64 i) := hB1.cellAt 0 (by omega)
       have c1 : w1.cell? ⟨w.heap.size, 1, none⟩ = some (.int .i64 k) := hB1.cellAt 1 (by omega)
       have c2 : w1.cell? ⟨w.heap.size, 2, none⟩ = some (.string a) := hB1.cellAt 2 (by omega))
    | (with_reducible refine ag_load rfl 39 (.tmp 1) rfl w.heap.size 3 w.heap.size 39 _ rfl hB1 agg_slot info_slot ?_)
    | (with_reducible refine ag_zero rfl 39 rfl _ (bld_slot _) ?_))
  clear hB1 heq
  have hcase : (mayS (i, k, a) = false ∧ i < 1) ∨ (mayS (i, k, a) = false ∧ ¬ i < 1 ∧ 65535 < i) ∨ (mayS (i, k, a) = false ∧ ¬ i < 1 ∧ ¬ 65535 < i ∧ k < 1) ∨ (mayS (i, k, a) = false ∧ ¬ i < 1 ∧ ¬ 65535 < i ∧ ¬ k < 1 ∧ 3 < k) ∨ (mayS (i, k, a) = okN a ∧ ¬ i < 1 ∧ ¬ 65535 < i ∧ ¬ k < 1 ∧ ¬ 3 < k) := by
    rw [HM.out]
    unfold inW
    by_cases h1 : i < 1
    · exact .inl ⟨by rw [decide_eq_false (by omega)]; rfl, h1⟩
    by_cases h2 : 65535 < i
    · exact .inr (.inl ⟨by rw [decide_eq_false (p := i ≤ 65535) (by omega)]; simp, h1, h2⟩)
    by_cases h3 : k < 1
    · exact .inr (.inr (.inl ⟨by rw [decide_eq_false (p := 1 ≤ k) (by omega)]; simp, h1, h2, h3⟩))
    by_cases h4 : 3 < k
    · exact .inr (.inr (.inr (.inl ⟨by rw [decide_eq_false (p := k ≤ 3) (by omega)]; simp, h1, h2, h3, h4⟩)))
    · exact .inr (.inr (.inr (.inr ⟨by rw [decide_eq_true (p := 1 ≤ i) (by omega), decide_eq_true (p := i ≤ 65535) (by omega), decide_eq_true (p := 1 ≤ k) (by omega), decide_eq_true (p := k ≤ 3) (by omega)]; rfl, h1, h2, h3, h4⟩)))
  clear HM
  rcases hcase with ⟨hm, h1⟩ | ⟨hm, h1, h2⟩ | ⟨hm, h1, h2, h3⟩ | ⟨hm, h1, h2, h3, h4⟩ | ⟨hm, h1, h2, h3, h4⟩
  case inr.inr.inr.inr =>
    have HR := hide hm
    clear hm
    go_wp2_with (go_at_call 27; with_reducible refine (n1 _).mono ?_; rintro e w3 ⟨rfl, hE3⟩)
    go_ret
    exact ⟨ret_bool HR.out.symm, hE1.trans hE3⟩
  all_goals
    have HR := hide hm
    clear hm
    go_wp2_with fail
    go_ret
    exact ⟨ret_bool HR.out.symm, hE1⟩
set_option maxHeartbeats 2000000 in
set_option maxRecDepth 100000 in
theorem ref9_May (r : Slot) (w : World) : Calls Try.prog 30 #[.agg (sV r).toArray] w fun e w' => e = .returned (.bool (mayS r)) ∧ Ext w w' := by
  have heq := fun w1 => eq_slot r zS w1
  by_cases hz : r = zS
  · rw [decide_eq_true hz] at heq
    have HM := hide (show mayS r = true by unfold mayS; rw [decide_eq_true hz]; rfl)
    clear hz
    go_enter Try.func30, Try.ntmps30
    go_wp2_with (first
      | (with_reducible refine ag_box rfl 39 (.tmp 0) rfl _ 3 rfl rfl (by omega) (sV_one r) w.heap.size (Nat.le_refl _) ?_; intro w1 hB1 hE1 hz1)
      | (with_reducible refine ag_load rfl 39 (.tmp 1) rfl w.heap.size 3 w.heap.size 39 _ rfl hB1 agg_slot info_slot ?_)
      | (with_reducible refine ag_zero rfl 39 rfl _ (bld_slot _) ?_))
    go_ret
    exact ⟨ret_bool HM.out.symm, hE1⟩
  rw [decide_eq_false hz] at heq
  have hm : mayS r = (inW r.1 && (decide (1 ≤ r.2.1) && (decide (r.2.1 ≤ 3) && okN r.2.2))) := by
    unfold mayS; rw [decide_eq_false hz]; rfl
  clear hz
  obtain ⟨i, k, a⟩ := r
  dsimp only at hm
  have hcase : (mayS (i, k, a) = false ∧ i < 1) ∨ (mayS (i, k, a) = false ∧ ¬ i < 1 ∧ 65535 < i) ∨ (mayS (i, k, a) = false ∧ ¬ i < 1 ∧ ¬ 65535 < i ∧ k < 1) ∨ (mayS (i, k, a) = false ∧ ¬ i < 1 ∧ ¬ 65535 < i ∧ ¬ k < 1 ∧ 3 < k) ∨ (mayS (i, k, a) = okN a ∧ ¬ i < 1 ∧ ¬ 65535 < i ∧ ¬ k < 1 ∧ ¬ 3 < k) := by
    rw [hm]
    unfold inW
    by_cases h1 : i < 1
    · exact .inl ⟨by rw [decide_eq_false (by omega)]; rfl, h1⟩
    by_cases h2 : 65535 < i
    · exact .inr (.inl ⟨by rw [decide_eq_false (p := i ≤ 65535) (by omega)]; simp, h1, h2⟩)
    by_cases h3 : k < 1
    · exact .inr (.inr (.inl ⟨by rw [decide_eq_false (p := 1 ≤ k) (by omega)]; simp, h1, h2, h3⟩))
    by_cases h4 : 3 < k
    · exact .inr (.inr (.inr (.inl ⟨by rw [decide_eq_false (p := k ≤ 3) (by omega)]; simp, h1, h2, h3, h4⟩)))
    · exact .inr (.inr (.inr (.inr ⟨by rw [decide_eq_true (p := 1 ≤ i) (by omega), decide_eq_true (p := i ≤ 65535) (by omega), decide_eq_true (p := 1 ≤ k) (by omega), decide_eq_true (p := k ≤ 3) (by omega)]; rfl, h1, h2, h3, h4⟩)))
  clear hm
  have n1 := fun w => ref9_Name a w
  rcases hcase with ⟨hm, h1⟩ | ⟨hm, h1, h2⟩ | ⟨hm, h1, h2, h3⟩ | ⟨hm, h1, h2, h3, h4⟩ | ⟨hm, h1, h2, h3, h4⟩
  all_goals
    have HR := hide hm
    clear hm
    go_enter Try.func30, Try.ntmps30
    go_wp2_with (first
      | (with_reducible refine ag_box rfl 39 (.tmp 0) rfl _ 3 rfl rfl (by omega) (sV_one (i, k, a)) w.heap.size (Nat.le_refl _) ?_; intro w1 hB1 hE1 hz1
         have c0 : w1.cell? ⟨w.heap.size, 0, none⟩ = some (.int .i64 i) := hB1.cellAt 0 (by omega)
         have c1 : w1.cell? ⟨w.heap.size, 1, none⟩ = some (.int .i64 k) := hB1.cellAt 1 (by omega)
         have c2 : w1.cell? ⟨w.heap.size, 2, none⟩ = some (.string a) := hB1.cellAt 2 (by omega))
      | (with_reducible refine ag_load rfl 39 (.tmp 1) rfl w.heap.size 3 w.heap.size 39 _ rfl hB1 agg_slot info_slot ?_)
      | (with_reducible refine ag_zero rfl 39 rfl _ (bld_slot _) ?_)
      | (go_at_call 28; with_reducible refine (n1 _).mono ?_; rintro e w3 ⟨rfl, rfl⟩))
    go_ret
    exact ⟨ret_bool HR.out.symm, hE1⟩
end Go.Proofs.Ytngffmchjjpfbaa
