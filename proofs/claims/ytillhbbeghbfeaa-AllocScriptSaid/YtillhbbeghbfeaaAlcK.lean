/- Contracts of spaces: Mark, Defer, by where the number asked for is kept; what is free. -/
import Derived.Test.YtillhbbeghbfeaaAlcL
namespace Go.Proofs.Ytillhbbeghbfeaa
set_option linter.unusedVariables false
open Go.RowKit

/-- Where what is asked for is kept: an inode, or a block; its group; its place there. -/
def spot (G N M : Nat) (n m : Int) : Option (Bool × Nat × Nat) :=
  if (n = 0 ↔ m = 0) then none
  else if m = 0 then (if 0 ≤ oinK G N M n then some (true, (oinK G N M n).toNat, (oinI G N M n).toNat) else none)
  else if 0 ≤ oblK G N M m then some (false, (oblK G N M m).toNat, (oblI G N M m).toNat) else none
section
variable {G N M : Nat} {n m : Int} {k i : Nat}
theorem spot_ino (hm : mayG (G : Int) N M) (h : spot G N M n m = some (true, k, i)) : m = 0 ∧ n ≠ 0 ∧ oinK G N M n = (k : Int) ∧ oinI G N M n = (i : Int) ∧ k < G ∧ i < N := by
  unfold spot at h
  split at h
  · cases h
  rename_i h1
  split at h
  · rename_i h2
    split at h
    · rename_i h3
      simp only [Option.some.injEq, Prod.mk.injEq, true_and] at h
      have hin : 1 ≤ n ∧ n ≤ inosG (G : Int) N M := by
        by_cases hc : 1 ≤ n ∧ n ≤ inosG (G : Int) N M
        · exact hc
        · unfold oinK at h3; rw [if_neg hc] at h3; omega
      obtain ⟨_, b1, b2, b3, b4⟩ := oin_lt hin
      have e1 : oinK (G : Int) N M n = (n - 1) / N := by unfold oinK; rw [if_pos hin]
      have e2 : oinI (G : Int) N M n = (n - 1) % N := by unfold oinI; rw [if_pos hin]
      rw [e1, e2] at h
      refine ⟨h2, fun hn => h1 ⟨fun _ => h2, fun _ => hn⟩, ?_, ?_, ?_, ?_⟩
      · rw [e1]; omega
      · rw [e2]; omega
      · omega
      · omega
    · cases h
  · split at h
    · simp at h
    · cases h
theorem spot_blk (hm : mayG (G : Int) N M) (h : spot G N M n m = some (false, k, i)) : n = 0 ∧ m ≠ 0 ∧ oblK G N M m = (k : Int) ∧ oblI G N M m = (i : Int) ∧ k < G ∧ i < M := by
  unfold spot at h
  split at h
  · cases h
  rename_i h1
  split at h
  · split at h
    · simp at h
    · cases h
  · rename_i h2
    split at h
    · rename_i h3
      simp only [Option.some.injEq, Prod.mk.injEq, true_and] at h
      by_cases hb : isB (G : Int) N M m
      · obtain ⟨k', hm', k0, k1, b1, b2⟩ := isB_iff.1 hb
        obtain ⟨e1, e2⟩ := isB_of hm' k0 k1 b1 b2
        rw [e1, e2] at h
        refine ⟨?_, h2, ?_, ?_, ?_, ?_⟩
        · by_cases hn : n = 0
          · exact hn
          · exact absurd ⟨fun hh => absurd hh hn, fun hh => absurd hh h2⟩ h1
        · rw [e1]; omega
        · rw [e2]; omega
        · omega
        · omega
      · rw [(isB_not hb).1] at h3; omega
    · cases h
theorem spot_none (h : spot G N M n m = none) : (n = 0 ↔ m = 0) ∨ (m = 0 ∧ n ≠ 0 ∧ ¬ 0 ≤ oinK G N M n) ∨ (n = 0 ∧ m ≠ 0 ∧ ¬ 0 ≤ oblK G N M m) := by
  unfold spot at h
  split at h
  · rename_i h1; exact .inl h1
  rename_i h1
  split at h
  · rename_i h2
    split at h
    · cases h
    · rename_i h3
      exact .inr (.inl ⟨h2, fun hn => h1 ⟨fun _ => h2, fun _ => hn⟩, h3⟩)
  · rename_i h2
    split at h
    · cases h
    · rename_i h3
      refine .inr (.inr ⟨?_, h2, h3⟩)
      by_cases hn : n = 0
      · exact hn
      · exact absurd ⟨fun hh => absurd hh hn, fun hh => absurd hh h2⟩ h1
/-- A block's own place. -/
theorem spot_of (hm : mayG (G : Int) N M) (hk : k < G) (hi : i < M) : spot G N M 0 (fstG G N M k + i) = some (false, k, i) := by
  obtain ⟨e1, e2⟩ := isB_of (s := fstG (G : Int) N M k + i) hm (show (0 : Int) ≤ (k : Int) by omega) (by omega) (by omega) (by omega)
  have hf := fstG_yes hm (show (0 : Int) ≤ (k : Int) by omega) (by omega)
  have hL := lenG_bd hm
  have hmn := mayG_nat hm
  have hb := mul_bd8 (k := (k : Int)) (L := lenG (N : Int) M) (by omega) (by omega) (by omega) (by omega)
  unfold spot
  rw [if_neg (by omega), if_neg (by omega), e1, e2, if_pos (by omega)]
  simp
  omega
end
section
variable {w : World} {B g : Nat} {p : Pl} {G N M : Nat} {tn dn tb db : List (List Nat)} {n m : Int} {k i : Nat} {xs ys : List Nat}
theorem asked_none (h : SpaceAt w B g p G N M tn dn tb db) (hn0 : -9223372036854775808 ≤ n) (hs : spot G N M n m = none) :
    ∃ (q : Option Addr) (a b : Int), Calls Try.prog 32 #[.pointer (some ⟨g, 0, none⟩), .int .i64 n, .int .i64 m] w fun e w' => e = .returned (.tuple #[.pointer q, .int .i64 a, .int .i64 b, .bool false]) ∧ Ext w w' := by
  rcases spot_none hs with h1 | ⟨rfl, h1, h2⟩ | ⟨rfl, h1, h2⟩
  · exact ⟨none, 0, 0, (asked_no _ n m w h1).mono fun e w' ⟨a, b⟩ => ⟨a, b ▸ Ext.refl _⟩⟩
  · have h3 := asked_ino h n hn0 h1
    rw [decide_eq_false h2] at h3
    exact ⟨_, _, _, h3⟩
  · have h3 := asked_blk h m h1
    rw [decide_eq_false h2] at h3
    exact ⟨_, _, _, h3⟩
theorem asked_spot1 (h : SpaceAt w B g p G N M tn dn tb db) (hn0 : -9223372036854775808 ≤ n) (hs : spot G N M n m = some (true, k, i)) :
    Calls Try.prog 32 #[.pointer (some ⟨g, 0, none⟩), .int .i64 n, .int .i64 m] w fun e w' => e = .returned (.tuple #[.pointer (some ⟨g, 3, none⟩), .int .i64 (k : Int), .int .i64 (i : Int), .bool true]) ∧ Ext w w' := by
  obtain ⟨rfl, h1, h2, h3, h4, h5⟩ := spot_ino h.may hs
  have h6 := asked_ino h n hn0 h1
  rw [h2, h3, decide_eq_true (by omega)] at h6
  exact h6
theorem asked_spot2 (h : SpaceAt w B g p G N M tn dn tb db) (hs : spot G N M n m = some (false, k, i)) :
    Calls Try.prog 32 #[.pointer (some ⟨g, 0, none⟩), .int .i64 n, .int .i64 m] w fun e w' => e = .returned (.tuple #[.pointer (some ⟨g, 6, none⟩), .int .i64 (k : Int), .int .i64 (i : Int), .bool true]) ∧ Ext w w' := by
  obtain ⟨rfl, h1, h2, h3, h4, h5⟩ := spot_blk h.may hs
  have h6 := asked_blk h m h1
  rw [h2, h3, decide_eq_true (by omega)] at h6
  exact h6
theorem space_Mark_none (h : SpaceAt w B g p G N M tn dn tb db) (hn0 : -9223372036854775808 ≤ n) (hs : spot G N M n m = none) :
    Calls Try.prog 9 #[.pointer (some ⟨g, 0, none⟩), .int .i64 n, .int .i64 m] w fun e w' => e = .returned (.int .i64 2) ∧ Ext w w' := by
  obtain ⟨q, a, b, hq⟩ := asked_none h hn0 hs
  exact mark_no _ n m a b q w hq
theorem space_Defer_none (h : SpaceAt w B g p G N M tn dn tb db) (hn0 : -9223372036854775808 ≤ n) (hs : spot G N M n m = none) :
    Calls Try.prog 28 #[.pointer (some ⟨g, 0, none⟩), .int .i64 n, .int .i64 m] w fun e w' => e = .returned (.int .i64 2) ∧ Ext w w' := by
  obtain ⟨q, a, b, hq⟩ := asked_none h hn0 hs
  exact defer_no _ n m a b q w hq
theorem space_Mark1_ex (h : SpaceAt w B g p G N M tn dn tb db) (hn0 : -9223372036854775808 ≤ n) (hs : spot G N M n m = some (true, k, i)) (hk : tn[k]? = some xs) (hi : hasB xs i = true) :
    Calls Try.prog 9 #[.pointer (some ⟨g, 0, none⟩), .int .i64 n, .int .i64 m] w fun e w' => e = .returned (.int .i64 6) ∧ Ext w w' := by
  have hb := spot_ino h.may hs
  have hm := mayG_nat h.may
  exact mark_ex h.nodes hk hi (by omega) (asked_spot1 h hn0 hs)
theorem space_Mark2_ex (h : SpaceAt w B g p G N M tn dn tb db) (hs : spot G N M n m = some (false, k, i)) (hk : tb[k]? = some xs) (hi : hasB xs i = true) :
    Calls Try.prog 9 #[.pointer (some ⟨g, 0, none⟩), .int .i64 n, .int .i64 m] w fun e w' => e = .returned (.int .i64 6) ∧ Ext w w' := by
  have hb := spot_blk h.may hs
  have hm := mayG_nat h.may
  exact mark_ex h.blocks hk hi (by omega) (asked_spot2 h hs)
theorem space_Mark1_ok (h : SpaceAt w B g p G N M tn dn tb db) (hn0 : -9223372036854775808 ≤ n) (hs : spot G N M n m = some (true, k, i)) (hk : tn[k]? = some xs) (hi : hasB xs i = false) :
    Calls Try.prog 9 #[.pointer (some ⟨g, 0, none⟩), .int .i64 n, .int .i64 m] w fun e w' => e = .returned (.int .i64 0) ∧ SpaceAt w' B g p G N M (tn.set k (withB xs i true)) dn tb db ∧ Turned [p.g1] w w' := by
  have hb := spot_ino h.may hs
  have hm := mayG_nat h.may
  exact (mark_ok h.nodes hk hi (by omega) h.sz (asked_spot1 h hn0 hs)).mono fun e w' ⟨a, b, c⟩ => ⟨a, h.row1 hk b c, c⟩
theorem space_Mark2_ok (h : SpaceAt w B g p G N M tn dn tb db) (hs : spot G N M n m = some (false, k, i)) (hk : tb[k]? = some xs) (hi : hasB xs i = false) :
    Calls Try.prog 9 #[.pointer (some ⟨g, 0, none⟩), .int .i64 n, .int .i64 m] w fun e w' => e = .returned (.int .i64 0) ∧ SpaceAt w' B g p G N M tn dn (tb.set k (withB xs i true)) db ∧ Turned [p.g3] w w' := by
  have hb := spot_blk h.may hs
  have hm := mayG_nat h.may
  exact (mark_ok h.blocks hk hi (by omega) h.sz (asked_spot2 h hs)).mono fun e w' ⟨a, b, c⟩ => ⟨a, h.row3 hk b c, c⟩
theorem space_Defer1_no (h : SpaceAt w B g p G N M tn dn tb db) (hn0 : -9223372036854775808 ≤ n) (hs : spot G N M n m = some (true, k, i)) (hk : tn[k]? = some xs) (hk2 : dn[k]? = some ys) (hi : hasB xs i = false ∨ hasB ys i = true) :
    Calls Try.prog 28 #[.pointer (some ⟨g, 0, none⟩), .int .i64 n, .int .i64 m] w fun e w' => e = .returned (.int .i64 5) ∧ Ext w w' := by
  have hb := spot_ino h.may hs
  have hm := mayG_nat h.may
  rcases hx : hasB xs i with _ | _
  · exact defer_none h.nodes hk hk2 hx (by omega) (asked_spot1 h hn0 hs)
  · exact defer_again h.nodes hk hk2 hx (by rcases hi with hi | hi; (rw [hx] at hi; cases hi); exact hi) (by omega) (asked_spot1 h hn0 hs)
theorem space_Defer2_no (h : SpaceAt w B g p G N M tn dn tb db) (hs : spot G N M n m = some (false, k, i)) (hk : tb[k]? = some xs) (hk2 : db[k]? = some ys) (hi : hasB xs i = false ∨ hasB ys i = true) :
    Calls Try.prog 28 #[.pointer (some ⟨g, 0, none⟩), .int .i64 n, .int .i64 m] w fun e w' => e = .returned (.int .i64 5) ∧ Ext w w' := by
  have hb := spot_blk h.may hs
  have hm := mayG_nat h.may
  rcases hx : hasB xs i with _ | _
  · exact defer_none h.blocks hk hk2 hx (by omega) (asked_spot2 h hs)
  · exact defer_again h.blocks hk hk2 hx (by rcases hi with hi | hi; (rw [hx] at hi; cases hi); exact hi) (by omega) (asked_spot2 h hs)
theorem space_Defer1_ok (h : SpaceAt w B g p G N M tn dn tb db) (hn0 : -9223372036854775808 ≤ n) (hs : spot G N M n m = some (true, k, i)) (hk : tn[k]? = some xs) (hk2 : dn[k]? = some ys) (hi : hasB xs i = true) (hj : hasB ys i = false) :
    Calls Try.prog 28 #[.pointer (some ⟨g, 0, none⟩), .int .i64 n, .int .i64 m] w fun e w' => e = .returned (.int .i64 0) ∧ SpaceAt w' B g p G N M tn (dn.set k (withB ys i true)) tb db ∧ Turned [p.g2] w w' := by
  have hb := spot_ino h.may hs
  have hm := mayG_nat h.may
  exact (defer_ok h.nodes hk hk2 hi hj (by omega) h.sz (asked_spot1 h hn0 hs)).mono fun e w' ⟨a, b, c⟩ => ⟨a, h.put2 c b (by simp [h.l2]) (set_wf h.w2 (by rw [withB_len]; exact h.w2 ys (List.mem_of_getElem? hk2))), c⟩
theorem space_Defer2_ok (h : SpaceAt w B g p G N M tn dn tb db) (hs : spot G N M n m = some (false, k, i)) (hk : tb[k]? = some xs) (hk2 : db[k]? = some ys) (hi : hasB xs i = true) (hj : hasB ys i = false) :
    Calls Try.prog 28 #[.pointer (some ⟨g, 0, none⟩), .int .i64 n, .int .i64 m] w fun e w' => e = .returned (.int .i64 0) ∧ SpaceAt w' B g p G N M tn dn tb (db.set k (withB ys i true)) ∧ Turned [p.g4] w w' := by
  have hb := spot_blk h.may hs
  have hm := mayG_nat h.may
  exact (defer_ok h.blocks hk hk2 hi hj (by omega) h.sz (asked_spot2 h hs)).mono fun e w' ⟨a, b, c⟩ => ⟨a, h.put4 c b (by simp [h.l4]) (set_wf h.w4 (by rw [withB_len]; exact h.w4 ys (List.mem_of_getElem? hk2))), c⟩
end
/-! What is free. -/
theorem allB_eq (xs : List Nat) (n : Nat) : allB xs n = (List.range n).filter (hasB xs) := by
  unfold allB
  by_cases h : n ≤ 8 * xs.length
  · rw [Nat.min_eq_left h]
  · obtain ⟨d, rfl⟩ : ∃ d, n = 8 * xs.length + d := ⟨n - 8 * xs.length, by omega⟩
    rw [Nat.min_eq_right (by omega), List.range_add, List.filter_append]
    have e : ((List.range d).map (8 * xs.length + ·)).filter (hasB xs) = [] := by
      rw [List.filter_eq_nil_iff]
      intro a ha
      obtain ⟨j, _, rfl⟩ := List.mem_map.1 ha
      rw [hasB_far (by omega)]; simp
    rw [e, List.append_nil]
theorem allB_count (xs : List Nat) (n : Nat) : (allB xs n).length = (List.range n).countP (hasB xs) := by rw [allB_eq, List.countP_eq_length_filter]
theorem count_upd (p q : Nat → Bool) {i : Nat} (h : ∀ k, k ≠ i → q k = p k) : ∀ n, (List.range n).countP q + (if i < n ∧ p i = true then 1 else 0) = (List.range n).countP p + (if i < n ∧ q i = true then 1 else 0)
  | 0 => by simp
  | n + 1 => by
    have ih := count_upd p q h n
    rw [List.range_succ, List.countP_append, List.countP_append, List.countP_singleton, List.countP_singleton]
    by_cases hin : i = n
    · subst hin
      simp only [Nat.lt_irrefl, false_and, if_false, Nat.lt_succ_self, true_and] at ih ⊢
      omega
    · rw [h n (fun hh => hin hh.symm)]
      have e : i < n + 1 ↔ i < n := by omega
      simp only [e]
      omega
/-- A number put into a set that it was not in. -/
theorem allB_put {xs : List Nat} (hb : Bytes xs) {n i : Nat} (hi : i < n) (hl : n ≤ 8 * xs.length) (h : hasB xs i = false) : (allB (withB xs i true) n).length = (allB xs n).length + 1 := by
  have := count_upd (hasB xs) (hasB (withB xs i true)) (i := i) (fun k hk => by rw [hasB_withB hb, if_neg (fun hh => hk hh.1)]) n
  rw [allB_count, allB_count]
  rw [if_neg (by rw [h]; simp), if_pos ⟨hi, by rw [hasB_withB hb, if_pos ⟨rfl, by omega⟩]⟩] at this
  omega
theorem freeN_put {xs : List Nat} (hb : Bytes xs) {n i : Nat} (hi : i < n) (hl : n ≤ 8 * xs.length) (h : hasB xs i = false) : freeN n (withB xs i true) + 1 = freeN n xs := by
  have h1 := allB_put hb hi hl h
  have h2 := allB_len (withB xs i true) n
  unfold freeN
  omega
theorem freeN_pos {xs : List Nat} {n : Nat} : 0 < freeN n xs ↔ ∃ i, i < n ∧ hasB xs i = false := by
  constructor
  · intro h
    by_cases hc : ∃ i, i < n ∧ hasB xs i = false
    · exact hc
    · have hall : (List.range n).countP (hasB xs) = n := by
        have : (List.range n).countP (hasB xs) = (List.range n).length := by
          rw [List.countP_eq_length]
          intro a ha
          rw [List.mem_range] at ha
          cases hx : hasB xs a
          · exact absurd ⟨a, ha, hx⟩ hc
          · rfl
        simpa using this
      unfold freeN at h
      rw [allB_count, hall] at h
      omega
  · rintro ⟨i, hi, h⟩
    unfold freeN
    rw [allB_count]
    have : (List.range n).countP (hasB xs) < (List.range n).length := by
      rw [List.countP_eq_length_filter]
      refine Nat.lt_of_le_of_ne (List.length_filter_le _ _) (fun he => ?_)
      rw [List.length_filter_eq_length_iff] at he
      have := he i (List.mem_range.2 hi)
      rw [h] at this
      cases this
    rw [List.length_range] at this
    omega
/-- The first that is free. -/
def firN (n : Nat) (xs : List Nat) : Nat := ((List.range n).find? fun i => !hasB xs i).getD 0
theorem firN_is {xs : List Nat} {n : Nat} (h : 0 < freeN n xs) : FirstIs xs 0 (n : Int) (firN n xs : Nat) := by
  obtain ⟨i, hi, hx⟩ := freeN_pos.1 h
  unfold firN
  rcases hf : (List.range n).find? (fun i => !hasB xs i) with _ | r
  · rw [List.find?_eq_none] at hf
    have := hf i (List.mem_range.2 hi)
    rw [hx] at this
    simp at this
  · rw [List.find?_range_eq_some] at hf
    obtain ⟨h1, h2, h3⟩ := hf
    simp only [Option.getD_some]
    rw [List.mem_range] at h2
    refine .inr ⟨by omega, by omega, by omega, by rw [hasI_nat]; simpa using h1, fun j j1 j2 j3 => ?_⟩
    obtain ⟨a, rfl⟩ := Int.eq_ofNat_of_zero_le j2
    rw [hasI_nat]
    have := h3 a (by omega)
    simpa using this
end Go.Proofs.Ytillhbbeghbfeaa
