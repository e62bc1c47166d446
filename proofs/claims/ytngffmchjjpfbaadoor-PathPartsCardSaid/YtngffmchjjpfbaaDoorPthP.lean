/- Paths: plain mathematics. No program. -/
import Derived.WalkKit
import Derived.Lib.SplitLaws
import Derived.Lib.Join
import Derived.Lib.IndexBytes
import Derived.Lib.IndexLaws
namespace Go.Proofs.YtngffmchjjpfbaaDoor
set_option linter.unusedVariables false

abbrev L8 := List UInt8
/-- What stands between slashes. -/
def spl : L8 → List L8
  | [] => [[]]
  | b :: l => if b = 47 then [] :: spl l else match spl l with
    | [] => [[b]]
    | p :: ps => (b :: p) :: ps
theorem spl_cons (b : UInt8) (l : L8) : spl (b :: l) = if b = 47 then [] :: spl l else match spl l with | [] => [[b]] | p :: ps => (b :: p) :: ps := rfl
theorem spl_ne (l : L8) : spl l ≠ [] := by
  cases l with
  | nil => simp [spl]
  | cons b l =>
    unfold spl
    split
    · simp
    · split <;> simp
theorem spl_slash (l : L8) : spl (47 :: l) = [] :: spl l := by simp [spl]
theorem spl_free {a : L8} (h : (47 : UInt8) ∉ a) : spl a = [a] := by
  induction a with
  | nil => rfl
  | cons b a ih =>
    have h1 : b ≠ 47 := fun e => h (by simp [e])
    have h2 : (47 : UInt8) ∉ a := fun e => h (by simp [e])
    unfold spl
    rw [if_neg h1, ih h2]
/-- Two texts with a slash between. -/
theorem spl_join (a b : L8) : spl (a ++ 47 :: b) = spl a ++ spl b := by
  induction a with
  | nil => rw [List.nil_append, spl_slash]; rfl
  | cons x a ih =>
    rw [List.cons_append, spl_cons, spl_cons, ih]
    split
    · rfl
    · cases h : spl a with
      | nil => exact absurd h (spl_ne a)
      | cons p ps => rfl
theorem spl_free_cons {a : L8} (h : (47 : UInt8) ∉ a) (b : L8) : spl (a ++ 47 :: b) = a :: spl b := by rw [spl_join, spl_free h]; rfl
/-- Each piece is free of slashes. -/
theorem spl_pieces (l : L8) : ∀ p ∈ spl l, (47 : UInt8) ∉ p ∧ ∀ x ∈ p, x ∈ l := by
  induction l with
  | nil => intro p hp; simp [spl] at hp; subst hp; simp
  | cons b l ih =>
    intro p hp
    unfold spl at hp
    split at hp
    · rcases List.mem_cons.1 hp with rfl | hp
      · simp
      · exact ⟨(ih p hp).1, fun x hx => by simp [(ih p hp).2 x hx]⟩
    · rename_i hb
      split at hp
      · rename_i h; exact absurd h (spl_ne l)
      · rename_i q qs h
        rcases List.mem_cons.1 hp with rfl | hp
        · have hq := ih q (by rw [h]; simp)
          refine ⟨fun hm => ?_, fun x hx => ?_⟩
          · rcases List.mem_cons.1 hm with e | e
            · exact hb e.symm
            · exact hq.1 e
          · rcases List.mem_cons.1 hx with rfl | e
            · simp
            · simp [hq.2 x e]
        · have hq := ih p (by rw [h]; simp [hp])
          exact ⟨hq.1, fun x hx => by simp [hq.2 x hx]⟩
/-- strings.Split's pieces are these. -/
theorem splitK_spl : ∀ (k : Nat) (l : L8), l.count 47 ≤ k → Lib.splitK [47] 0 k l = spl l := by
  intro k
  induction k with
  | zero =>
    intro l h
    have : (47 : UInt8) ∉ l := by
      intro hm
      have := List.count_pos_iff.2 hm
      omega
    rw [spl_free this]
    rfl
  | succ k ih =>
    intro l h
    unfold Lib.splitK
    rw [Lib.index_one]
    split
    · rename_i hi
      have hn := Lib.indexByte_none (beq_iff_eq.1 hi)
      have : (47 : UInt8) ∉ l := by
        intro hm
        obtain ⟨j, hj, e⟩ := List.getElem_of_mem hm
        exact hn j (by rw [List.getElem?_eq_getElem hj, e])
      rw [spl_free this]
    · rename_i hi
      have hge := Lib.indexByte_ge l 47
      have hne : Lib.indexByte l 47 ≠ -1 := fun e => hi (by rw [e]; rfl)
      obtain ⟨o, ho⟩ : ∃ o : Nat, Lib.indexByte l 47 = o := ⟨(Lib.indexByte l 47).toNat, by omega⟩
      obtain ⟨h1, h2⟩ := Lib.indexByte_some ho
      rw [ho]
      have hol : o < l.length := (List.getElem?_eq_some_iff.1 h1).1
      have hs : l = l.take o ++ 47 :: l.drop (o + 1) := by
        conv => lhs; rw [← List.take_append_drop o l, List.drop_eq_getElem_cons hol]
        rw [(List.getElem?_eq_some_iff.1 h1).2]
      have hf : (47 : UInt8) ∉ l.take o := by
        intro hm
        obtain ⟨j, hj, e⟩ := List.getElem_of_mem hm
        rw [List.length_take] at hj
        rw [List.getElem_take] at e
        exact h2 j (by omega) (by rw [List.getElem?_eq_getElem (by omega), e])
      have hc : l.count 47 = 1 + (l.drop (o + 1)).count 47 := by
        conv => lhs; rw [hs]
        rw [List.count_append, List.count_eq_zero.2 hf, List.count_cons_self]
        omega
      rw [show ((o : Int).toNat + 0) = o from by omega, show (o : Int).toNat + [(47 : UInt8)].length = o + 1 from by simp]
      rw [ih _ (by omega)]
      conv => rhs; rw [hs]
      rw [spl_free_cons hf]
/-- The parts of a path. -/
def goodP (p : L8) : Bool := !p.isEmpty && !(p == [46])
def prt (l : L8) : List L8 := (spl l).filter goodP
theorem prt_join (a b : L8) : prt (a ++ 47 :: b) = prt a ++ prt b := by unfold prt; rw [spl_join, List.filter_append]
theorem prt_nil : prt [] = [] := rfl
theorem prt_dot : prt [46] = [] := rfl
theorem prt_slash (l : L8) : prt (47 :: l) = prt l := by
  have := prt_join [] l
  rwa [List.nil_append, prt_nil, List.nil_append] at this
theorem prt_one {a : L8} (h : (47 : UInt8) ∉ a) (hg : goodP a = true) : prt a = [a] := by unfold prt; rw [spl_free h]; simp [hg]
theorem prt_pieces {l : L8} : ∀ p ∈ prt l, (47 : UInt8) ∉ p ∧ goodP p = true ∧ ∀ x ∈ p, x ∈ l := by
  intro p hp
  unfold prt at hp
  rw [List.mem_filter] at hp
  exact ⟨(spl_pieces l p hp.1).1, hp.2, (spl_pieces l p hp.1).2⟩
def lngP (ps : List L8) : Bool := ps.any fun p => decide (24 < p.length)
def okPs (l : L8) : Bool := !(lngP (prt l)) && decide ((prt l).length ≤ 20)
/-- A path of parts. -/
def joinL (ps : List L8) : L8 := 47 :: Lib.join ps [47]
/-- Each part behind a slash. -/
def catL (ps : List L8) : L8 := ps.flatMap fun p => 47 :: p
theorem join_cat (x : L8) (r : List L8) : Lib.join (x :: r) [47] = x ++ catL r := by
  rw [Lib.join_cons]
  unfold Lib.joinTail catL
  rw [List.flatMap_def]
  rfl
theorem joinL_cat {ps : List L8} (h : ps ≠ []) : joinL ps = catL ps := by
  cases ps with
  | nil => exact absurd rfl h
  | cons x r =>
    unfold joinL
    rw [join_cat]
    rfl
theorem joinL_nil : joinL [] = [47] := rfl
def GoodPs (ps : List L8) : Prop := ∀ p ∈ ps, (47 : UInt8) ∉ p ∧ goodP p = true
theorem prt_good (l : L8) : GoodPs (prt l) := fun p hp => ⟨(prt_pieces p hp).1, (prt_pieces p hp).2.1⟩
theorem prt_cat : ∀ {ps : List L8}, GoodPs ps → prt (catL ps) = ps := by
  intro ps
  induction ps with
  | nil => intro _; rfl
  | cons p ps ih =>
    intro h
    have hp := h p (by simp)
    have hr : GoodPs ps := fun q hq => h q (by simp [hq])
    have e : catL (p :: ps) = 47 :: (p ++ catL ps) := rfl
    rw [e, prt_slash]
    cases ps with
    | nil =>
      rw [show catL [] = [] from rfl, List.append_nil]
      exact prt_one hp.1 hp.2
    | cons q qs =>
      have e2 : catL (q :: qs) = 47 :: (q ++ catL qs) := rfl
      rw [e2, prt_join, prt_one hp.1 hp.2]
      have := ih hr
      rw [e2, prt_slash] at this
      rw [this]
      rfl
theorem prt_joinL {ps : List L8} (h : GoodPs ps) : prt (joinL ps) = ps := by
  cases ps with
  | nil => rfl
  | cons x r => rw [joinL_cat (by simp), prt_cat h]
/-- A path without turns. -/
def stepC (out : List L8) (x : L8) : List L8 := if x == [46, 46] then out.take (out.length - 1) else out ++ [x]
def cleanP (ps : List L8) : List L8 := ps.foldl stepC []
theorem cleanP_sub (ps : List L8) : ∀ (out : List L8) (x : L8), x ∈ ps.foldl stepC out → x ∈ out ∨ (x ∈ ps ∧ x ≠ [46, 46]) := by
  induction ps with
  | nil => intro out x h; exact .inl h
  | cons p ps ih =>
    intro out x h
    rw [List.foldl_cons] at h
    rcases ih _ x h with h1 | h1
    · unfold stepC at h1
      split at h1
      · exact .inl (List.mem_of_mem_take h1)
      · rename_i hp
        rcases List.mem_append.1 h1 with h2 | h2
        · exact .inl h2
        · simp at h2
          subst h2
          exact .inr ⟨by simp, by simpa using hp⟩
    · exact .inr ⟨by simp [h1.1], h1.2⟩
theorem cleanP_len (ps : List L8) : ∀ out : List L8, (ps.foldl stepC out).length ≤ out.length + ps.length := by
  induction ps with
  | nil => intro out; simp
  | cons p ps ih =>
    intro out
    rw [List.foldl_cons]
    have h := ih (stepC out p)
    have h2 : (stepC out p).length ≤ out.length + 1 := by
      unfold stepC
      split
      · rw [List.length_take]; omega
      · simp
    simp only [List.length_cons]
    omega
theorem cleanP_free (ps : List L8) (h : ∀ p ∈ ps, p ≠ [46, 46]) : ∀ out : List L8, ps.foldl stepC out = out ++ ps := by
  induction ps with
  | nil => intro out; simp
  | cons p ps ih =>
    intro out
    rw [List.foldl_cons, ih (fun q hq => h q (by simp [hq]))]
    have hp : (p == [46, 46]) = false := by simpa using h p (by simp)
    unfold stepC
    rw [hp]
    simp
theorem cleanP_idem (ps : List L8) : cleanP (cleanP ps) = cleanP ps := by
  have h : ∀ p ∈ cleanP ps, p ≠ [46, 46] := fun p hp => by
    rcases cleanP_sub ps [] p hp with h | h
    · simp at h
    · exact h.2
  have := cleanP_free (cleanP ps) h []
  simpa [cleanP] using this
end Go.Proofs.YtngffmchjjpfbaaDoor
