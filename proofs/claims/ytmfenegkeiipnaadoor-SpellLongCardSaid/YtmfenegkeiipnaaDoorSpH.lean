/- Lines of operations: line by line; operations as values. -/
import Derived.Test.YtmfenegkeiipnaaDoorSpG
import Derived.Lib.ItoaLen
namespace Go.Proofs.YtmfenegkeiipnaaDoor
set_option linter.unusedVariables false
set_option linter.unusedSimpArgs false
open Go.RowKit

def numK : List L8 := [kFd, kN, kOff, kFl]
def numV (o : Opp) : List Int := [o.fd, o.n, o.off, o.fl]
def byK : List L8 := [kPa, kTo, kDa]
def byV (o : Opp) : List L8 := [o.pa, o.to, o.da]
/-- The line behind i numbers. -/
def lineN (o : Opp) (i : Nat) : L8 := word o.k.toNat ++ joinB (((numK.zip (numV o)).take i).flatMap fun q => numF q.1 q.2)
/-- The line behind i texts. -/
def lineB (o : Opp) (i : Nat) : L8 := lineN o 4 ++ joinB (((byK.zip (byV o)).take i).flatMap fun q => byF q.1 q.2)
theorem joinB_app (a b : List L8) : joinB (a ++ b) = joinB a ++ joinB b := by simp [joinB]
theorem lineN_zero (o : Opp) : lineN o 0 = word o.k.toNat := by simp [lineN, joinB]
theorem lineB_zero (o : Opp) : lineB o 0 = lineN o 4 := by simp [lineB, joinB]
theorem lineN_step {o : Opp} {i : Nat} {key : L8} {x : Int} (h1 : numK[i]? = some key) (h2 : (numV o)[i]? = some x) : lineN o (i + 1) = lineN o i ++ joinB (numF key x) := by
  unfold lineN
  rw [List.take_add_one, (List.getElem?_zip_eq_some (z := (key, x))).2 ⟨h1, h2⟩, List.flatMap_append, joinB_app, List.append_assoc]
  congr 2
  show joinB (List.flatMap _ [_]) = _
  simp
theorem lineB_step {o : Opp} {i : Nat} {key : L8} {x : L8} (h1 : byK[i]? = some key) (h2 : (byV o)[i]? = some x) : lineB o (i + 1) = lineB o i ++ joinB (byF key x) := by
  unfold lineB
  rw [List.take_add_one, (List.getElem?_zip_eq_some (z := (key, x))).2 ⟨h1, h2⟩, List.flatMap_append, joinB_app, List.append_assoc]
  congr 2
  show joinB (List.flatMap _ [_]) = _
  simp
theorem numF_no (key : L8) : joinB (numF key 0) = [] := by simp [numF, joinB]
theorem byF_no (key : L8) : joinB (byF key []) = [] := by simp [byF, joinB]
theorem numF_yes {key : L8} {x : Int} (h : x ≠ 0) : joinB (numF key x) = [32] ++ key ++ [61] ++ Lib.itoa x := by simp [numF, joinB, h]
theorem byF_yes {key x : L8} (h : x ≠ []) : joinB (byF key x) = [32] ++ key ++ [61] ++ hexL x := by simp [byF, joinB, h]
theorem lineB_say {o : Opp} (h1 : 1 ≤ o.k) (h2 : o.k < 24) : lineB o 3 = sayL o := by
  rw [say_some h1 h2]
  unfold lineB lineN fieldsL numK numV byK byV
  simp [joinB]
theorem word_len (k : Nat) : (word k).length ≤ 9 := by
  by_cases h : k < 24
  · have : ∀ m : Fin 24, (word m.1).length ≤ 9 := by decide
    exact this ⟨k, h⟩
  · have : word k = [] := by
      unfold word
      rw [List.getD_eq_getElem?_getD, List.getElem?_eq_none (by show 24 ≤ k; omega)]
      rfl
    rw [this]
    simp
theorem num_len {key : L8} {x : Int} (hk : key.length ≤ 5) (hx : InR x) : (joinB (numF key x)).length ≤ 28 := by
  by_cases h : x = 0
  · subst h; rw [numF_no]; simp
  · have := Lib.itoa_length_le x hx.1 hx.2
    rw [numF_yes h]
    simp
    omega
theorem by_len {key x : L8} (hk : key.length ≤ 4) (hx : x.length ≤ 1000000) : (joinB (byF key x)).length ≤ 2000006 := by
  by_cases h : x = []
  · subst h; rw [byF_no]; simp
  · rw [byF_yes h]
    simp [hexL_len]
    omega
theorem numAt {o : Opp} (ho : o.Ok) {i : Nat} (hi : i < 4) : ∃ key x, numK[i]? = some key ∧ (numV o)[i]? = some x ∧ key.length ≤ 5 ∧ InR x := by
  obtain ⟨h1, h2, h3, h4⟩ := ho
  rcases (show i = 0 ∨ i = 1 ∨ i = 2 ∨ i = 3 by omega) with rfl | rfl | rfl | rfl
  · exact ⟨_, _, rfl, rfl, by decide, h1⟩
  · exact ⟨_, _, rfl, rfl, by decide, h2⟩
  · exact ⟨_, _, rfl, rfl, by decide, h3⟩
  · exact ⟨_, _, rfl, rfl, by decide, h4⟩
/-- Texts that are not too long. -/
def Opp.Sm (o : Opp) : Prop := o.pa.length ≤ 1000000 ∧ o.to.length ≤ 1000000 ∧ o.da.length ≤ 1000000
theorem byAt {o : Opp} (ho : o.Sm) {i : Nat} (hi : i < 3) : ∃ key x, byK[i]? = some key ∧ (byV o)[i]? = some x ∧ key.length ≤ 4 ∧ x.length ≤ 1000000 := by
  obtain ⟨h1, h2, h3⟩ := ho
  rcases (show i = 0 ∨ i = 1 ∨ i = 2 by omega) with rfl | rfl | rfl
  · exact ⟨_, _, rfl, rfl, by decide, h1⟩
  · exact ⟨_, _, rfl, rfl, by decide, h2⟩
  · exact ⟨_, _, rfl, rfl, by decide, h3⟩
theorem lineN_len {o : Opp} (ho : o.Ok) : ∀ i, i ≤ 4 → (lineN o i).length ≤ 9 + i * 28
  | 0, _ => by rw [lineN_zero]; have := word_len o.k.toNat; omega
  | i + 1, h => by
    obtain ⟨key, x, h1, h2, h3, h4⟩ := numAt ho (i := i) (by omega)
    rw [lineN_step h1 h2, List.length_append]
    have := lineN_len ho i (by omega)
    have := num_len (key := key) h3 h4
    omega
theorem lineB_len {o : Opp} (ho : o.Ok) (hs : o.Sm) : ∀ i, i ≤ 3 → (lineB o i).length ≤ 200 + i * 2000006
  | 0, _ => by rw [lineB_zero]; have := lineN_len ho 4 (by omega); omega
  | i + 1, h => by
    obtain ⟨key, x, h1, h2, h3, h4⟩ := byAt hs (i := i) (by omega)
    rw [lineB_step h1 h2, List.length_append]
    have := lineB_len ho hs i (by omega)
    have := by_len (key := key) h3 h4
    omega
/-- An operation as a value. -/
def opV (o : Opp) (A : Option Addr) (n c : Nat) : Array Value := #[.int .i64 o.k, .int .i64 o.fd, .int .i64 o.n, .int .i64 o.off, .int .i64 o.fl, .string (toB o.pa), .string (toB o.to), .slice A n c]
theorem alloc_cell (w : World) (cs : Array Value) (t : TypeId) (i : Nat) (v : Value) (h : cs[i]? = some v) : (w.alloc (.cells cs t)).cell? ⟨w.heap.size, i, none⟩ = some v := by
  have hx : (w.alloc (.cells cs t)).heap[w.heap.size]? = some (.cells cs t (0, 0)) := by
    show (w.heap.push (.cells cs t))[w.heap.size]? = _
    simp
  unfold World.cell?
  simp only [hx]
  exact h
section
variable {P : Program} {ops : Array Oper} {Q : Exit → Act → World → Prop} {md : Region.Mode} {S : World → Prop} {fuel : Nat} {listed : Array Bool} {a : Act} {w : World}
theorem held_world (h : ∀ w1, w1 = w → wpAnyH P md ops Q S fuel listed a w1) : wpAnyH P md ops Q S fuel listed a w := h w rfl
variable {oi oj : Oper} {rest rest2 : List Oper}
/-- Two operations are ready: each may come first. -/
theorem held_two (i j : Nat) (hi : ops.toList.drop i = oi :: rest) (hj : ops.toList.drop j = oj :: rest2) (hr : Region.ready md ops listed = [i, j])
    (h1 : ∀ K' : Act → World → Prop, Shut (∀ a w, S w → (S w → wpAnyH P md ops Q S fuel (listed.setIfInBounds i true) a w) → K' a w) → if Region.wanted oi (yielded ops a.tmps) = true then Oper.wp P oi a w K' Q else K' (a.put oi.dst undef) w)
    (h2 : ∀ K' : Act → World → Prop, Shut (∀ a w, S w → (S w → wpAnyH P md ops Q S fuel (listed.setIfInBounds j true) a w) → K' a w) → if Region.wanted oj (yielded ops a.tmps) = true then Oper.wp P oj a w K' Q else K' (a.put oj.dst undef) w) :
    wpAnyH P md ops Q S (fuel + 1) listed a w :=
  wpAnyH_ready hr (by simp) (AllReadyH.cons (drop_get hi) h1 (AllReadyH.cons (drop_get hj) h2 AllReadyH.nil))
end
end Go.Proofs.YtmfenegkeiipnaaDoor
