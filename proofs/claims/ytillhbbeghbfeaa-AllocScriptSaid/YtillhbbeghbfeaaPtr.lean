/- Blocks of pointers: plain mathematics. -/
import Derived.Test.YtillhbbeghbfeaaSeal
namespace Go.Proofs.Ytillhbbeghbfeaa
open Go.RowKit

def i64s (xs : List Int) : List Value := xs.map (Value.int .i64)
theorem i64s_one (xs : List Int) : ∀ u ∈ i64s xs, u.oneCell' = true := by
  intro u hu
  obtain ⟨_, _, rfl⟩ := List.mem_map.1 hu
  rfl
theorem i64s_len (xs : List Int) : (i64s xs).length = xs.length := by simp [i64s]
theorem i64s_get {xs : List Int} {k : Nat} {x : Int} (h : xs[k]? = some x) : (i64s xs)[k]? = some (.int .i64 x) := by simp [i64s, h]
theorem i64s_set (xs : List Int) (n : Nat) (x : Int) : (i64s xs).set n (.int .i64 x) = i64s (xs.set n x) := by simp [i64s, List.map_set]

def word (p : Int) : Bool := decide (0 ≤ p ∧ p ≤ 65535)
def wd2 (p : Int) : List Nat := [p.toNat / 256 % 256, p.toNat % 256]
def ptrB (ps : List Int) : List Nat := ps.flatMap wd2
def layPL (ps : List Int) : List Nat := if ps.all word = true then sealOf 80 (ptrB ps) else []
def layPE (ps : List Int) : Nat := if ps.all word = true then 0 else 2
theorem ptrB_len (ps : List Int) : (ptrB ps).length = 2 * ps.length := by
  induction ps with
  | nil => rfl
  | cons p ps ih => simp [ptrB, wd2] at ih ⊢; omega
theorem Bytes.wd2 (p : Int) : Bytes (wd2 p) := by
  intro x hx
  simp [Go.Proofs.Ytillhbbeghbfeaa.wd2] at hx
  omega
theorem Bytes.ptrB (ps : List Int) : Bytes (ptrB ps) := by
  intro x hx
  obtain ⟨p, _, hp⟩ := List.mem_flatMap.1 hx
  exact Bytes.wd2 p x hp
theorem take_succ_of {α : Type} {xs : List α} {k : Nat} {x : α} (h : xs[k]? = some x) : xs.take (k + 1) = xs.take k ++ [x] := by
  rw [List.take_add_one, h]; rfl
theorem by8_wd2 {q : Nat} (h : q < 65536) : by8 (wd2 (q : Int)) = [.int .u8 ((q : Int) / 256), .int .u8 ((q : Int) % 256)] := by
  simp [by8, wd2]; omega
theorem by8_wd2' {q : Nat} (h : q < 65536) : by8 (wd2 (q : Int)) = [.int .u8 (IntKind.u8.wrap ((q : Int) / 256)), .int .u8 (IntKind.u8.wrap (q : Int))] := by
  rw [by8_wd2 h, IntKind.wrap_u8, IntKind.wrap_u8]
  congr 2
  omega
theorem ptrB_succ {ps : List Int} {k : Nat} {p : Int} (h : ps[k]? = some p) : ptrB (ps.take (k + 1)) = ptrB (ps.take k) ++ wd2 p := by
  rw [take_succ_of h]; simp [ptrB]
theorem all_succ {ps : List Int} {k : Nat} {p : Int} (h : ps[k]? = some p) (h1 : (ps.take k).all word = true) (h2 : word p = true) : (ps.take (k + 1)).all word = true := by
  rw [take_succ_of h, List.all_append, h1]; simp [h2]
theorem all_no {ps : List Int} {k : Nat} {p : Int} (h : ps[k]? = some p) (h2 : word p = false) : ¬ ps.all word = true := by
  intro ha
  rw [List.all_eq_true] at ha
  have := ha p (List.mem_of_getElem? h)
  rw [h2] at this
  cases this

def two (b : List Nat) (k : Nat) : Nat := b.getD (2 * k) 0 * 256 + b.getD (2 * k + 1) 0
def ptrsOf (b : List Nat) : List Int := (List.range 12).map fun k => ((two b k : Nat) : Int)
def z12 : List Int := List.replicate 12 0
theorem z12_len : z12.length = 12 := by simp [z12]
def readPOk (b : List Nat) : Prop := kindOf b = 80 ∧ sealOf 80 ((bodyOf b).take 24) = b
instance (b : List Nat) : Decidable (readPOk b) := by unfold readPOk; infer_instance
def readPL (b : List Nat) : List Int := if readPOk b then ptrsOf (bodyOf b) else z12
def readPE (b : List Nat) : Nat := if readPOk b then 0 else 3
theorem readPL_len (b : List Nat) : (readPL b).length = 12 := by unfold readPL; split <;> simp [ptrsOf, z12]
theorem two_lt {b : List Nat} (hb : Bytes b) (k : Nat) : two b k < 65536 := by
  have h : ∀ i, b.getD i 0 < 256 := by
    intro i
    rcases hx : b[i]? with _ | x
    · simp [hx]
    · have := hb.get hx
      simp [hx]; omega
  have h1 := h (2 * k)
  have h2 := h (2 * k + 1)
  unfold two
  omega
theorem ptrsOf_ok {b : List Nat} (hb : Bytes b) : (ptrsOf b).all word = true := by
  rw [List.all_eq_true]
  intro p hp
  obtain ⟨k, _, rfl⟩ := List.mem_map.1 hp
  have := two_lt hb k
  simp [word]; omega
theorem wd2_two {b : List Nat} (hb : Bytes b) {k x y : Nat} (hx : b[2 * k]? = some x) (hy : b[2 * k + 1]? = some y) : wd2 ((two b k : Nat) : Int) = [x, y] := by
  have h1 := hb.get hx
  have h2 := hb.get hy
  unfold wd2 two
  simp [hx, hy]
  omega
theorem ptrB_ptrsOf {b : List Nat} (hb : Bytes b) (hl : b.length = 123) : ptrB (ptrsOf b) = b.take 24 := by
  have key : ∀ m, m ≤ 12 → ptrB ((List.range m).map fun k => ((two b k : Nat) : Int)) = b.take (2 * m) := by
    intro m
    induction m with
    | zero => intro _; simp [ptrB]
    | succ m ih =>
      intro hm
      have hx : b[2 * m]? = some (b[2 * m]'(by omega)) := List.getElem?_eq_getElem (by omega)
      have hy : b[2 * m + 1]? = some (b[2 * m + 1]'(by omega)) := List.getElem?_eq_getElem (by omega)
      rw [List.range_succ, List.map_append]
      unfold ptrB at ih ⊢
      rw [List.flatMap_append, ih (by omega)]
      simp only [List.map_cons, List.map_nil, List.flatMap_cons, List.flatMap_nil, List.append_nil]
      rw [wd2_two hb hx hy, show 2 * (m + 1) = (2 * m + 1) + 1 from by omega, take_succ_of hy, take_succ_of hx, List.append_assoc]
      rfl
  exact key 12 (by omega)
theorem wd2_inj {p q : Int} (hp : word p = true) (hq : word q = true) (h : wd2 p = wd2 q) : p = q := by
  simp [word] at hp hq
  simp [wd2] at h
  omega
theorem ptrB_inj : ∀ {ps qs : List Int}, ps.length = qs.length → ps.all word = true → qs.all word = true → ptrB ps = ptrB qs → ps = qs := by
  intro ps
  induction ps with
  | nil => intro qs hl _ _ _; cases qs with | nil => rfl | cons => simp at hl
  | cons p ps ih =>
    intro qs hl hp hq h
    cases qs with
    | nil => simp at hl
    | cons q qs =>
      simp only [List.all_cons, Bool.and_eq_true] at hp hq
      have h' : wd2 p ++ ptrB ps = wd2 q ++ ptrB qs := by simpa [ptrB] using h
      obtain ⟨e1, e2⟩ := List.append_inj h' (by simp [wd2])
      rw [wd2_inj hp.1 hq.1 e1, ih (by simpa using hl) hp.2 hq.2 e2]
/-- What is laid is read again. -/
theorem read_lay {ps : List Int} (hl : ps.length = 12) (h : ps.all word = true) : readPOk (sealOf 80 (ptrB ps)) ∧ ptrsOf (bodyOf (sealOf 80 (ptrB ps))) = ps := by
  have h24 : (ptrB ps).length = 24 := by rw [ptrB_len]; omega
  have hb : bodyOf (sealOf 80 (ptrB ps)) = padTo 123 (ptrB ps) := bodyOf_sealOf (by omega)
  have ht : (padTo 123 (ptrB ps)).take 24 = ptrB ps := by
    unfold padTo
    rw [List.take_append_of_le_length (by omega), List.take_of_length_le (by omega)]
  refine ⟨⟨kindOf_sealOf (by omega) (by omega), by rw [hb, ht]⟩, ?_⟩
  rw [hb]
  have hbb : Bytes (padTo 123 (ptrB ps)) := (Bytes.ptrB ps).pad
  apply ptrB_inj (by simp [ptrsOf, hl]) (ptrsOf_ok hbb) h
  rw [ptrB_ptrsOf hbb (padTo_len (by omega)), ht]
theorem ptrsOf_get {b : List Nat} {k x y : Nat} (hk : k < 12) (hx : b[2 * k]? = some x) (hy : b[2 * k + 1]? = some y) : (ptrsOf b)[k]? = some ((x * 256 + y : Nat) : Int) := by
  unfold ptrsOf
  rw [List.getElem?_map, List.getElem?_range hk]
  simp [two, hx, hy]
theorem or_bytes {x y : Nat} (hx : x < 256) (hy : y < 256) : bits .or .i64 ((x : Int) * 256) (y : Int) = ((x * 256 + y : Nat) : Int) := by
  have hlt : x * 256 ||| y < 2 ^ 63 := Nat.or_lt_two_pow (by omega) (by omega)
  have e : x * 256 ||| y = x * 256 + y := by
    have := Nat.shiftLeft_add_eq_or_of_lt (b := y) (i := 8) (by omega) x
    rw [Nat.shiftLeft_eq] at this
    exact this.symm
  have h1 : ((x : Int) * 256) = ((x * 256 : Nat) : Int) := by omega
  rw [h1]
  show IntKind.i64.wrap ((BitVec.ofInt 64 ((x * 256 : Nat) : Int) ||| BitVec.ofInt 64 (y : Int)).toNat : Int) = _
  rw [BitVec.ofInt_natCast, BitVec.ofInt_natCast, BitVec.toNat_or, BitVec.toNat_ofNat, BitVec.toNat_ofNat, Nat.mod_eq_of_lt (by omega), Nat.mod_eq_of_lt (by omega), e]
  exact IntWalk.i64_in _ (by omega)
end Go.Proofs.Ytillhbbeghbfeaa
