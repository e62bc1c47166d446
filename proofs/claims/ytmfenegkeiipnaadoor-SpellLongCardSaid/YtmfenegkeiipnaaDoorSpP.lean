/- Lines of operations: plain mathematics. No program. -/
import Derived.WalkKit
import Derived.Lib.SplitLaws
import Derived.Lib.IndexBytes
import Derived.Lib.IndexLaws
import Derived.Lib.ItoaNum
import Derived.Lib.ItoaMem
import Derived.Lib.AtoiAll
namespace Go.Proofs.YtmfenegkeiipnaaDoor
set_option linter.unusedVariables false

abbrev L8 := List UInt8
/-- What stands between blanks. -/
def spb : L8 → List L8
  | [] => [[]]
  | b :: l => if b = 32 then [] :: spb l else match spb l with
    | [] => [[b]]
    | p :: ps => (b :: p) :: ps
theorem spb_cons (b : UInt8) (l : L8) : spb (b :: l) = if b = 32 then [] :: spb l else match spb l with | [] => [[b]] | p :: ps => (b :: p) :: ps := rfl
theorem spb_ne (l : L8) : spb l ≠ [] := by
  cases l with
  | nil => simp [spb]
  | cons b l =>
    unfold spb
    split
    · simp
    · split <;> simp
theorem spb_blank (l : L8) : spb (32 :: l) = [] :: spb l := by simp [spb]
theorem spb_free {a : L8} (h : (32 : UInt8) ∉ a) : spb a = [a] := by
  induction a with
  | nil => rfl
  | cons b a ih =>
    have h1 : b ≠ 32 := fun e => h (by simp [e])
    have h2 : (32 : UInt8) ∉ a := fun e => h (by simp [e])
    unfold spb
    rw [if_neg h1, ih h2]
theorem spb_join (a b : L8) : spb (a ++ 32 :: b) = spb a ++ spb b := by
  induction a with
  | nil => rw [List.nil_append, spb_blank]; rfl
  | cons x a ih =>
    rw [List.cons_append, spb_cons, spb_cons, ih]
    split
    · rfl
    · cases h : spb a with
      | nil => exact absurd h (spb_ne a)
      | cons p ps => rfl
theorem spb_free_cons {a : L8} (h : (32 : UInt8) ∉ a) (b : L8) : spb (a ++ 32 :: b) = a :: spb b := by rw [spb_join, spb_free h]; rfl
/-- strings.Split's pieces are these. -/
theorem splitK_spb : ∀ (k : Nat) (l : L8), l.count 32 ≤ k → Lib.splitK [32] 0 k l = spb l := by
  intro k
  induction k with
  | zero =>
    intro l h
    have : (32 : UInt8) ∉ l := by
      intro hm
      have := List.count_pos_iff.2 hm
      omega
    rw [spb_free this]
    rfl
  | succ k ih =>
    intro l h
    unfold Lib.splitK
    rw [Lib.index_one]
    split
    · rename_i hi
      have hn := Lib.indexByte_none (beq_iff_eq.1 hi)
      have : (32 : UInt8) ∉ l := by
        intro hm
        obtain ⟨j, hj, e⟩ := List.getElem_of_mem hm
        exact hn j (by rw [List.getElem?_eq_getElem hj, e])
      rw [spb_free this]
    · rename_i hi
      have hge := Lib.indexByte_ge l 32
      have hne : Lib.indexByte l 32 ≠ -1 := fun e => hi (by rw [e]; rfl)
      obtain ⟨o, ho⟩ : ∃ o : Nat, Lib.indexByte l 32 = o := ⟨(Lib.indexByte l 32).toNat, by omega⟩
      obtain ⟨h1, h2⟩ := Lib.indexByte_some ho
      rw [ho]
      have hol : o < l.length := (List.getElem?_eq_some_iff.1 h1).1
      have hs : l = l.take o ++ 32 :: l.drop (o + 1) := by
        conv => lhs; rw [← List.take_append_drop o l, List.drop_eq_getElem_cons hol]
        rw [(List.getElem?_eq_some_iff.1 h1).2]
      have hf : (32 : UInt8) ∉ l.take o := by
        intro hm
        obtain ⟨j, hj, e⟩ := List.getElem_of_mem hm
        rw [List.length_take] at hj
        rw [List.getElem_take] at e
        exact h2 j (by omega) (by rw [List.getElem?_eq_getElem (by omega), e])
      have hc : l.count 32 = 1 + (l.drop (o + 1)).count 32 := by
        conv => lhs; rw [hs]
        rw [List.count_append, List.count_eq_zero.2 hf, List.count_cons_self]
        omega
      rw [show ((o : Int).toNat + 0) = o from by omega, show (o : Int).toNat + [(32 : UInt8)].length = o + 1 from by simp]
      rw [ih _ (by omega)]
      conv => rhs; rw [hs]
      rw [spb_free_cons hf]

/-- An operation. -/
structure Opp where
  k : Int
  fd : Int
  n : Int
  off : Int
  fl : Int
  pa : L8
  to : L8
  da : L8
theorem Opp.ext' {a b : Opp} (h1 : a.k = b.k) (h2 : a.fd = b.fd) (h3 : a.n = b.n) (h4 : a.off = b.off) (h5 : a.fl = b.fl) (h6 : a.pa = b.pa) (h7 : a.to = b.to) (h8 : a.da = b.da) : a = b := by
  cases a; cases b; simp_all
def noOp : Opp := ⟨0, 0, 0, 0, 0, [], [], []⟩
/-- The words. -/
def wordsL : List L8 := [[], [111, 112, 101, 110], [99, 108, 111, 115, 101], [114, 101, 97, 100], [119, 114, 105, 116, 101], [112, 114, 101, 97, 100], [112, 119, 114, 105, 116, 101], [115, 101, 101, 107], [116, 114, 117, 110, 99], [109, 107, 100, 105, 114], [114, 109, 100, 105, 114], [117, 110, 108, 105, 110, 107], [108, 105, 110, 107], [115, 121, 109, 108, 105, 110, 107], [114, 101, 97, 100, 108, 105, 110, 107], [114, 101, 110, 97, 109, 101], [115, 116, 97, 116], [108, 115, 116, 97, 116], [114, 101, 97, 100, 100, 105, 114], [102, 115, 121, 110, 99], [102, 100, 97, 116, 97, 115, 121, 110, 99], [115, 121, 110, 99], [116, 105, 99, 107], [100, 114, 111, 112]]
def word (k : Nat) : L8 := wordsL.getD k []
/-- The last of the first i words that is this. -/
def kindTo (w : L8) : Nat → Nat
  | 0 => 0
  | i + 1 => if word i = w then i else kindTo w i
def hexD (n : Nat) : UInt8 := if n < 10 then UInt8.ofNat (48 + n) else UInt8.ofNat (87 + n)
def hexL : L8 → L8
  | [] => []
  | b :: l => hexD (b.toNat / 16) :: hexD (b.toNat % 16) :: hexL l
def numF (key : L8) (x : Int) : List L8 := if x = 0 then [] else [key ++ 61 :: Lib.itoa x]
def byF (key : L8) (b : L8) : List L8 := if b = [] then [] else [key ++ 61 :: hexL b]
def kFd : L8 := [102, 100]
def kN : L8 := [110]
def kOff : L8 := [111, 102, 102]
def kFl : L8 := [102, 108, 97, 103, 115]
def kPa : L8 := [112, 97, 116, 104]
def kTo : L8 := [116, 111]
def kDa : L8 := [100, 97, 116, 97]
def fieldsL (o : Opp) : List L8 := numF kFd o.fd ++ (numF kN o.n ++ (numF kOff o.off ++ (numF kFl o.fl ++ (byF kPa o.pa ++ (byF kTo o.to ++ byF kDa o.da)))))
/-- Each field behind a blank. -/
def joinB (fs : List L8) : L8 := fs.flatMap fun f => 32 :: f
def sayL (o : Opp) : L8 := if o.k < 1 ∨ 24 ≤ o.k then [] else word o.k.toNat ++ joinB (fieldsL o)

/-- A digit's worth. -/
def digV (c : UInt8) : Nat := if 48 ≤ c.toNat ∧ c.toNat ≤ 57 then c.toNat - 48 else if 97 ≤ c.toNat ∧ c.toNat ≤ 102 then c.toNat - 87 else 0
def unhex : L8 → L8
  | a :: b :: l => UInt8.ofNat (digV a * 16 + digV b) :: unhex l
  | _ => []
theorem digV_hexD {n : Nat} (h : n < 16) : digV (hexD n) = n := by
  have : ∀ m : Fin 16, digV (hexD m.1) = m.1 := by decide
  exact this ⟨n, h⟩
theorem hexD_free {n : Nat} (h : n < 16) : hexD n ≠ 32 ∧ hexD n ≠ 61 := by
  have : ∀ m : Fin 16, hexD m.1 ≠ 32 ∧ hexD m.1 ≠ 61 := by decide
  exact this ⟨n, h⟩
theorem unhex_hexL : ∀ l : L8, unhex (hexL l) = l
  | [] => rfl
  | b :: l => by
    have hb := b.toNat_lt
    unfold hexL unhex
    rw [digV_hexD (by omega), digV_hexD (by omega), unhex_hexL l]
    congr 1
    rw [show b.toNat / 16 * 16 + b.toNat % 16 = b.toNat by omega]
    exact UInt8.ofNat_toNat
theorem hexL_len : ∀ l : L8, (hexL l).length = 2 * l.length
  | [] => rfl
  | b :: l => by simp [hexL, hexL_len l]; omega
theorem hexL_free : ∀ l : L8, (32 : UInt8) ∉ hexL l ∧ (61 : UInt8) ∉ hexL l
  | [] => by simp [hexL]
  | b :: l => by
    have hb := b.toNat_lt
    obtain ⟨h1, h2⟩ := hexL_free l
    obtain ⟨a1, a2⟩ := hexD_free (n := b.toNat / 16) (by omega)
    obtain ⟨b1, b2⟩ := hexD_free (n := b.toNat % 16) (by omega)
    constructor
    · intro h
      rcases List.mem_cons.1 h with e | h
      · exact a1 e.symm
      rcases List.mem_cons.1 h with e | h
      · exact b1 e.symm
      exact h1 h
    · intro h
      rcases List.mem_cons.1 h with e | h
      · exact a2 e.symm
      rcases List.mem_cons.1 h with e | h
      · exact b2 e.symm
      exact h2 h
theorem dec_free (u : Nat) : ∀ c ∈ Lib.decDigits u, 48 ≤ c.toNat ∧ c.toNat ≤ 57 := by
  induction u using Nat.strongRecOn with
  | _ u ih =>
    intro c hc
    rw [Lib.decDigits] at hc
    split at hc
    · rw [List.mem_singleton] at hc
      subst hc
      rw [UInt8.toNat_ofNat_of_lt' (by show _ < 256; omega)]
      omega
    · rcases List.mem_append.1 hc with hc | hc
      · exact ih _ (by omega) c hc
      · rw [List.mem_singleton] at hc
        subst hc
        rw [UInt8.toNat_ofNat_of_lt' (by show _ < 256; omega)]
        omega
theorem dec_ne (u : Nat) : Lib.decDigits u ≠ [] := by
  rw [Lib.decDigits]
  split
  · simp
  · simp
theorem itoa_free (x : Int) : (32 : UInt8) ∉ Lib.itoa x ∧ (61 : UInt8) ∉ Lib.itoa x := by
  unfold Lib.itoa
  split
  · constructor
    · intro h
      rcases List.mem_cons.1 h with e | h
      · cases e
      · exact absurd (dec_free _ _ h) (by decide)
    · intro h
      rcases List.mem_cons.1 h with e | h
      · cases e
      · exact absurd (dec_free _ _ h) (by decide)
  · exact ⟨fun h => absurd (dec_free _ _ h) (by decide), fun h => absurd (dec_free _ _ h) (by decide)⟩

/-- A field's name and its worth. -/
def keyOf (p : L8) : L8 := p.takeWhile (· != 61)
def valOf (p : L8) : L8 := (p.dropWhile (· != 61)).drop 1
theorem key_val {key v : L8} (h : (61 : UInt8) ∉ key) : keyOf (key ++ 61 :: v) = key ∧ valOf (key ++ 61 :: v) = v := by
  unfold keyOf valOf
  induction key with
  | nil => simp
  | cons b key ih =>
    have h1 : b ≠ 61 := fun e => h (by simp [e])
    obtain ⟨i1, i2⟩ := ih (fun e => h (by simp [e]))
    simp only [List.cons_append, List.takeWhile_cons, List.dropWhile_cons]
    rw [show (b != 61) = true by simpa using h1]
    exact ⟨by simp [i1], by simpa using i2⟩
/-- A number, leniently. -/
def lenU : Nat → L8 → Nat
  | u, [] => u
  | u, c :: l => if c = 45 then lenU u l else lenU ((u * 10 + digV c) % 18446744073709551616) l
def lenNeg (l : L8) : Bool := l.contains 45
def wrap64' (u : Nat) : Int := if u < 9223372036854775808 then (u : Int) else (u : Int) - 18446744073709551616
def lenI (l : L8) : Int := wrap64' (if lenNeg l then (18446744073709551616 - lenU 0 l) % 18446744073709551616 else lenU 0 l)
/-- A field is heard: leniently (the document's), or strictly (the program's). -/
def setN (o : Opp) (key : L8) (x : Int) : Opp :=
  if key = kFd then { o with fd := x } else if key = kN then { o with n := x } else if key = kOff then { o with off := x } else if key = kFl then { o with fl := x } else o
def setB (o : Opp) (key : L8) (b : L8) : Opp :=
  if key = kPa then { o with pa := b } else if key = kTo then { o with to := b } else { o with da := b }
def isB (key : L8) : Bool := key == kPa || key == kTo || key == kDa
def fieldR (o : Opp) (p : L8) : Opp := if isB (keyOf p) then setB o (keyOf p) (unhex (valOf p)) else setN o (keyOf p) (lenI (valOf p))
def fieldS (o : Opp) (p : L8) : Option Opp :=
  if isB (keyOf p) then some (setB o (keyOf p) (unhex (valOf p)))
  else match Lib.atoiAll (valOf p) with
    | .ok v => some (setN o (keyOf p) v)
    | _ => none
def foldS : Opp → List L8 → Option Opp
  | o, [] => some o
  | o, p :: ps => match fieldS o p with
    | some o' => foldS o' ps
    | none => none
def start (s : L8) : Opp := { noOp with k := (kindTo ((spb s).headD []) 24 : Nat) }
def readS (s : L8) : Option Opp := match foldS (start s) (spb s).tail with
  | some o => if s = [] ∨ sayL o ≠ s then none else some o
  | none => none
def readR (s : L8) : Option Opp :=
  let o := (spb s).tail.foldl fieldR (start s)
  if o.k = 0 ∨ sayL o ≠ s then none else some o
end Go.Proofs.YtmfenegkeiipnaaDoor
