/- The plain mathematics of sealed sectors: sums, sectors, kinds. No program. -/
import Derived.WalkKit
import Derived.Laws.BitsAllLaws
import Derived.Test.YtillhbbeghbfeaaMem
namespace Go.Proofs.Ytillhbbeghbfeaa

theorem by8_rep' (n x : Nat) : List.replicate n (Value.int .u8 (x : Int)) = by8 (List.replicate n x) := by simp [by8]
def x32 (a b : Nat) : Nat := (BitVec.ofNat 32 a ^^^ BitVec.ofNat 32 b).toNat
theorem x32_lt (a b : Nat) : x32 a b < 4294967296 := (BitVec.ofNat 32 a ^^^ BitVec.ofNat 32 b).isLt
theorem bits_x32 (a b : Nat) : bits .xor .u32 (a : Int) (b : Int) = ((x32 a b : Nat) : Int) := by
  have h := x32_lt a b
  show IntKind.u32.wrap ((BitVec.ofInt 32 (a : Int) ^^^ BitVec.ofInt 32 (b : Int)).toNat : Int) = _
  rw [BitVec.ofInt_natCast, BitVec.ofInt_natCast, IntKind.wrap_u32]
  unfold x32 at *
  omega
theorem x32_mod (a b : Nat) : x32 a (b % 4294967296) = x32 a b := by
  unfold x32
  rw [show BitVec.ofNat 32 (b % 4294967296) = BitVec.ofNat 32 b from by
    apply BitVec.eq_of_toNat_eq
    simp]

/-- A step of the sum, and its end. -/
def stp (s x : Nat) : Nat := (x32 s x * 16777619) % 4294967296
def fin (s : Nat) : Nat :=
  let a := (x32 s (s / 32768) * 2246822507) % 4294967296
  x32 a (a / 8192)
def sumN (xs : List Nat) : Nat := fin (xs.foldl stp 2166136261)
theorem fin_lt (s : Nat) : fin s < 4294967296 := x32_lt _ _
theorem sumN_lt (xs : List Nat) : sumN xs < 4294967296 := fin_lt _
theorem stp_lt (s x : Nat) : stp s x < 4294967296 := Nat.mod_lt _ (by omega)

theorem stp_walk (s x : Nat) : bits .xor .u32 (s : Int) ((x : Int) % 4294967296) * 16777619 % 4294967296 = ((stp s x : Nat) : Int) := by
  rw [show ((x : Int) % 4294967296) = ((x % 4294967296 : Nat) : Int) from by omega, bits_x32, x32_mod]
  unfold stp
  omega
theorem stp_walk' (s x : Nat) : bits .xor .u32 (s : Int) (x : Int) * 16777619 % 4294967296 = ((stp s x : Nat) : Int) := by
  rw [bits_x32]
  unfold stp
  omega
theorem fin_walk (s : Nat) : bits .xor .u32 (bits .xor .u32 (s : Int) ((s : Int) / 32768) * 2246822507 % 4294967296) (bits .xor .u32 (s : Int) ((s : Int) / 32768) * 2246822507 % 4294967296 / 8192) = ((fin s : Nat) : Int) := by
  rw [show ((s : Int) / 32768) = ((s / 32768 : Nat) : Int) from by omega, bits_x32]
  rw [show ((x32 s (s / 32768) : Nat) : Int) * 2246822507 % 4294967296 = ((x32 s (s / 32768) * 2246822507 % 4294967296 : Nat) : Int) from by omega]
  rw [show ((x32 s (s / 32768) * 2246822507 % 4294967296 : Nat) : Int) / 8192 = ((x32 s (s / 32768) * 2246822507 % 4294967296 / 8192 : Nat) : Int) from by omega, bits_x32]
  rfl

/-- The four bytes of a number, the highest first. -/
def be4 (s : Nat) : List Nat := [s / 16777216 % 256, s / 65536 % 256, s / 256 % 256, s % 256]
def padTo (n : Nat) (xs : List Nat) : List Nat := xs ++ List.replicate (n - xs.length) 0
/-- A sealed sector. -/
def sealOf (k : Nat) (xs : List Nat) : List Nat := (k :: padTo 123 xs) ++ be4 (sumN (k :: padTo 123 xs))
/-- The kind of a sealed sector. -/
def kindOf (b : List Nat) : Nat := if b.length = 128 ∧ b.getD 0 0 ≠ 0 ∧ sealOf (b.getD 0 0) ((b.drop 1).take 123) = b then b.getD 0 0 else 0
def bodyOf (b : List Nat) : List Nat := (b.drop 1).take 123

theorem padTo_len {n : Nat} {xs : List Nat} (h : xs.length ≤ n) : (padTo n xs).length = n := by simp [padTo]; omega
theorem sealOf_len {k : Nat} {xs : List Nat} (h : xs.length ≤ 123) : (sealOf k xs).length = 128 := by
  simp [sealOf, be4, padTo_len h]
theorem Bytes.be4 (s : Nat) : Bytes (be4 s) := by
  intro x hx
  simp [Go.Proofs.Ytillhbbeghbfeaa.be4] at hx
  omega
theorem Bytes.pad {n : Nat} {xs : List Nat} (h : Bytes xs) : Bytes (padTo n xs) := h.append (Bytes.rep _)
theorem Bytes.sealOf {k : Nat} {xs : List Nat} (hk : k < 256) (h : Bytes xs) : Bytes (sealOf k xs) := (Bytes.cons hk h.pad).append (Bytes.be4 _)
theorem seal_row1 (k : Nat) (xs : List Nat) (h : xs.length ≤ 123) :
    ((List.replicate 128 (Value.int .u8 0)).set 0 (.int .u8 (k : Int))).take 1 ++ ((by8 xs).take 123 ++ ((List.replicate 128 (Value.int .u8 0)).set 0 (.int .u8 (k : Int))).drop (1 + min xs.length 123)) =
      by8 ((k :: padTo 123 xs) ++ [0, 0, 0, 0]) := by
  rw [show (Value.int .u8 0) = Value.int .u8 ((0 : Nat) : Int) from rfl, by8_rep', by8_set, by8_take, by8_take, by8_drop, ← by8_append, ← by8_append]
  congr 1
  rw [List.take_of_length_le h, show min xs.length 123 = xs.length from by omega]
  unfold padTo
  rw [show List.replicate 128 0 = 0 :: List.replicate 127 0 from rfl, List.set_cons_zero, Nat.add_comm 1]
  simp only [List.drop_succ_cons, List.take_succ_cons, List.take_zero, List.drop_replicate, List.cons_append, List.append_assoc, List.nil_append]
  rw [show [0, 0, 0, 0] = List.replicate 4 0 from rfl, List.replicate_append_replicate, show 123 - xs.length + 4 = 127 - xs.length from by omega]
theorem seal_row2 (k : Nat) (xs : List Nat) (h : xs.length ≤ 123) (b0 b1 b2 b3 : Nat) :
    (by8 ((k :: padTo 123 xs) ++ [0, 0, 0, 0])).take 124 ++ by8 [b0, b1, b2, b3] ++ (by8 ((k :: padTo 123 xs) ++ [0, 0, 0, 0])).drop (124 + 4) = by8 ((k :: padTo 123 xs) ++ [b0, b1, b2, b3]) := by
  have hl : (k :: padTo 123 xs).length = 124 := by simp [padTo_len h]
  rw [by8_take, by8_drop, List.take_append_of_le_length (by omega), List.take_of_length_le (by omega), List.drop_of_length_le (by simp [padTo_len h]), ← by8_append, ← by8_append]
  simp
theorem padTo_pad {n : Nat} {xs : List Nat} (h : xs.length ≤ n) : padTo n (padTo n xs) = padTo n xs := by
  have hl := padTo_len h
  generalize padTo n xs = ys at *
  unfold padTo
  rw [hl]; simp
theorem sealOf_pad {k : Nat} {xs : List Nat} (h : xs.length ≤ 123) : sealOf k (padTo 123 xs) = sealOf k xs := by unfold sealOf; rw [padTo_pad h]
theorem bodyOf_sealOf {k : Nat} {xs : List Nat} (h : xs.length ≤ 123) : bodyOf (sealOf k xs) = padTo 123 xs := by
  have hl := padTo_len h
  unfold bodyOf sealOf
  rw [List.cons_append, List.drop_succ_cons, List.drop_zero, List.take_append_of_le_length (by omega), List.take_of_length_le (by omega)]
theorem sealOf_zero (k : Nat) (xs : List Nat) : (sealOf k xs)[0]? = some k := by simp [sealOf]
theorem kindOf_sealOf {k : Nat} {xs : List Nat} (h : xs.length ≤ 123) (hk : 0 < k) : kindOf (sealOf k xs) = k := by
  have e : (sealOf k xs).getD 0 0 = k := by simp [sealOf_zero]
  have hb := bodyOf_sealOf (k := k) h
  unfold bodyOf at hb
  unfold kindOf
  rw [e, hb, sealOf_pad h, if_pos ⟨sealOf_len h, by omega, rfl⟩]
theorem bodyOf_len {xs : List Nat} (h : xs.length = 128) : (bodyOf xs).length = 123 := by simp [bodyOf, h]
theorem kind_len {xs : List Nat} (h : 0 < kindOf xs) : xs.length = 128 := by
  unfold kindOf at h
  split at h
  · rename_i hh; exact hh.1
  · omega
/-- What is sealed is its kind and its body. -/
theorem kind_seal {xs : List Nat} {k : Nat} (h : kindOf xs = k) (hk : 0 < k) : sealOf k (bodyOf xs) = xs := by
  unfold kindOf at h
  split at h
  · rename_i hh; rw [h] at hh; exact hh.2.2
  · omega
theorem pad_zero {n i : Nat} {xs : List Nat} (h1 : xs.length ≤ i) (h2 : i < n) : (padTo n xs)[i]? = some 0 := by
  unfold padTo
  rw [List.getElem?_append_right h1, List.getElem?_replicate, if_pos (by omega)]
end Go.Proofs.Ytillhbbeghbfeaa
