/- Words for AllocBack: bools in memory, how many are taken. -/
import Derived.Test.YtillhbbeghbfeaaLawG1
namespace Go.Proofs.Ytillhbbeghbfeaa
set_option linter.unusedVariables false
open Go.RowKit

/-- Bools. -/
def bl (bs : List Bool) : List Value := bs.map Value.bool
theorem bl_len (bs : List Bool) : (bl bs).length = bs.length := by simp [bl]
theorem bl_append (cs bs : List Bool) : bl (cs ++ bs) = bl cs ++ bl bs := by simp [bl]
theorem bl_get {bs : List Bool} {k : Nat} {b : Bool} (h : bs[k]? = some b) : (bl bs)[k]? = some (.bool b) := by simp [bl, h]
theorem bl_set (bs : List Bool) (k : Nat) (b : Bool) : (bl bs).set k (.bool b) = bl (bs.set k b) := by simp [bl, List.map_set]
theorem bl_one (bs : List Bool) : ∀ u ∈ bl bs, u.oneCell' = true := by
  intro u hu
  obtain ⟨_, _, rfl⟩ := List.mem_map.1 hu
  rfl
theorem info_bool : (Try.prog.info? 4).map (fun i => (i.zero, i.size, i.bytes)) = some (some (.bool false), 1, 1) := by kernel_rfl
/-- append onto bools of the call's own. -/
theorem appB {w : World} {ops : Array Oper} {rest : List Oper} {o : Oper} {a : Act} {Q : Exit → Act → World → Prop} (hgd : o.guard = none) (s x : Operand)
    (ho : o.op = .call { callee := .builtin .append, args := #[s, x], argTypes := #[49, 49] })
    (B : Nat) (A : Option Addr) (n c : Nat) (xs : List Value) (hs : a.eval s = .slice A n c) (hown : Own w B 4 A n c xs)
    (A2 : Option Addr) (m c2 : Nat) (ys : List Value) (hx : a.eval x = .slice A2 m c2) (hsl : Sl w A2 m c2 ys) (hbytes : n + m ≤ 1000000000000) (hB : B ≤ w.heap.size)
    (h : ∀ A' c' w', Own w' B 4 A' (n + m) c' (xs ++ ys) → w.grownBy w' (Value.slice A n c).ownBlock → wpList Try.prog ops Q rest (a.put o.dst (.slice A' (n + m) c')) w') : wpList Try.prog ops Q (o :: rest) a w := by
  obtain ⟨i0, hi0, hz0, hz1, hz2⟩ := info_parts info_bool
  exact wpList_app hgd s x 49 ho B 4 i0 _ 1 Try.underlying49 hi0 hz0 hz1 hz2 rfl A n c xs hs hown A2 m c2 ys hx hsl (by omega) (by omega) hB h
/-! How many are taken. -/
theorem sum_set (f : List Nat → Nat) : ∀ (t : List (List Nat)) {k : Nat} {x : List Nat} (y : List Nat), t[k]? = some x → ((t.set k y).map f).sum + f x = (t.map f).sum + f y
  | [], k, x, y, h => by simp at h
  | a :: t, 0, x, y, h => by
    simp at h
    subst h
    simp
    omega
  | a :: t, k + 1, x, y, h => by
    have ih := sum_set f t (k := k) (x := x) y (by simpa using h)
    simp only [List.set_cons_succ, List.map_cons, List.sum_cons]
    omega
theorem firmN_put {n : Nat} {t : List (List Nat)} {k i : Nat} {x : List Nat} (h : t[k]? = some x) (hb : Bytes x) (hi : i < n) (hl : n ≤ 8 * x.length) (hx : hasB x i = false) :
    firmN n (t.set k (withB x i true)) = firmN n t + 1 := by
  have h1 := sum_set (fun y => (allB y n).length) t (withB x i true) h
  have h2 := allB_put hb hi hl hx
  unfold firmN
  omega
theorem sumF_all (n : Nat) : ∀ t : List (List Nat), sumF n t t.length + firmN n t = t.length * n
  | [] => by simp [sumF, firmN]
  | x :: t => by
    have ih := sumF_all n t
    have h1 := allB_len x n
    unfold sumF firmN at *
    simp only [List.length_cons, List.take_succ_cons, List.map_cons, List.sum_cons, Nat.add_mul]
    unfold freeN at *
    omega
theorem firmN_zr (n G : Nat) : firmN n (List.replicate G (zr n)) = 0 := by
  have e : (allB (zr n) n).length = 0 := by
    rw [allB_eq, List.length_eq_zero_iff, List.filter_eq_nil_iff]
    intro a _
    rw [zr, hasB_zero]
    simp
  unfold firmN
  rw [List.map_replicate, e]
  induction G with
  | zero => rfl
  | succ G ih => rw [List.replicate_succ, List.sum_cons, ih]
/-- Each of one set is in another. -/
def Sub (n : Nat) (x y : List Nat) : Prop := ∀ i, i < n → hasB y i = true → hasB x i = true
theorem firmR_count {n : Nat} {x y : List Nat} (hb : Bytes x) (hl : n ≤ 8 * x.length) (hs : Sub n x y) : (allB (firmR n x y) n).length + (allB y n).length = (allB x n).length := by
  rw [allB_count, allB_count, allB_count]
  have key : ∀ m, m ≤ n → (List.range m).countP (hasB (firmR n x y)) + (List.range m).countP (hasB y) = (List.range m).countP (hasB x) := by
    intro m
    induction m with
    | zero => intro _; rfl
    | succ m ih =>
      intro hm
      have h1 := ih (by omega)
      simp only [List.range_succ, List.countP_append, List.countP_singleton]
      have h2 : hasB (firmR n x y) m = (hasB x m && !hasB y m) := by
        unfold firmR
        rw [hasB_clrB _ hb]
        congr 2
        rw [Bool.eq_iff_iff, decide_eq_true_eq, mem_allB]
        constructor
        · rintro ⟨⟨_, a⟩, _⟩; exact a
        · intro a; exact ⟨⟨by omega, a⟩, by omega⟩
      rw [h2]
      have h3 := hs m (by omega)
      cases hy : hasB y m
      · cases hasB x m
        all_goals
          simp
          omega
      · rw [h3 hy]
        simp
        omega
  exact key n (Nat.le_refl _)
theorem firmN_firmT {n : Nat} : ∀ {t d : List (List Nat)}, t.length = d.length → (∀ (k : Nat) (x y : List Nat), t[k]? = some x → d[k]? = some y → Bytes x ∧ n ≤ 8 * x.length ∧ Sub n x y) → firmN n (firmT n t d) + firmN n d = firmN n t
  | [], [], _, _ => rfl
  | x :: t, y :: d, hl, h => by
    have ih := firmN_firmT (t := t) (d := d) (by simpa using hl) (fun k a b ha hb => h (k + 1) a b (by simpa using ha) (by simpa using hb))
    obtain ⟨h1, h2, h3⟩ := h 0 x y rfl rfl
    have h4 := firmR_count h1 h2 h3
    unfold firmN firmT at *
    simp only [List.zipWith_cons_cons, List.map_cons, List.sum_cons]
    omega
  | [], y :: d, hl, _ => by simp at hl
  | x :: t, [], hl, _ => by simp at hl
theorem SpaceAt.bytes3 {w : World} {B g : Nat} {p : Pl} {G N M : Nat} {tn dn tb db : List (List Nat)} (h : SpaceAt w B g p G N M tn dn tb db) {k : Nat} {xs : List Nat} (hk : tb[k]? = some xs) : Bytes xs := by
  obtain ⟨A, n, cA, hc, hf, hO, hb⟩ := h.r3.row hk
  exact hb
theorem SpaceAt.bytes4 {w : World} {B g : Nat} {p : Pl} {G N M : Nat} {tn dn tb db : List (List Nat)} (h : SpaceAt w B g p G N M tn dn tb db) {k : Nat} {xs : List Nat} (hk : db[k]? = some xs) : Bytes xs := by
  obtain ⟨A, n, cA, hc, hf, hO, hb⟩ := h.r4.row hk
  exact hb
theorem SpaceAt.bytes1 {w : World} {B g : Nat} {p : Pl} {G N M : Nat} {tn dn tb db : List (List Nat)} (h : SpaceAt w B g p G N M tn dn tb db) {k : Nat} {xs : List Nat} (hk : tn[k]? = some xs) : Bytes xs := by
  obtain ⟨A, n, cA, hc, hf, hO, hb⟩ := h.r1.row hk
  exact hb
theorem SpaceAt.bytes2 {w : World} {B g : Nat} {p : Pl} {G N M : Nat} {tn dn tb db : List (List Nat)} (h : SpaceAt w B g p G N M tn dn tb db) {k : Nat} {xs : List Nat} (hk : dn[k]? = some xs) : Bytes xs := by
  obtain ⟨A, n, cA, hc, hf, hO, hb⟩ := h.r2.row hk
  exact hb
/-- A block's number, of groups of 8 inodes, 16 blocks. -/
def posN (k i : Nat) : Nat := 5 + 19 * k + i
theorem fst_pos {G k i : Nat} (hm : mayG (G : Int) 8 16) (hk : k < G) : fstG (G : Int) 8 16 (k : Int) + (i : Int) = (posN k i : Nat) := by
  rw [fstG_yes hm (by omega) (by omega)]
  unfold lenG posN
  omega
theorem sec_pos {G : Nat} (hm : mayG (G : Int) 8 16) : secG (G : Int) 8 16 = ((2 + 19 * G : Nat) : Int) := by
  rw [secG_yes hm]
  unfold lenG
  omega
/-- Bools that tell which blocks are taken. -/
def IsOf (G : Nat) (bs : List Bool) (tb : List (List Nat)) : Prop := ∀ k i xs, k < G → i < 16 → tb[k]? = some xs → bs[posN k i]? = some (hasB xs i)
theorem IsOf.put {G : Nat} {bs : List Bool} {tb : List (List Nat)} (h : IsOf G bs tb) (hl : bs.length = 2 + 19 * G) {k i : Nat} {xs : List Nat} (hk : k < G) (hi : i < 16) (hx : tb[k]? = some xs) (hb : Bytes xs) (hxl : 2 ≤ xs.length) : IsOf G (bs.set (posN k i) true) (tb.set k (withB xs i true)) := by
  intro k' i' ys hk' hi' hy
  by_cases hkk : k = k'
  · subst hkk
    rw [List.getElem?_set_self (List.getElem?_eq_some_iff.1 hx).1] at hy
    cases hy
    rw [hasB_withB hb]
    by_cases hii : i' = i
    · subst hii
      rw [if_pos ⟨rfl, by omega⟩, List.getElem?_set_self (by unfold posN; omega)]
    · rw [if_neg (fun hh => hii hh.1), List.getElem?_set_ne (by unfold posN; omega)]
      exact h k i' xs hk hi' hx
  · rw [List.getElem?_set_ne hkk] at hy
    rw [List.getElem?_set_ne (by unfold posN; omega)]
    exact h k' i' ys hk' hi' hy
def SubAll (tb db : List (List Nat)) : Prop := ∀ (k : Nat) (xs ys : List Nat), tb[k]? = some xs → db[k]? = some ys → Sub 16 xs ys
theorem SubAll.put {tb db : List (List Nat)} (h : SubAll tb db) {k i : Nat} {xs : List Nat} (hx : tb[k]? = some xs) (hb : Bytes xs) : SubAll (tb.set k (withB xs i true)) db := by
  intro k' ys zs hy hz j hj hh
  by_cases hkk : k = k'
  · subst hkk
    rw [List.getElem?_set_self (List.getElem?_eq_some_iff.1 hx).1] at hy
    cases hy
    rw [hasB_withB hb]
    split
    · rfl
    · exact h k xs zs hx hz j hj hh
  · rw [List.getElem?_set_ne hkk] at hy
    exact h k' ys zs hy hz j hj hh
theorem SubAll.put2 {tb db : List (List Nat)} (h : SubAll tb db) {k i : Nat} {xs ys : List Nat} (hx : tb[k]? = some xs) (hy : db[k]? = some ys) (hb : Bytes ys) (hi : hasB xs i = true) : SubAll tb (db.set k (withB ys i true)) := by
  intro k' us zs hu hz j hj hh
  by_cases hkk : k = k'
  · subst hkk
    rw [List.getElem?_set_self (List.getElem?_eq_some_iff.1 hy).1] at hz
    cases hz
    rw [hx] at hu
    cases hu
    rw [hasB_withB hb] at hh
    split at hh
    · rename_i hc; rw [hc.1]; exact hi
    · exact h k xs ys hx hy j hj hh
  · rw [List.getElem?_set_ne hkk] at hz
    exact h k' us zs hu hz j hj hh
end Go.Proofs.Ytillhbbeghbfeaa
