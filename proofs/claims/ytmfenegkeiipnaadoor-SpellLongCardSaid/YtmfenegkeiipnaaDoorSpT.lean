/- Lines of operations: how an operation comes in, and what is laid. -/
import Derived.Test.YtmfenegkeiipnaaDoorSpS
import Derived.Test.YtmfenegkeiipnaaDoorArg
import Derived.Test.YtmfenegkeiipnaaDoorArg3
import Derived.Test.YtmfenegkeiipnaaDoorRows
import Derived.Stop.LaidErr
import Derived.LaidMore
import Derived.Lay
import Derived.SevenTiedAt
import Derived.Stop.Joined
import Derived.WalkKit
import Derived.ProofKit
import Derived.OpenShut
import Derived.ShutString
import Derived.ChangeOld
import Derived.Below
namespace Go.Proofs.YtmfenegkeiipnaaDoor
set_option linter.unusedVariables false
set_option linter.unusedSimpArgs false
open Go.ChangeShapes Go.WideShapes Go.ChangeAt Go.RowKit

theorem i64_in {n : Int} (h : (Lit.int .i64 n).wf = true) : InR n := by
  simp [Lit.wf, IntKind.min, IntKind.max, IntKind.bits, IntKind.signed] at h
  exact ⟨by omega, by omega⟩
theorem op_open {H : Type} {enc : TypeId × Value → H} {w : World} {base : Nat} {held : Bool} {x : DataW H × List MemPlace} {cs : Array Value}
    (h : ∃ fuel, DataW.trod enc Tryd.prog w base (fun _ => true) held fuel 24 (Value.agg cs).cells.toList = some x) : ∃ (o : Opp) (A : Option Addr) (n c : Nat), cs = opV o A n c ∧ InR o.k ∧ o.Ok ∧ Sl w A n c (by8 (nat8 o.da)) := by
  obtain ⟨fuel, h⟩ := h
  obtain ⟨xs, m, _, _, hl, hxl, hg⟩ := DataW.trod_struct Tryd.underlying24 h
  have hc8 : Tryd.prog.cellsOf 24 = 8 := by kernel_rfl
  have hi1 : Tryd.prog.cellsOf 3 = 1 := by kernel_rfl
  have hs1 : Tryd.prog.cellsOf 9 = 1 := by kernel_rfl
  have hb1 : Tryd.prog.cellsOf 22 = 1 := by kernel_rfl
  rw [hc8] at hl
  have hxl8 : xs.length = 8 := hxl
  have ecs : (Value.agg cs).cells.toList = cs.toList := rfl
  rw [ecs] at hl hg
  obtain ⟨L, hL⟩ : ∃ L, L = cs.toList := ⟨_, rfl⟩
  rw [← hL] at hl hg
  match L, hl with
  | [v0, v1, v2, v3, v4, v5, v6, v7], _ =>
    have f0 := hg 0 _ rfl
    rw [List.getElem?_eq_getElem (by omega)] at f0
    change DataW.trod enc Tryd.prog w base (fun _ => true) held m 3 (List.take (Tryd.prog.cellsOf 3) [v0, v1, v2, v3, v4, v5, v6, v7]) = _ at f0
    rw [hi1] at f0
    change DataW.trod enc Tryd.prog w base (fun _ => true) held m 3 [v0] = _ at f0
    have f1 := hg 1 _ rfl
    rw [List.getElem?_eq_getElem (by omega)] at f1
    change DataW.trod enc Tryd.prog w base (fun _ => true) held m 3 (List.take (Tryd.prog.cellsOf 3) [v1, v2, v3, v4, v5, v6, v7]) = _ at f1
    rw [hi1] at f1
    change DataW.trod enc Tryd.prog w base (fun _ => true) held m 3 [v1] = _ at f1
    have f2 := hg 2 _ rfl
    rw [List.getElem?_eq_getElem (by omega)] at f2
    change DataW.trod enc Tryd.prog w base (fun _ => true) held m 3 (List.take (Tryd.prog.cellsOf 3) [v2, v3, v4, v5, v6, v7]) = _ at f2
    rw [hi1] at f2
    change DataW.trod enc Tryd.prog w base (fun _ => true) held m 3 [v2] = _ at f2
    have f3 := hg 3 _ rfl
    rw [List.getElem?_eq_getElem (by omega)] at f3
    change DataW.trod enc Tryd.prog w base (fun _ => true) held m 3 (List.take (Tryd.prog.cellsOf 3) [v3, v4, v5, v6, v7]) = _ at f3
    rw [hi1] at f3
    change DataW.trod enc Tryd.prog w base (fun _ => true) held m 3 [v3] = _ at f3
    have f4 := hg 4 _ rfl
    rw [List.getElem?_eq_getElem (by omega)] at f4
    change DataW.trod enc Tryd.prog w base (fun _ => true) held m 3 (List.take (Tryd.prog.cellsOf 3) [v4, v5, v6, v7]) = _ at f4
    rw [hi1] at f4
    change DataW.trod enc Tryd.prog w base (fun _ => true) held m 3 [v4] = _ at f4
    have f5 := hg 5 _ rfl
    rw [List.getElem?_eq_getElem (by omega)] at f5
    change DataW.trod enc Tryd.prog w base (fun _ => true) held m 9 (List.take (Tryd.prog.cellsOf 9) [v5, v6, v7]) = _ at f5
    rw [hs1] at f5
    change DataW.trod enc Tryd.prog w base (fun _ => true) held m 9 [v5] = _ at f5
    have f6 := hg 6 _ rfl
    rw [List.getElem?_eq_getElem (by omega)] at f6
    change DataW.trod enc Tryd.prog w base (fun _ => true) held m 9 (List.take (Tryd.prog.cellsOf 9) [v6, v7]) = _ at f6
    rw [hs1] at f6
    change DataW.trod enc Tryd.prog w base (fun _ => true) held m 9 [v6] = _ at f6
    have f7 := hg 7 _ rfl
    rw [List.getElem?_eq_getElem (by omega)] at f7
    change DataW.trod enc Tryd.prog w base (fun _ => true) held m 22 (List.take (Tryd.prog.cellsOf 22) [v7]) = _ at f7
    rw [hb1] at f7
    change DataW.trod enc Tryd.prog w base (fun _ => true) held m 22 [v7] = _ at f7
    obtain ⟨n0, e0, _, w0⟩ := DataW.trod_int Tryd.underlying3 f0
    obtain ⟨n1, e1, _, w1⟩ := DataW.trod_int Tryd.underlying3 f1
    obtain ⟨n2, e2, _, w2⟩ := DataW.trod_int Tryd.underlying3 f2
    obtain ⟨n3, e3, _, w3⟩ := DataW.trod_int Tryd.underlying3 f3
    obtain ⟨n4, e4, _, w4⟩ := DataW.trod_int Tryd.underlying3 f4
    obtain ⟨s5, e5, _, w5⟩ := DataW.trod_string Tryd.underlying9 f5
    obtain ⟨s6, e6, _, w6⟩ := DataW.trod_string Tryd.underlying9 f6
    obtain ⟨A, n, c, zs, e7, hr⟩ : ∃ A n c zs, [v7] = [Value.slice A n c] ∧ IsRow .u8 w A n c zs := by
      rcases open_ints Tryd.underlying22 Tryd.underlying5 (by kernel_rfl) f7 with ⟨hcs, _⟩ | ⟨x, l, c, zs, hcs, _, hl, hm, hz, _, hcell, hwz⟩
      · exact ⟨none, 0, 0, [], hcs, .inl ⟨rfl, rfl, rfl, rfl⟩⟩
      · exact ⟨some x, l, c, zs, hcs, .inr ⟨_, rfl, hl, hm, by simpa using hz, hcell, hwz⟩⟩
    obtain ⟨ys, hS, hB⟩ := hr.sl8
    refine ⟨⟨n0, n1, n2, n3, n4, s5.data.toList, s6.data.toList, ys.map UInt8.ofNat⟩, A, n, c, ?_, i64_in w0, ⟨i64_in w1, i64_in w2, i64_in w3, i64_in w4⟩, ?_⟩
    · apply Array.ext'
      rw [← hL]
      simp only [opV, toB_of]
      simp only [List.cons.injEq, and_true] at e0 e1 e2 e3 e4 e5 e6 e7
      rw [e0, e1, e2, e3, e4, e5, e6, e7]
    · show Sl w A n c (by8 (nat8 (ys.map UInt8.ofNat)))
      rw [nat8_of hB]
      exact hS
/-- An array of texts that reads as a table holds the table's texts. -/
theorem cells_of_texts {H : Type} {enc : TypeId × Value → H} {P : Program} {w : World} {base : Nat} {sp : Nat → Bool} {held : Bool} {fuel : Nat} {t e : TypeId} {n : Nat} {cs : List Value} {ls : List L8} {p : List MemPlace}
    (ht : P.underlying t = some (.array n e)) (he : P.underlying e = some .string) (hce : P.cellsOf e = 1) (hct : P.cellsOf t = n)
    (h : DataW.trod enc P w base sp held fuel t cs = some (.agg (ls.map fun l => .lit (.string l)), p)) : cs = ls.map fun l => Value.string (toB l) := by
  obtain ⟨xs, m, _, hx, hl, hxl, hg⟩ := DataW.trod_array ht h
  rw [hct] at hl
  have hxs : xs.map (·.1) = ls.map fun l => (DataW.lit (.string l) : DataW H) := by
    have := congrArg Prod.fst hx
    simpa using this.symm
  have hll : ls.length = n := by
    have := congrArg List.length hxs
    simp at this
    omega
  apply List.ext_getElem?
  intro i
  by_cases hi : i < n
  · have h1 := hg i hi
    rw [hce, Nat.mul_one, List.getElem?_eq_getElem (by omega)] at h1
    obtain ⟨s, hc, hy, _⟩ := DataW.trod_string he h1
    have h2 : cs[i]? = some (.string s) := by
      have := congrArg (·[0]?) hc
      simpa [List.getElem?_take, List.getElem?_drop] using this
    have h3 : (xs.map (·.1))[i]? = some (DataW.lit (.string s.data.toList) : DataW H) := by
      rw [List.getElem?_map, List.getElem?_eq_getElem (by omega), hy]
      rfl
    rw [hxs] at h3
    simp only [List.getElem?_map, Option.map_eq_some_iff, DataW.lit.injEq, Lit.string.injEq] at h3
    obtain ⟨l', hl', hl2⟩ := h3
    rw [h2, List.getElem?_map, hl']
    simp only [Option.map_some]
    rw [hl2, toB_of]
  · rw [List.getElem?_eq_none (by omega), List.getElem?_eq_none (by simp; omega)]
theorem star_name : ("*errors.errorString" : String) = "*" ++ "errors.errorString" := by decide
theorem star_row (u : TypeId) (h : Tryd.prog.typeName? 3 u = some "*errors.errorString") : u = 86 :=
  typeName_ptr_named (nm := "errors.errorString") (by rw [← star_name]; kernel_rfl) (by kernel_rfl) (by decide) u (by rw [← star_name]; exact h)
/-- What the row lists. -/
def listed : List (String × DataW Unit) := [("math/bits.deBruijn32tab", Rows.laid_math_bits_deBruijn32tab), ("math/bits.deBruijn64tab", Rows.laid_math_bits_deBruijn64tab), ("internal/strconv.uint64pow10", Rows.laid_internal_strconv_uint64pow10), ("unicode/utf8.acceptRanges", Rows.laid_unicode_utf8_acceptRanges), ("strconv.ErrRange", Rows.laid_strconv_ErrRange), ("strconv.ErrSyntax", Rows.laid_strconv_ErrSyntax), ("purlin/spell.words", Rows.laid_purlin_spell_words), ("unicode/utf8.first", Rows.laid_unicode_utf8_first)]
set_option maxRecDepth 100000 in
theorem laid_of {W : World} (h : laidMetH Tryd.prog listed W) : Laid W := by
  rw [MakeChecks.laidMetH_plain _ _ _ (by kernel_rfl)] at h
  unfold listed at h
  refine ⟨?_, ?_, ?_, ?_⟩
  · have e : (Rows.laid_internal_strconv_uint64pow10 : DataW Unit) = Lib.tabData .u64 Lib.pow10Tab := by kernel_rfl
    have h2 := h.tail.tail
    rw [e] at h2
    exact Lib.tabIs_of_head (g := 4) (t := 90) (e := 57) (n := 20) (by kernel_rfl) (by kernel_rfl) Tryd.underlying90 Tryd.underlying57 (by kernel_rfl) (by kernel_rfl) h2
  · have h2 := h.tail.tail.tail.tail.tail.tail
    obtain ⟨ps, ⟨g', t', cs, fuel, p, q, hg', ht', hvar, hd, _, _⟩, _⟩ := h2
    obtain rfl := Option.some.inj ((show Tryd.prog.globalNamed "purlin/spell.words" = some 0 by kernel_rfl).symm.trans hg')
    obtain rfl := Option.some.inj ((show (Tryd.prog.globals[0]?).map (·.type) = some 39 by kernel_rfl).symm.trans ht')
    have e : (Rows.laid_purlin_spell_words : DataW Unit) = .agg (wordsL.map fun l => .lit (.string l)) := by kernel_rfl
    rw [e] at hd
    have hcs := cells_of_texts Tryd.underlying39 Tryd.underlying9 (by kernel_rfl) (by kernel_rfl) hd
    have hcs2 : cs = (vT (mB wordsL)).toArray := by
      apply Array.ext'
      rw [hcs]
      simp [vT, mB]
    unfold World.var? at hvar
    rw [show Tryd.prog.globalNamed "purlin/spell.words" = some 0 by kernel_rfl] at hvar
    simp only [Option.bind_some] at hvar
    split at hvar
    · rename_i c2 t2 fz2 hh
      injection hvar with hvar
      exact ⟨t2, fz2, by rw [hh, hvar, hcs2]⟩
    · cases hvar
  · have h2 := h.tail.tail.tail.tail.tail
    obtain ⟨a, s, hv, _⟩ := laid_sentinel (g := 2) (ti := 43) (tp := 86) (te := 88) (ts := 9) h2 (by kernel_rfl) (by kernel_rfl) Tryd.underlying43 star_row Tryd.underlying86 Tryd.underlying88 rfl rfl Tryd.underlying9 (by kernel_rfl) (by kernel_rfl)
    exact ⟨_, _, by have h0 := World.var?_cell (show Tryd.prog.globalNamed "strconv.ErrSyntax" = some 2 by kernel_rfl) hv 0; simpa using h0⟩
  · have h2 := h.tail.tail.tail.tail
    obtain ⟨a, s, hv, _⟩ := laid_sentinel (g := 3) (ti := 43) (tp := 86) (te := 88) (ts := 9) h2 (by kernel_rfl) (by kernel_rfl) Tryd.underlying43 star_row Tryd.underlying86 Tryd.underlying88 rfl rfl Tryd.underlying9 (by kernel_rfl) (by kernel_rfl)
    exact ⟨_, _, by have h0 := World.var?_cell (show Tryd.prog.globalNamed "strconv.ErrRange" = some 3 by kernel_rfl) hv 0; simpa using h0⟩
theorem law_SpellTells (w : World) (hL : Laid w) (o : Opp) (A : Option Addr) (n c : Nat) (hk : InR o.k) (ho : o.Ok) (hD : Sl w A n c (by8 (nat8 o.da))) (s : ByteArray) (hs : s.size ≤ maxLen) :
    Calls Tryd.prog 3 #[.agg (opV o A n c), .string s] w fun e w' => e = .returned (.bool true) ∧ Ext w w' := by
  have h := walk_SpellTells w hL o A n c hk ho hD s.data.toList
  rwa [toB_of] at h
end Go.Proofs.YtmfenegkeiipnaaDoor
