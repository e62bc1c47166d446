/-
  NARROWER THAN 'FOR EVERY INPUT', by the rows' own cells (each row's printed sentence says how): ScoreShares: laid · ScoreTexts: laid · ScoreMeans: laid · ScoreClamps: laid · ScoreOrders: laid · ScoreBest: laid · ScorePlaces: laid · ScoreTells: laid.
  DERIVED. THE GIVEN ROWS OF THIS SEAT. 8 by the template 'for every input the law returns true; each argument reads behind the call as it read before'; 0 by the template 'total and deterministic' (their statements: YtillhbbeghbfeaaDoorTotals.lean).
  GIVEN WITH THE SEED: the statements are not yours to turn. If you find one false, say at which input.
  Laid BY PROGRAM, IN A SANDBOX (cutbox-rows.mjs): the forced cells as the released guide's own fill.sh prints them over the translation d493f781507dad4d… (all of the seat's roots in one cut). By AI agents, Wed Nov 11 2026. No macro, syntax, notation, axiom, sorry.
-/
import Derived.Test.YtillhbbeghbfeaaDoorChecked
import GoSem.Claim
import GoSem.ClaimJoined
import GoSem.ClaimMapViews
import Derived.JoinedTies
import Derived.KernelRfl
namespace Go.Proofs.YtillhbbeghbfeaaDoor
/- THE CELL 'sum', in the pinned program and in every row, IS THE sha256 OF THE DUMP (.gsa) THAT YtillhbbeghbfeaaDoorProg.lean LOADS. Nothing in Lean hashes anything: it is a label: what it is worth is what the hold of that sum in a sandbox is worth. -/
noncomputable def Tryd.pinned : Pinned := { name := "ytillhbbeghbfeaadoor", sum := "d493f781507dad4deb14616949b200753978e7dbf0fbf47ee9a28a26fad17cb0", checked := Tryd.checked }
namespace Rows
def none {H : Type} : Left H := { results := [], args := [] }

/- WHAT THE LISTED PACKAGE-LEVEL VARIABLES READ AS WHEN THE CALL BEGINS. Each datum BY PROGRAM (the guide's laid-datum.mjs) off the statement by which the dump's own 'gosem.cut.vars' lays the variable. In a bare row this is a premise. The card (YtillhbbeghbfeaaDoorCards.lean) ties it to the program's text. -/
def laid_math_bits_deBruijn32tab {H : Type} : DataW H := .agg [.lit (.int .u8 0), .lit (.int .u8 1), .lit (.int .u8 28), .lit (.int .u8 2), .lit (.int .u8 29), .lit (.int .u8 14), .lit (.int .u8 24), .lit (.int .u8 3), .lit (.int .u8 30), .lit (.int .u8 22), .lit (.int .u8 20), .lit (.int .u8 15), .lit (.int .u8 25), .lit (.int .u8 17), .lit (.int .u8 4), .lit (.int .u8 8), .lit (.int .u8 31), .lit (.int .u8 27), .lit (.int .u8 13), .lit (.int .u8 23), .lit (.int .u8 21), .lit (.int .u8 19), .lit (.int .u8 16), .lit (.int .u8 7), .lit (.int .u8 26), .lit (.int .u8 12), .lit (.int .u8 18), .lit (.int .u8 6), .lit (.int .u8 11), .lit (.int .u8 5), .lit (.int .u8 10), .lit (.int .u8 9)]
def laid_math_bits_deBruijn64tab {H : Type} : DataW H := .agg [.lit (.int .u8 0), .lit (.int .u8 1), .lit (.int .u8 56), .lit (.int .u8 2), .lit (.int .u8 57), .lit (.int .u8 49), .lit (.int .u8 28), .lit (.int .u8 3), .lit (.int .u8 61), .lit (.int .u8 58), .lit (.int .u8 42), .lit (.int .u8 50), .lit (.int .u8 38), .lit (.int .u8 29), .lit (.int .u8 17), .lit (.int .u8 4), .lit (.int .u8 62), .lit (.int .u8 47), .lit (.int .u8 59), .lit (.int .u8 36), .lit (.int .u8 45), .lit (.int .u8 43), .lit (.int .u8 51), .lit (.int .u8 22), .lit (.int .u8 53), .lit (.int .u8 39), .lit (.int .u8 33), .lit (.int .u8 30), .lit (.int .u8 24), .lit (.int .u8 18), .lit (.int .u8 12), .lit (.int .u8 5), .lit (.int .u8 63), .lit (.int .u8 55), .lit (.int .u8 48), .lit (.int .u8 27), .lit (.int .u8 60), .lit (.int .u8 41), .lit (.int .u8 37), .lit (.int .u8 16), .lit (.int .u8 46), .lit (.int .u8 35), .lit (.int .u8 44), .lit (.int .u8 21), .lit (.int .u8 52), .lit (.int .u8 32), .lit (.int .u8 23), .lit (.int .u8 11), .lit (.int .u8 54), .lit (.int .u8 26), .lit (.int .u8 40), .lit (.int .u8 15), .lit (.int .u8 34), .lit (.int .u8 20), .lit (.int .u8 31), .lit (.int .u8 10), .lit (.int .u8 25), .lit (.int .u8 14), .lit (.int .u8 19), .lit (.int .u8 9), .lit (.int .u8 13), .lit (.int .u8 8), .lit (.int .u8 7), .lit (.int .u8 6)]
def laid_internal_strconv_uint64pow10 {H : Type} : DataW H := .agg [.lit (.int .u64 1), .lit (.int .u64 10), .lit (.int .u64 100), .lit (.int .u64 1000), .lit (.int .u64 10000), .lit (.int .u64 100000), .lit (.int .u64 1000000), .lit (.int .u64 10000000), .lit (.int .u64 100000000), .lit (.int .u64 1000000000), .lit (.int .u64 10000000000), .lit (.int .u64 100000000000), .lit (.int .u64 1000000000000), .lit (.int .u64 10000000000000), .lit (.int .u64 100000000000000), .lit (.int .u64 1000000000000000), .lit (.int .u64 10000000000000000), .lit (.int .u64 100000000000000000), .lit (.int .u64 1000000000000000000), .lit (.int .u64 10000000000000000000)]

/-- 'purlinlaw1.ScoreShares': WHATEVER THE INPUT: true; the input reads as it did. -/
def scoreSharesSpec : ChangeSpec := { name := "scoreShares", fn := fun _ => fun
  | [d1, d2] => { results := [.lit (.bool true)], args := [d1, d2] }
  | _ => none }
def scoreSharesRow : OpenClaim := { program := "ytillhbbeghbfeaadoor", sum := "d493f781507dad4deb14616949b200753978e7dbf0fbf47ee9a28a26fad17cb0", func := "purlin/purlinlaw1.ScoreShares", spec := "scoreShares", inPlace := ["math.Float64bits", "math.Float64frombits", "math.archTrunc"], named := ["internal/strconv.uint64pow10", "math/bits.deBruijn32tab", "math/bits.deBruijn64tab"], apart := false, laid := [("math/bits.deBruijn32tab", laid_math_bits_deBruijn32tab), ("math/bits.deBruijn64tab", laid_math_bits_deBruijn64tab), ("internal/strconv.uint64pow10", laid_internal_strconv_uint64pow10)] }
def ScoreSharesSaid : Prop := scoreSharesRow.holds Tryd.pinned (OpenSpec.ofChange scoreSharesSpec)

/-- ITS FALSE NEIGHBOUR: 'it returns false'. Refute it at one input. -/
def scoreSharesWrong : ChangeSpec := { name := "scoreShares", fn := fun _ => fun
  | [d1, d2] => { results := [.lit (.bool false)], args := [d1, d2] }
  | _ => none }
def ScoreSharesWrongFalsely : Prop := scoreSharesRow.holds Tryd.pinned (OpenSpec.ofChange scoreSharesWrong)

/-- 'purlinlaw1.ScoreTexts': WHATEVER THE INPUT: true; the input reads as it did. -/
def scoreTextsSpec : ChangeSpec := { name := "scoreTexts", fn := fun _ => fun
  | [d1, d2] => { results := [.lit (.bool true)], args := [d1, d2] }
  | _ => none }
def scoreTextsRow : OpenClaim := { program := "ytillhbbeghbfeaadoor", sum := "d493f781507dad4deb14616949b200753978e7dbf0fbf47ee9a28a26fad17cb0", func := "purlin/purlinlaw1.ScoreTexts", spec := "scoreTexts", inPlace := ["math.Float64bits", "math.Float64frombits", "math.archTrunc"], named := ["internal/strconv.uint64pow10", "math/bits.deBruijn32tab", "math/bits.deBruijn64tab"], apart := false, laid := [("math/bits.deBruijn32tab", laid_math_bits_deBruijn32tab), ("math/bits.deBruijn64tab", laid_math_bits_deBruijn64tab), ("internal/strconv.uint64pow10", laid_internal_strconv_uint64pow10)] }
def ScoreTextsSaid : Prop := scoreTextsRow.holds Tryd.pinned (OpenSpec.ofChange scoreTextsSpec)

/-- ITS FALSE NEIGHBOUR: 'it returns false'. Refute it at one input. -/
def scoreTextsWrong : ChangeSpec := { name := "scoreTexts", fn := fun _ => fun
  | [d1, d2] => { results := [.lit (.bool false)], args := [d1, d2] }
  | _ => none }
def ScoreTextsWrongFalsely : Prop := scoreTextsRow.holds Tryd.pinned (OpenSpec.ofChange scoreTextsWrong)

/-- 'purlinlaw1.ScoreMeans': WHATEVER THE INPUT: true; the input reads as it did. -/
def scoreMeansSpec : ChangeSpec := { name := "scoreMeans", fn := fun _ => fun
  | [d1, d2] => { results := [.lit (.bool true)], args := [d1, d2] }
  | _ => none }
def scoreMeansRow : OpenClaim := { program := "ytillhbbeghbfeaadoor", sum := "d493f781507dad4deb14616949b200753978e7dbf0fbf47ee9a28a26fad17cb0", func := "purlin/purlinlaw1.ScoreMeans", spec := "scoreMeans", inPlace := ["math.Float64frombits", "math.Float64bits", "math.archTrunc"], named := ["internal/strconv.uint64pow10", "math/bits.deBruijn32tab", "math/bits.deBruijn64tab"], apart := false, laid := [("math/bits.deBruijn32tab", laid_math_bits_deBruijn32tab), ("math/bits.deBruijn64tab", laid_math_bits_deBruijn64tab), ("internal/strconv.uint64pow10", laid_internal_strconv_uint64pow10)] }
def ScoreMeansSaid : Prop := scoreMeansRow.holds Tryd.pinned (OpenSpec.ofChange scoreMeansSpec)

/-- ITS FALSE NEIGHBOUR: 'it returns false'. Refute it at one input. -/
def scoreMeansWrong : ChangeSpec := { name := "scoreMeans", fn := fun _ => fun
  | [d1, d2] => { results := [.lit (.bool false)], args := [d1, d2] }
  | _ => none }
def ScoreMeansWrongFalsely : Prop := scoreMeansRow.holds Tryd.pinned (OpenSpec.ofChange scoreMeansWrong)

/-- 'purlinlaw1.ScoreClamps': WHATEVER THE INPUT: true; the input reads as it did. -/
def scoreClampsSpec : ChangeSpec := { name := "scoreClamps", fn := fun _ => fun
  | [d1, d2, d3] => { results := [.lit (.bool true)], args := [d1, d2, d3] }
  | _ => none }
def scoreClampsRow : OpenClaim := { program := "ytillhbbeghbfeaadoor", sum := "d493f781507dad4deb14616949b200753978e7dbf0fbf47ee9a28a26fad17cb0", func := "purlin/purlinlaw1.ScoreClamps", spec := "scoreClamps", inPlace := ["math.Float64frombits", "math.Float64bits", "math.archTrunc"], named := ["internal/strconv.uint64pow10", "math/bits.deBruijn32tab", "math/bits.deBruijn64tab"], apart := false, laid := [("math/bits.deBruijn32tab", laid_math_bits_deBruijn32tab), ("math/bits.deBruijn64tab", laid_math_bits_deBruijn64tab), ("internal/strconv.uint64pow10", laid_internal_strconv_uint64pow10)] }
def ScoreClampsSaid : Prop := scoreClampsRow.holds Tryd.pinned (OpenSpec.ofChange scoreClampsSpec)

/-- ITS FALSE NEIGHBOUR: 'it returns false'. Refute it at one input. -/
def scoreClampsWrong : ChangeSpec := { name := "scoreClamps", fn := fun _ => fun
  | [d1, d2, d3] => { results := [.lit (.bool false)], args := [d1, d2, d3] }
  | _ => none }
def ScoreClampsWrongFalsely : Prop := scoreClampsRow.holds Tryd.pinned (OpenSpec.ofChange scoreClampsWrong)

/-- 'purlinlaw1.ScoreOrders': WHATEVER THE INPUT: true; the input reads as it did. -/
def scoreOrdersSpec : ChangeSpec := { name := "scoreOrders", fn := fun _ => fun
  | [d1, d2, d3, d4] => { results := [.lit (.bool true)], args := [d1, d2, d3, d4] }
  | _ => none }
def scoreOrdersRow : OpenClaim := { program := "ytillhbbeghbfeaadoor", sum := "d493f781507dad4deb14616949b200753978e7dbf0fbf47ee9a28a26fad17cb0", func := "purlin/purlinlaw1.ScoreOrders", spec := "scoreOrders", inPlace := ["math.Float64frombits", "math.Float64bits", "math.archTrunc"], unfollowed := true, recurses := true, named := ["internal/strconv.uint64pow10", "math/bits.deBruijn32tab", "math/bits.deBruijn64tab"], apart := false, laid := [("math/bits.deBruijn32tab", laid_math_bits_deBruijn32tab), ("math/bits.deBruijn64tab", laid_math_bits_deBruijn64tab), ("internal/strconv.uint64pow10", laid_internal_strconv_uint64pow10)] }
def ScoreOrdersSaid : Prop := scoreOrdersRow.holds Tryd.pinned (OpenSpec.ofChange scoreOrdersSpec)

/-- ITS FALSE NEIGHBOUR: 'it returns false'. Refute it at one input. -/
def scoreOrdersWrong : ChangeSpec := { name := "scoreOrders", fn := fun _ => fun
  | [d1, d2, d3, d4] => { results := [.lit (.bool false)], args := [d1, d2, d3, d4] }
  | _ => none }
def ScoreOrdersWrongFalsely : Prop := scoreOrdersRow.holds Tryd.pinned (OpenSpec.ofChange scoreOrdersWrong)

/-- 'purlinlaw1.ScoreBest': WHATEVER THE INPUT: true; the input reads as it did. -/
def scoreBestSpec : ChangeSpec := { name := "scoreBest", fn := fun _ => fun
  | [d] => { results := [.lit (.bool true)], args := [d] }
  | _ => none }
def scoreBestRow : OpenClaim := { program := "ytillhbbeghbfeaadoor", sum := "d493f781507dad4deb14616949b200753978e7dbf0fbf47ee9a28a26fad17cb0", func := "purlin/purlinlaw1.ScoreBest", spec := "scoreBest", inPlace := ["math.Float64frombits", "math.Float64bits", "math.archTrunc"], unfollowed := true, recurses := true, named := ["internal/strconv.uint64pow10", "math/bits.deBruijn32tab", "math/bits.deBruijn64tab"], apart := false, laid := [("math/bits.deBruijn32tab", laid_math_bits_deBruijn32tab), ("math/bits.deBruijn64tab", laid_math_bits_deBruijn64tab), ("internal/strconv.uint64pow10", laid_internal_strconv_uint64pow10)] }
def ScoreBestSaid : Prop := scoreBestRow.holds Tryd.pinned (OpenSpec.ofChange scoreBestSpec)

/-- ITS FALSE NEIGHBOUR: 'it returns false'. Refute it at one input. -/
def scoreBestWrong : ChangeSpec := { name := "scoreBest", fn := fun _ => fun
  | [d] => { results := [.lit (.bool false)], args := [d] }
  | _ => none }
def ScoreBestWrongFalsely : Prop := scoreBestRow.holds Tryd.pinned (OpenSpec.ofChange scoreBestWrong)

/-- 'purlinlaw1.ScorePlaces': WHATEVER THE INPUT: true; the input reads as it did. -/
def scorePlacesSpec : ChangeSpec := { name := "scorePlaces", fn := fun _ => fun
  | [d1, d2] => { results := [.lit (.bool true)], args := [d1, d2] }
  | _ => none }
def scorePlacesRow : OpenClaim := { program := "ytillhbbeghbfeaadoor", sum := "d493f781507dad4deb14616949b200753978e7dbf0fbf47ee9a28a26fad17cb0", func := "purlin/purlinlaw1.ScorePlaces", spec := "scorePlaces", inPlace := ["math.Float64frombits", "math.Float64bits", "math.archTrunc"], unfollowed := true, recurses := true, named := ["internal/strconv.uint64pow10", "math/bits.deBruijn32tab", "math/bits.deBruijn64tab"], apart := false, laid := [("math/bits.deBruijn32tab", laid_math_bits_deBruijn32tab), ("math/bits.deBruijn64tab", laid_math_bits_deBruijn64tab), ("internal/strconv.uint64pow10", laid_internal_strconv_uint64pow10)] }
def ScorePlacesSaid : Prop := scorePlacesRow.holds Tryd.pinned (OpenSpec.ofChange scorePlacesSpec)

/-- ITS FALSE NEIGHBOUR: 'it returns false'. Refute it at one input. -/
def scorePlacesWrong : ChangeSpec := { name := "scorePlaces", fn := fun _ => fun
  | [d1, d2] => { results := [.lit (.bool false)], args := [d1, d2] }
  | _ => none }
def ScorePlacesWrongFalsely : Prop := scorePlacesRow.holds Tryd.pinned (OpenSpec.ofChange scorePlacesWrong)

/-- 'purlinlaw1.ScoreTells': WHATEVER THE INPUT: true; the input reads as it did. -/
def scoreTellsSpec : ChangeSpec := { name := "scoreTells", fn := fun _ => fun
  | [d1, d2, d3, d4, d5, d6] => { results := [.lit (.bool true)], args := [d1, d2, d3, d4, d5, d6] }
  | _ => none }
def scoreTellsRow : OpenClaim := { program := "ytillhbbeghbfeaadoor", sum := "d493f781507dad4deb14616949b200753978e7dbf0fbf47ee9a28a26fad17cb0", func := "purlin/purlinlaw1.ScoreTells", spec := "scoreTells", inPlace := ["math.Float64frombits", "math.Float64bits", "math.archTrunc"], unfollowed := true, recurses := true, named := ["internal/strconv.uint64pow10", "math/bits.deBruijn32tab", "math/bits.deBruijn64tab"], apart := false, laid := [("math/bits.deBruijn32tab", laid_math_bits_deBruijn32tab), ("math/bits.deBruijn64tab", laid_math_bits_deBruijn64tab), ("internal/strconv.uint64pow10", laid_internal_strconv_uint64pow10)] }
def ScoreTellsSaid : Prop := scoreTellsRow.holds Tryd.pinned (OpenSpec.ofChange scoreTellsSpec)

/-- ITS FALSE NEIGHBOUR: 'it returns false'. Refute it at one input. -/
def scoreTellsWrong : ChangeSpec := { name := "scoreTells", fn := fun _ => fun
  | [d1, d2, d3, d4, d5, d6] => { results := [.lit (.bool false)], args := [d1, d2, d3, d4, d5, d6] }
  | _ => none }
def ScoreTellsWrongFalsely : Prop := scoreTellsRow.holds Tryd.pinned (OpenSpec.ofChange scoreTellsWrong)

/- THE SECOND FORM. 'bulk': how many values and letters a reading holds, each counted each time it is reached (what is shared counts as often as it is met; a slice's spare places count too). A statement '..UptoSaid' is the law's where the arguments, and the package variables that the reading takes, are together of bulk at most 1048576: NARROWER than '..Said'. Prove '..Said' where nothing that the law and all that it calls make is longer than what came in: it says more and counts as full. Else prove '..UptoSaid'. A law counts once. -/
mutual
def uptoBulk {H : Type} : DataW H → Nat
  | .lit (.string bytes) => bytes.length + 1
  | .lit _ => 1
  | .nil => 1
  | .ptr d => uptoBulk d + 1
  | .slice elems spare => uptoBulkAll elems + uptoBulkAll spare + 1
  | .agg parts => uptoBulkAll parts + 1
  | .iface _ d => uptoBulk d + 1
  | .map entries => uptoBulkEntries entries + 1
  | .held _ => 1
def uptoBulkAll {H : Type} : List (DataW H) → Nat
  | [] => 0
  | d :: r => uptoBulk d + uptoBulkAll r
def uptoBulkEntries {H : Type} : List (Lit × DataW H) → Nat
  | [] => 0
  | x :: r => uptoBulkEntry x + uptoBulkEntries r
def uptoBulkEntry {H : Type} : Lit × DataW H → Nat
  | (.string bytes, d) => bytes.length + uptoBulk d + 1
  | (_, d) => uptoBulk d + 1
 end
def uptoSmall : (H : Type) → List (DataW H) → Bool := fun _ ds => decide (uptoBulkAll ds ≤ 1048576)
def OpenSpec.upto (s : _root_.Go.ChangeSpec) : _root_.Go.OpenSpec := { _root_.Go.OpenSpec.ofChange s with cond := some uptoSmall }

/-- 'purlinlaw1.ScoreShares', WHERE WHAT IT READS IS OF BULK AT MOST 1048576: true; the input reads as it did. -/
def scoreSharesUptoRow : OpenClaim := { program := "ytillhbbeghbfeaadoor", sum := "d493f781507dad4deb14616949b200753978e7dbf0fbf47ee9a28a26fad17cb0", func := "purlin/purlinlaw1.ScoreShares", spec := "scoreShares", inPlace := ["math.Float64bits", "math.Float64frombits", "math.archTrunc"], named := ["internal/strconv.uint64pow10", "math/bits.deBruijn32tab", "math/bits.deBruijn64tab"], apart := false, laid := [("math/bits.deBruijn32tab", laid_math_bits_deBruijn32tab), ("math/bits.deBruijn64tab", laid_math_bits_deBruijn64tab), ("internal/strconv.uint64pow10", laid_internal_strconv_uint64pow10)], narrowed := true }
def ScoreSharesUptoSaid : Prop := scoreSharesUptoRow.holds Tryd.pinned (OpenSpec.upto scoreSharesSpec)

/-- 'purlinlaw1.ScoreTexts', WHERE WHAT IT READS IS OF BULK AT MOST 1048576: true; the input reads as it did. -/
def scoreTextsUptoRow : OpenClaim := { program := "ytillhbbeghbfeaadoor", sum := "d493f781507dad4deb14616949b200753978e7dbf0fbf47ee9a28a26fad17cb0", func := "purlin/purlinlaw1.ScoreTexts", spec := "scoreTexts", inPlace := ["math.Float64bits", "math.Float64frombits", "math.archTrunc"], named := ["internal/strconv.uint64pow10", "math/bits.deBruijn32tab", "math/bits.deBruijn64tab"], apart := false, laid := [("math/bits.deBruijn32tab", laid_math_bits_deBruijn32tab), ("math/bits.deBruijn64tab", laid_math_bits_deBruijn64tab), ("internal/strconv.uint64pow10", laid_internal_strconv_uint64pow10)], narrowed := true }
def ScoreTextsUptoSaid : Prop := scoreTextsUptoRow.holds Tryd.pinned (OpenSpec.upto scoreTextsSpec)

/-- 'purlinlaw1.ScoreMeans', WHERE WHAT IT READS IS OF BULK AT MOST 1048576: true; the input reads as it did. -/
def scoreMeansUptoRow : OpenClaim := { program := "ytillhbbeghbfeaadoor", sum := "d493f781507dad4deb14616949b200753978e7dbf0fbf47ee9a28a26fad17cb0", func := "purlin/purlinlaw1.ScoreMeans", spec := "scoreMeans", inPlace := ["math.Float64frombits", "math.Float64bits", "math.archTrunc"], named := ["internal/strconv.uint64pow10", "math/bits.deBruijn32tab", "math/bits.deBruijn64tab"], apart := false, laid := [("math/bits.deBruijn32tab", laid_math_bits_deBruijn32tab), ("math/bits.deBruijn64tab", laid_math_bits_deBruijn64tab), ("internal/strconv.uint64pow10", laid_internal_strconv_uint64pow10)], narrowed := true }
def ScoreMeansUptoSaid : Prop := scoreMeansUptoRow.holds Tryd.pinned (OpenSpec.upto scoreMeansSpec)

/-- 'purlinlaw1.ScoreClamps', WHERE WHAT IT READS IS OF BULK AT MOST 1048576: true; the input reads as it did. -/
def scoreClampsUptoRow : OpenClaim := { program := "ytillhbbeghbfeaadoor", sum := "d493f781507dad4deb14616949b200753978e7dbf0fbf47ee9a28a26fad17cb0", func := "purlin/purlinlaw1.ScoreClamps", spec := "scoreClamps", inPlace := ["math.Float64frombits", "math.Float64bits", "math.archTrunc"], named := ["internal/strconv.uint64pow10", "math/bits.deBruijn32tab", "math/bits.deBruijn64tab"], apart := false, laid := [("math/bits.deBruijn32tab", laid_math_bits_deBruijn32tab), ("math/bits.deBruijn64tab", laid_math_bits_deBruijn64tab), ("internal/strconv.uint64pow10", laid_internal_strconv_uint64pow10)], narrowed := true }
def ScoreClampsUptoSaid : Prop := scoreClampsUptoRow.holds Tryd.pinned (OpenSpec.upto scoreClampsSpec)

/-- 'purlinlaw1.ScoreOrders', WHERE WHAT IT READS IS OF BULK AT MOST 1048576: true; the input reads as it did. -/
def scoreOrdersUptoRow : OpenClaim := { program := "ytillhbbeghbfeaadoor", sum := "d493f781507dad4deb14616949b200753978e7dbf0fbf47ee9a28a26fad17cb0", func := "purlin/purlinlaw1.ScoreOrders", spec := "scoreOrders", inPlace := ["math.Float64frombits", "math.Float64bits", "math.archTrunc"], unfollowed := true, recurses := true, named := ["internal/strconv.uint64pow10", "math/bits.deBruijn32tab", "math/bits.deBruijn64tab"], apart := false, laid := [("math/bits.deBruijn32tab", laid_math_bits_deBruijn32tab), ("math/bits.deBruijn64tab", laid_math_bits_deBruijn64tab), ("internal/strconv.uint64pow10", laid_internal_strconv_uint64pow10)], narrowed := true }
def ScoreOrdersUptoSaid : Prop := scoreOrdersUptoRow.holds Tryd.pinned (OpenSpec.upto scoreOrdersSpec)

/-- 'purlinlaw1.ScoreBest', WHERE WHAT IT READS IS OF BULK AT MOST 1048576: true; the input reads as it did. -/
def scoreBestUptoRow : OpenClaim := { program := "ytillhbbeghbfeaadoor", sum := "d493f781507dad4deb14616949b200753978e7dbf0fbf47ee9a28a26fad17cb0", func := "purlin/purlinlaw1.ScoreBest", spec := "scoreBest", inPlace := ["math.Float64frombits", "math.Float64bits", "math.archTrunc"], unfollowed := true, recurses := true, named := ["internal/strconv.uint64pow10", "math/bits.deBruijn32tab", "math/bits.deBruijn64tab"], apart := false, laid := [("math/bits.deBruijn32tab", laid_math_bits_deBruijn32tab), ("math/bits.deBruijn64tab", laid_math_bits_deBruijn64tab), ("internal/strconv.uint64pow10", laid_internal_strconv_uint64pow10)], narrowed := true }
def ScoreBestUptoSaid : Prop := scoreBestUptoRow.holds Tryd.pinned (OpenSpec.upto scoreBestSpec)

/-- 'purlinlaw1.ScorePlaces', WHERE WHAT IT READS IS OF BULK AT MOST 1048576: true; the input reads as it did. -/
def scorePlacesUptoRow : OpenClaim := { program := "ytillhbbeghbfeaadoor", sum := "d493f781507dad4deb14616949b200753978e7dbf0fbf47ee9a28a26fad17cb0", func := "purlin/purlinlaw1.ScorePlaces", spec := "scorePlaces", inPlace := ["math.Float64frombits", "math.Float64bits", "math.archTrunc"], unfollowed := true, recurses := true, named := ["internal/strconv.uint64pow10", "math/bits.deBruijn32tab", "math/bits.deBruijn64tab"], apart := false, laid := [("math/bits.deBruijn32tab", laid_math_bits_deBruijn32tab), ("math/bits.deBruijn64tab", laid_math_bits_deBruijn64tab), ("internal/strconv.uint64pow10", laid_internal_strconv_uint64pow10)], narrowed := true }
def ScorePlacesUptoSaid : Prop := scorePlacesUptoRow.holds Tryd.pinned (OpenSpec.upto scorePlacesSpec)

/-- 'purlinlaw1.ScoreTells', WHERE WHAT IT READS IS OF BULK AT MOST 1048576: true; the input reads as it did. -/
def scoreTellsUptoRow : OpenClaim := { program := "ytillhbbeghbfeaadoor", sum := "d493f781507dad4deb14616949b200753978e7dbf0fbf47ee9a28a26fad17cb0", func := "purlin/purlinlaw1.ScoreTells", spec := "scoreTells", inPlace := ["math.Float64frombits", "math.Float64bits", "math.archTrunc"], unfollowed := true, recurses := true, named := ["internal/strconv.uint64pow10", "math/bits.deBruijn32tab", "math/bits.deBruijn64tab"], apart := false, laid := [("math/bits.deBruijn32tab", laid_math_bits_deBruijn32tab), ("math/bits.deBruijn64tab", laid_math_bits_deBruijn64tab), ("internal/strconv.uint64pow10", laid_internal_strconv_uint64pow10)], narrowed := true }
def ScoreTellsUptoSaid : Prop := scoreTellsUptoRow.holds Tryd.pinned (OpenSpec.upto scoreTellsSpec)

end Rows
end Go.Proofs.YtillhbbeghbfeaaDoor
