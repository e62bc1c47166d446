/-
  No cell of these rows narrows 'for every input' (looked for: loops, veiled, ifaces, maps, wideKeys, modest, calm, conditions, laid).
  DERIVED. THE GIVEN ROWS OF THIS SEAT. 11 by the template 'for every input the law returns true; each argument reads behind the call as it read before'; 0 by the template 'total and deterministic' (their statements: YthbdnaogjmnagaaTotals.lean).
  GIVEN WITH THE SEED: the statements are not yours to turn. If you find one false, say at which input.
  Laid BY PROGRAM, IN A SANDBOX (cutbox-rows.mjs): the forced cells as the released guide's own fill.sh prints them over the translation 6b13c31188d06b2d… (all of the seat's roots in one cut). By AI agents, Wed Nov 11 2026. No macro, syntax, notation, axiom, sorry.
-/
import Derived.Test.YthbdnaogjmnagaaChecked
import GoSem.Claim
import GoSem.ClaimJoined
import GoSem.ClaimMapViews
import Derived.JoinedTies
import Derived.KernelRfl
namespace Go.Proofs.Ythbdnaogjmnagaa
/- THE CELL 'sum', in the pinned program and in every row, IS THE sha256 OF THE DUMP (.gsa) THAT YthbdnaogjmnagaaProg.lean LOADS. Nothing in Lean hashes anything: it is a label: what it is worth is what the hold of that sum in a sandbox is worth. -/
noncomputable def Try.pinned : Pinned := { name := "ythbdnaogjmnagaa", sum := "6b13c31188d06b2d23497f3382cb05083835edd72927c90bb7e01839fd04d54f", checked := Try.checked }
namespace Rows
def none {H : Type} : Left H := { results := [], args := [] }

/-- 'purlinlaw5.GeomTells': WHATEVER THE INPUT: true; the input reads as it did. -/
def geomTellsSpec : ChangeSpec := { name := "geomTells", fn := fun _ => fun
  | [d1, d2, d3, d4] => { results := [.lit (.bool true)], args := [d1, d2, d3, d4] }
  | _ => none }
def geomTellsRow : OpenClaim := { program := "ythbdnaogjmnagaa", sum := "6b13c31188d06b2d23497f3382cb05083835edd72927c90bb7e01839fd04d54f", func := "purlin/purlinlaw5.GeomTells", spec := "geomTells", apart := false }
def GeomTellsSaid : Prop := geomTellsRow.holds Try.pinned (OpenSpec.ofChange geomTellsSpec)

/-- ITS FALSE NEIGHBOUR: 'it returns false'. Refute it at one input. -/
def geomTellsWrong : ChangeSpec := { name := "geomTells", fn := fun _ => fun
  | [d1, d2, d3, d4] => { results := [.lit (.bool false)], args := [d1, d2, d3, d4] }
  | _ => none }
def GeomTellsWrongFalsely : Prop := geomTellsRow.holds Try.pinned (OpenSpec.ofChange geomTellsWrong)

/-- 'purlinlaw5.GeomParts': WHATEVER THE INPUT: true; the input reads as it did. -/
def geomPartsSpec : ChangeSpec := { name := "geomParts", fn := fun _ => fun
  | [d1, d2, d3] => { results := [.lit (.bool true)], args := [d1, d2, d3] }
  | _ => none }
def geomPartsRow : OpenClaim := { program := "ythbdnaogjmnagaa", sum := "6b13c31188d06b2d23497f3382cb05083835edd72927c90bb7e01839fd04d54f", func := "purlin/purlinlaw5.GeomParts", spec := "geomParts", apart := false }
def GeomPartsSaid : Prop := geomPartsRow.holds Try.pinned (OpenSpec.ofChange geomPartsSpec)

/-- ITS FALSE NEIGHBOUR: 'it returns false'. Refute it at one input. -/
def geomPartsWrong : ChangeSpec := { name := "geomParts", fn := fun _ => fun
  | [d1, d2, d3] => { results := [.lit (.bool false)], args := [d1, d2, d3] }
  | _ => none }
def GeomPartsWrongFalsely : Prop := geomPartsRow.holds Try.pinned (OpenSpec.ofChange geomPartsWrong)

/-- 'purlinlaw5.GeomGrows': WHATEVER THE INPUT: true; the input reads as it did. -/
def geomGrowsSpec : ChangeSpec := { name := "geomGrows", fn := fun _ => fun
  | [d1, d2, d3, d4] => { results := [.lit (.bool true)], args := [d1, d2, d3, d4] }
  | _ => none }
def geomGrowsRow : OpenClaim := { program := "ythbdnaogjmnagaa", sum := "6b13c31188d06b2d23497f3382cb05083835edd72927c90bb7e01839fd04d54f", func := "purlin/purlinlaw5.GeomGrows", spec := "geomGrows", apart := false }
def GeomGrowsSaid : Prop := geomGrowsRow.holds Try.pinned (OpenSpec.ofChange geomGrowsSpec)

/-- ITS FALSE NEIGHBOUR: 'it returns false'. Refute it at one input. -/
def geomGrowsWrong : ChangeSpec := { name := "geomGrows", fn := fun _ => fun
  | [d1, d2, d3, d4] => { results := [.lit (.bool false)], args := [d1, d2, d3, d4] }
  | _ => none }
def GeomGrowsWrongFalsely : Prop := geomGrowsRow.holds Try.pinned (OpenSpec.ofChange geomGrowsWrong)

/-- 'purlinlaw3.BitsRuns': WHATEVER THE INPUT: true; the input reads as it did. -/
def bitsRunsSpec : ChangeSpec := { name := "bitsRuns", fn := fun _ => fun
  | [d1, d2, d3] => { results := [.lit (.bool true)], args := [d1, d2, d3] }
  | _ => none }
def bitsRunsRow : OpenClaim := { program := "ythbdnaogjmnagaa", sum := "6b13c31188d06b2d23497f3382cb05083835edd72927c90bb7e01839fd04d54f", func := "purlin/purlinlaw3.BitsRuns", spec := "bitsRuns", apart := false }
def BitsRunsSaid : Prop := bitsRunsRow.holds Try.pinned (OpenSpec.ofChange bitsRunsSpec)

/-- ITS FALSE NEIGHBOUR: 'it returns false'. Refute it at one input. -/
def bitsRunsWrong : ChangeSpec := { name := "bitsRuns", fn := fun _ => fun
  | [d1, d2, d3] => { results := [.lit (.bool false)], args := [d1, d2, d3] }
  | _ => none }
def BitsRunsWrongFalsely : Prop := bitsRunsRow.holds Try.pinned (OpenSpec.ofChange bitsRunsWrong)

/-- 'purlinlaw3.BitsSets': WHATEVER THE INPUT: true; the input reads as it did. -/
def bitsSetsSpec : ChangeSpec := { name := "bitsSets", fn := fun _ => fun
  | [d1, d2] => { results := [.lit (.bool true)], args := [d1, d2] }
  | _ => none }
def bitsSetsRow : OpenClaim := { program := "ythbdnaogjmnagaa", sum := "6b13c31188d06b2d23497f3382cb05083835edd72927c90bb7e01839fd04d54f", func := "purlin/purlinlaw3.BitsSets", spec := "bitsSets", apart := false }
def BitsSetsSaid : Prop := bitsSetsRow.holds Try.pinned (OpenSpec.ofChange bitsSetsSpec)

/-- ITS FALSE NEIGHBOUR: 'it returns false'. Refute it at one input. -/
def bitsSetsWrong : ChangeSpec := { name := "bitsSets", fn := fun _ => fun
  | [d1, d2] => { results := [.lit (.bool false)], args := [d1, d2] }
  | _ => none }
def BitsSetsWrongFalsely : Prop := bitsSetsRow.holds Try.pinned (OpenSpec.ofChange bitsSetsWrong)

/-- 'purlinlaw3.BitsOrders': WHATEVER THE INPUT: true; the input reads as it did. -/
def bitsOrdersSpec : ChangeSpec := { name := "bitsOrders", fn := fun _ => fun
  | [d1, d2, d3] => { results := [.lit (.bool true)], args := [d1, d2, d3] }
  | _ => none }
def bitsOrdersRow : OpenClaim := { program := "ythbdnaogjmnagaa", sum := "6b13c31188d06b2d23497f3382cb05083835edd72927c90bb7e01839fd04d54f", func := "purlin/purlinlaw3.BitsOrders", spec := "bitsOrders", apart := false }
def BitsOrdersSaid : Prop := bitsOrdersRow.holds Try.pinned (OpenSpec.ofChange bitsOrdersSpec)

/-- ITS FALSE NEIGHBOUR: 'it returns false'. Refute it at one input. -/
def bitsOrdersWrong : ChangeSpec := { name := "bitsOrders", fn := fun _ => fun
  | [d1, d2, d3] => { results := [.lit (.bool false)], args := [d1, d2, d3] }
  | _ => none }
def BitsOrdersWrongFalsely : Prop := bitsOrdersRow.holds Try.pinned (OpenSpec.ofChange bitsOrdersWrong)

/-- 'purlinlaw7.InodeTells': WHATEVER THE INPUT: true; the input reads as it did. -/
def inodeTellsSpec : ChangeSpec := { name := "inodeTells", fn := fun _ => fun
  | [d1, d2, d3] => { results := [.lit (.bool true)], args := [d1, d2, d3] }
  | _ => none }
def inodeTellsRow : OpenClaim := { program := "ythbdnaogjmnagaa", sum := "6b13c31188d06b2d23497f3382cb05083835edd72927c90bb7e01839fd04d54f", func := "purlin/purlinlaw7.InodeTells", spec := "inodeTells", apart := false }
def InodeTellsSaid : Prop := inodeTellsRow.holds Try.pinned (OpenSpec.ofChange inodeTellsSpec)

/-- ITS FALSE NEIGHBOUR: 'it returns false'. Refute it at one input. -/
def inodeTellsWrong : ChangeSpec := { name := "inodeTells", fn := fun _ => fun
  | [d1, d2, d3] => { results := [.lit (.bool false)], args := [d1, d2, d3] }
  | _ => none }
def InodeTellsWrongFalsely : Prop := inodeTellsRow.holds Try.pinned (OpenSpec.ofChange inodeTellsWrong)

/-- 'purlinlaw7.InodeBack': WHATEVER THE INPUT: true; the input reads as it did. -/
def inodeBackSpec : ChangeSpec := { name := "inodeBack", fn := fun _ => fun
  | [d] => { results := [.lit (.bool true)], args := [d] }
  | _ => none }
def inodeBackRow : OpenClaim := { program := "ythbdnaogjmnagaa", sum := "6b13c31188d06b2d23497f3382cb05083835edd72927c90bb7e01839fd04d54f", func := "purlin/purlinlaw7.InodeBack", spec := "inodeBack", apart := false }
def InodeBackSaid : Prop := inodeBackRow.holds Try.pinned (OpenSpec.ofChange inodeBackSpec)

/-- ITS FALSE NEIGHBOUR: 'it returns false'. Refute it at one input. -/
def inodeBackWrong : ChangeSpec := { name := "inodeBack", fn := fun _ => fun
  | [d] => { results := [.lit (.bool false)], args := [d] }
  | _ => none }
def InodeBackWrongFalsely : Prop := inodeBackRow.holds Try.pinned (OpenSpec.ofChange inodeBackWrong)

/-- 'purlinlaw7.InodePlaces': WHATEVER THE INPUT: true; the input reads as it did. -/
def inodePlacesSpec : ChangeSpec := { name := "inodePlaces", fn := fun _ => fun
  | [d1, d2, d3] => { results := [.lit (.bool true)], args := [d1, d2, d3] }
  | _ => none }
def inodePlacesRow : OpenClaim := { program := "ythbdnaogjmnagaa", sum := "6b13c31188d06b2d23497f3382cb05083835edd72927c90bb7e01839fd04d54f", func := "purlin/purlinlaw7.InodePlaces", spec := "inodePlaces", apart := false }
def InodePlacesSaid : Prop := inodePlacesRow.holds Try.pinned (OpenSpec.ofChange inodePlacesSpec)

/-- ITS FALSE NEIGHBOUR: 'it returns false'. Refute it at one input. -/
def inodePlacesWrong : ChangeSpec := { name := "inodePlaces", fn := fun _ => fun
  | [d1, d2, d3] => { results := [.lit (.bool false)], args := [d1, d2, d3] }
  | _ => none }
def InodePlacesWrongFalsely : Prop := inodePlacesRow.holds Try.pinned (OpenSpec.ofChange inodePlacesWrong)

/-- 'purlinlaw7.InodeApart': WHATEVER THE INPUT: true; the input reads as it did. -/
def inodeApartSpec : ChangeSpec := { name := "inodeApart", fn := fun _ => fun
  | [d1, d2, d3] => { results := [.lit (.bool true)], args := [d1, d2, d3] }
  | _ => none }
def inodeApartRow : OpenClaim := { program := "ythbdnaogjmnagaa", sum := "6b13c31188d06b2d23497f3382cb05083835edd72927c90bb7e01839fd04d54f", func := "purlin/purlinlaw7.InodeApart", spec := "inodeApart", apart := false }
def InodeApartSaid : Prop := inodeApartRow.holds Try.pinned (OpenSpec.ofChange inodeApartSpec)

/-- ITS FALSE NEIGHBOUR: 'it returns false'. Refute it at one input. -/
def inodeApartWrong : ChangeSpec := { name := "inodeApart", fn := fun _ => fun
  | [d1, d2, d3] => { results := [.lit (.bool false)], args := [d1, d2, d3] }
  | _ => none }
def InodeApartWrongFalsely : Prop := inodeApartRow.holds Try.pinned (OpenSpec.ofChange inodeApartWrong)

/-- 'purlinlaw7.InodeSlots': WHATEVER THE INPUT: true; the input reads as it did. -/
def inodeSlotsSpec : ChangeSpec := { name := "inodeSlots", fn := fun _ => fun
  | [d1, d2, d3] => { results := [.lit (.bool true)], args := [d1, d2, d3] }
  | _ => none }
def inodeSlotsRow : OpenClaim := { program := "ythbdnaogjmnagaa", sum := "6b13c31188d06b2d23497f3382cb05083835edd72927c90bb7e01839fd04d54f", func := "purlin/purlinlaw7.InodeSlots", spec := "inodeSlots", apart := false }
def InodeSlotsSaid : Prop := inodeSlotsRow.holds Try.pinned (OpenSpec.ofChange inodeSlotsSpec)

/-- ITS FALSE NEIGHBOUR: 'it returns false'. Refute it at one input. -/
def inodeSlotsWrong : ChangeSpec := { name := "inodeSlots", fn := fun _ => fun
  | [d1, d2, d3] => { results := [.lit (.bool false)], args := [d1, d2, d3] }
  | _ => none }
def InodeSlotsWrongFalsely : Prop := inodeSlotsRow.holds Try.pinned (OpenSpec.ofChange inodeSlotsWrong)

/- THE SECOND FORM. 'bulk': how many values and letters a reading holds, each counted each time it is reached (what is shared counts as often as it is met; a slice's spare places count too). A statement '..UptoSaid' is the law's where the arguments, and the package variables that the reading takes, are together of bulk at most 1048576: NARROWER than '..Said'. Prove '..Said' where nothing that the law and all that it calls make is longer than what came in: it says more and counts as full. Else prove '..UptoSaid'. A law counts once. -/
mutual
def uptoBulk {H : Type} : DataW H → Nat
  | .lit (.string bytes) => bytes.length + 1
  | .lit _ => 1
  | .nil => 1
  | .ptr d => uptoBulk d + 1
  | .slice elems spare => uptoBulkAll elems + uptoBulkAll spare + 1
  | .agg parts => uptoBulkAll parts + 1
  | .iface _ d => uptoBulk d + 1
  | .map entries => uptoBulkEntries entries + 1
  | .held _ => 1
def uptoBulkAll {H : Type} : List (DataW H) → Nat
  | [] => 0
  | d :: r => uptoBulk d + uptoBulkAll r
def uptoBulkEntries {H : Type} : List (Lit × DataW H) → Nat
  | [] => 0
  | x :: r => uptoBulkEntry x + uptoBulkEntries r
def uptoBulkEntry {H : Type} : Lit × DataW H → Nat
  | (.string bytes, d) => bytes.length + uptoBulk d + 1
  | (_, d) => uptoBulk d + 1
 end
def uptoSmall : (H : Type) → List (DataW H) → Bool := fun _ ds => decide (uptoBulkAll ds ≤ 1048576)
def OpenSpec.upto (s : _root_.Go.ChangeSpec) : _root_.Go.OpenSpec := { _root_.Go.OpenSpec.ofChange s with cond := some uptoSmall }

/-- 'purlinlaw5.GeomTells', WHERE WHAT IT READS IS OF BULK AT MOST 1048576: true; the input reads as it did. -/
def geomTellsUptoRow : OpenClaim := { program := "ythbdnaogjmnagaa", sum := "6b13c31188d06b2d23497f3382cb05083835edd72927c90bb7e01839fd04d54f", func := "purlin/purlinlaw5.GeomTells", spec := "geomTells", apart := false, narrowed := true }
def GeomTellsUptoSaid : Prop := geomTellsUptoRow.holds Try.pinned (OpenSpec.upto geomTellsSpec)

/-- 'purlinlaw5.GeomParts', WHERE WHAT IT READS IS OF BULK AT MOST 1048576: true; the input reads as it did. -/
def geomPartsUptoRow : OpenClaim := { program := "ythbdnaogjmnagaa", sum := "6b13c31188d06b2d23497f3382cb05083835edd72927c90bb7e01839fd04d54f", func := "purlin/purlinlaw5.GeomParts", spec := "geomParts", apart := false, narrowed := true }
def GeomPartsUptoSaid : Prop := geomPartsUptoRow.holds Try.pinned (OpenSpec.upto geomPartsSpec)

/-- 'purlinlaw5.GeomGrows', WHERE WHAT IT READS IS OF BULK AT MOST 1048576: true; the input reads as it did. -/
def geomGrowsUptoRow : OpenClaim := { program := "ythbdnaogjmnagaa", sum := "6b13c31188d06b2d23497f3382cb05083835edd72927c90bb7e01839fd04d54f", func := "purlin/purlinlaw5.GeomGrows", spec := "geomGrows", apart := false, narrowed := true }
def GeomGrowsUptoSaid : Prop := geomGrowsUptoRow.holds Try.pinned (OpenSpec.upto geomGrowsSpec)

/-- 'purlinlaw3.BitsRuns', WHERE WHAT IT READS IS OF BULK AT MOST 1048576: true; the input reads as it did. -/
def bitsRunsUptoRow : OpenClaim := { program := "ythbdnaogjmnagaa", sum := "6b13c31188d06b2d23497f3382cb05083835edd72927c90bb7e01839fd04d54f", func := "purlin/purlinlaw3.BitsRuns", spec := "bitsRuns", apart := false, narrowed := true }
def BitsRunsUptoSaid : Prop := bitsRunsUptoRow.holds Try.pinned (OpenSpec.upto bitsRunsSpec)

/-- 'purlinlaw3.BitsSets', WHERE WHAT IT READS IS OF BULK AT MOST 1048576: true; the input reads as it did. -/
def bitsSetsUptoRow : OpenClaim := { program := "ythbdnaogjmnagaa", sum := "6b13c31188d06b2d23497f3382cb05083835edd72927c90bb7e01839fd04d54f", func := "purlin/purlinlaw3.BitsSets", spec := "bitsSets", apart := false, narrowed := true }
def BitsSetsUptoSaid : Prop := bitsSetsUptoRow.holds Try.pinned (OpenSpec.upto bitsSetsSpec)

/-- 'purlinlaw3.BitsOrders', WHERE WHAT IT READS IS OF BULK AT MOST 1048576: true; the input reads as it did. -/
def bitsOrdersUptoRow : OpenClaim := { program := "ythbdnaogjmnagaa", sum := "6b13c31188d06b2d23497f3382cb05083835edd72927c90bb7e01839fd04d54f", func := "purlin/purlinlaw3.BitsOrders", spec := "bitsOrders", apart := false, narrowed := true }
def BitsOrdersUptoSaid : Prop := bitsOrdersUptoRow.holds Try.pinned (OpenSpec.upto bitsOrdersSpec)

/-- 'purlinlaw7.InodeTells', WHERE WHAT IT READS IS OF BULK AT MOST 1048576: true; the input reads as it did. -/
def inodeTellsUptoRow : OpenClaim := { program := "ythbdnaogjmnagaa", sum := "6b13c31188d06b2d23497f3382cb05083835edd72927c90bb7e01839fd04d54f", func := "purlin/purlinlaw7.InodeTells", spec := "inodeTells", apart := false, narrowed := true }
def InodeTellsUptoSaid : Prop := inodeTellsUptoRow.holds Try.pinned (OpenSpec.upto inodeTellsSpec)

/-- 'purlinlaw7.InodeBack', WHERE WHAT IT READS IS OF BULK AT MOST 1048576: true; the input reads as it did. -/
def inodeBackUptoRow : OpenClaim := { program := "ythbdnaogjmnagaa", sum := "6b13c31188d06b2d23497f3382cb05083835edd72927c90bb7e01839fd04d54f", func := "purlin/purlinlaw7.InodeBack", spec := "inodeBack", apart := false, narrowed := true }
def InodeBackUptoSaid : Prop := inodeBackUptoRow.holds Try.pinned (OpenSpec.upto inodeBackSpec)

/-- 'purlinlaw7.InodePlaces', WHERE WHAT IT READS IS OF BULK AT MOST 1048576: true; the input reads as it did. -/
def inodePlacesUptoRow : OpenClaim := { program := "ythbdnaogjmnagaa", sum := "6b13c31188d06b2d23497f3382cb05083835edd72927c90bb7e01839fd04d54f", func := "purlin/purlinlaw7.InodePlaces", spec := "inodePlaces", apart := false, narrowed := true }
def InodePlacesUptoSaid : Prop := inodePlacesUptoRow.holds Try.pinned (OpenSpec.upto inodePlacesSpec)

/-- 'purlinlaw7.InodeApart', WHERE WHAT IT READS IS OF BULK AT MOST 1048576: true; the input reads as it did. -/
def inodeApartUptoRow : OpenClaim := { program := "ythbdnaogjmnagaa", sum := "6b13c31188d06b2d23497f3382cb05083835edd72927c90bb7e01839fd04d54f", func := "purlin/purlinlaw7.InodeApart", spec := "inodeApart", apart := false, narrowed := true }
def InodeApartUptoSaid : Prop := inodeApartUptoRow.holds Try.pinned (OpenSpec.upto inodeApartSpec)

/-- 'purlinlaw7.InodeSlots', WHERE WHAT IT READS IS OF BULK AT MOST 1048576: true; the input reads as it did. -/
def inodeSlotsUptoRow : OpenClaim := { program := "ythbdnaogjmnagaa", sum := "6b13c31188d06b2d23497f3382cb05083835edd72927c90bb7e01839fd04d54f", func := "purlin/purlinlaw7.InodeSlots", spec := "inodeSlots", apart := false, narrowed := true }
def InodeSlotsUptoSaid : Prop := inodeSlotsUptoRow.holds Try.pinned (OpenSpec.upto inodeSlotsSpec)

end Rows
end Go.Proofs.Ythbdnaogjmnagaa
