/-
  DERIVED. GIVEN WITH THE SEED: THE CARDS: each row of YtillhbbeghbfeaaDoorRows.lean that lists a variable, with what it lists TIED to the program's text (the seventh form; the later family's looks); each row that meets fmt, with fmt's text TOLD by the authors' own Lean function (tested against real Go, not proved from fmt's source: count such statements apart). THE CARD IS WHAT COUNTS. Prove the row's statement (the work); the ties are given (YtillhbbeghbfeaaDoorTie.lean); close each card by the builder's one call (the guide's Derived/Test/ToyasCard.lean, 'card_holds'). Laid BY PROGRAM, IN A SANDBOX (cutbox-door.mjs). By AI agents, Wed Nov 11 2026. No macro, syntax, notation, axiom, sorry.
-/
import Derived.Test.YtillhbbeghbfeaaDoorRows
import GoSem.ClaimSeven
namespace Go.Proofs.YtillhbbeghbfeaaDoor
namespace Rows

/-- THE TIED CARD OF 'purlinlaw1.ScoreShares'. -/
def scoreSharesCard : Claim7 := { stood := { row := scoreSharesRow, standIns := [], harness := (true, "a9edca9002047bc8df4ff1033bff23e509bf45724ee12fe2043613ed57cb1b9e"), looks := false }, kinds := [], alts := [], laidByText := true, laidKinds := [.data, .data, .data], laidTests := true, laidLooks := .later }
def ScoreSharesCardSaid : Prop := Claim7.holds Tryd.pinned (.plain (OpenSpec.ofChange scoreSharesSpec)) scoreSharesCard

/-- THE TIED CARD OF 'purlinlaw1.ScoreTexts'. -/
def scoreTextsCard : Claim7 := { stood := { row := scoreTextsRow, standIns := [], harness := (true, "a9edca9002047bc8df4ff1033bff23e509bf45724ee12fe2043613ed57cb1b9e"), looks := false }, kinds := [], alts := [], laidByText := true, laidKinds := [.data, .data, .data], laidTests := true, laidLooks := .later }
def ScoreTextsCardSaid : Prop := Claim7.holds Tryd.pinned (.plain (OpenSpec.ofChange scoreTextsSpec)) scoreTextsCard

/-- THE TIED CARD OF 'purlinlaw1.ScoreMeans'. -/
def scoreMeansCard : Claim7 := { stood := { row := scoreMeansRow, standIns := [], harness := (true, "a9edca9002047bc8df4ff1033bff23e509bf45724ee12fe2043613ed57cb1b9e"), looks := false }, kinds := [], alts := [], laidByText := true, laidKinds := [.data, .data, .data], laidTests := true, laidLooks := .later }
def ScoreMeansCardSaid : Prop := Claim7.holds Tryd.pinned (.plain (OpenSpec.ofChange scoreMeansSpec)) scoreMeansCard

/-- THE TIED CARD OF 'purlinlaw1.ScoreClamps'. -/
def scoreClampsCard : Claim7 := { stood := { row := scoreClampsRow, standIns := [], harness := (true, "a9edca9002047bc8df4ff1033bff23e509bf45724ee12fe2043613ed57cb1b9e"), looks := false }, kinds := [], alts := [], laidByText := true, laidKinds := [.data, .data, .data], laidTests := true, laidLooks := .later }
def ScoreClampsCardSaid : Prop := Claim7.holds Tryd.pinned (.plain (OpenSpec.ofChange scoreClampsSpec)) scoreClampsCard

/-- THE TIED CARD OF 'purlinlaw1.ScoreOrders'. -/
def scoreOrdersCard : Claim7 := { stood := { row := scoreOrdersRow, standIns := [], harness := (true, "a9edca9002047bc8df4ff1033bff23e509bf45724ee12fe2043613ed57cb1b9e"), looks := false }, kinds := [], alts := [], laidByText := true, laidKinds := [.data, .data, .data], laidTests := true, laidLooks := .later }
def ScoreOrdersCardSaid : Prop := Claim7.holds Tryd.pinned (.plain (OpenSpec.ofChange scoreOrdersSpec)) scoreOrdersCard

/-- THE TIED CARD OF 'purlinlaw1.ScoreBest'. -/
def scoreBestCard : Claim7 := { stood := { row := scoreBestRow, standIns := [], harness := (true, "a9edca9002047bc8df4ff1033bff23e509bf45724ee12fe2043613ed57cb1b9e"), looks := false }, kinds := [], alts := [], laidByText := true, laidKinds := [.data, .data, .data], laidTests := true, laidLooks := .later }
def ScoreBestCardSaid : Prop := Claim7.holds Tryd.pinned (.plain (OpenSpec.ofChange scoreBestSpec)) scoreBestCard

/-- THE TIED CARD OF 'purlinlaw1.ScorePlaces'. -/
def scorePlacesCard : Claim7 := { stood := { row := scorePlacesRow, standIns := [], harness := (true, "a9edca9002047bc8df4ff1033bff23e509bf45724ee12fe2043613ed57cb1b9e"), looks := false }, kinds := [], alts := [], laidByText := true, laidKinds := [.data, .data, .data], laidTests := true, laidLooks := .later }
def ScorePlacesCardSaid : Prop := Claim7.holds Tryd.pinned (.plain (OpenSpec.ofChange scorePlacesSpec)) scorePlacesCard

/-- THE TIED CARD OF 'purlinlaw1.ScoreTells'. -/
def scoreTellsCard : Claim7 := { stood := { row := scoreTellsRow, standIns := [], harness := (true, "a9edca9002047bc8df4ff1033bff23e509bf45724ee12fe2043613ed57cb1b9e"), looks := false }, kinds := [], alts := [], laidByText := true, laidKinds := [.data, .data, .data], laidTests := true, laidLooks := .later }
def ScoreTellsCardSaid : Prop := Claim7.holds Tryd.pinned (.plain (OpenSpec.ofChange scoreTellsSpec)) scoreTellsCard

/-- THE SECOND FORM's CARD OF 'purlinlaw1.ScoreShares'. -/
def scoreSharesUptoCard : Claim7 := { stood := { row := scoreSharesUptoRow, standIns := [], harness := (true, "a9edca9002047bc8df4ff1033bff23e509bf45724ee12fe2043613ed57cb1b9e"), looks := false }, kinds := [], alts := [], laidByText := true, laidKinds := [.data, .data, .data], laidTests := true, laidLooks := .later }
def ScoreSharesUptoCardSaid : Prop := Claim7.holds Tryd.pinned (.plain (OpenSpec.upto scoreSharesSpec)) scoreSharesUptoCard

/-- THE SECOND FORM's CARD OF 'purlinlaw1.ScoreTexts'. -/
def scoreTextsUptoCard : Claim7 := { stood := { row := scoreTextsUptoRow, standIns := [], harness := (true, "a9edca9002047bc8df4ff1033bff23e509bf45724ee12fe2043613ed57cb1b9e"), looks := false }, kinds := [], alts := [], laidByText := true, laidKinds := [.data, .data, .data], laidTests := true, laidLooks := .later }
def ScoreTextsUptoCardSaid : Prop := Claim7.holds Tryd.pinned (.plain (OpenSpec.upto scoreTextsSpec)) scoreTextsUptoCard

/-- THE SECOND FORM's CARD OF 'purlinlaw1.ScoreMeans'. -/
def scoreMeansUptoCard : Claim7 := { stood := { row := scoreMeansUptoRow, standIns := [], harness := (true, "a9edca9002047bc8df4ff1033bff23e509bf45724ee12fe2043613ed57cb1b9e"), looks := false }, kinds := [], alts := [], laidByText := true, laidKinds := [.data, .data, .data], laidTests := true, laidLooks := .later }
def ScoreMeansUptoCardSaid : Prop := Claim7.holds Tryd.pinned (.plain (OpenSpec.upto scoreMeansSpec)) scoreMeansUptoCard

/-- THE SECOND FORM's CARD OF 'purlinlaw1.ScoreClamps'. -/
def scoreClampsUptoCard : Claim7 := { stood := { row := scoreClampsUptoRow, standIns := [], harness := (true, "a9edca9002047bc8df4ff1033bff23e509bf45724ee12fe2043613ed57cb1b9e"), looks := false }, kinds := [], alts := [], laidByText := true, laidKinds := [.data, .data, .data], laidTests := true, laidLooks := .later }
def ScoreClampsUptoCardSaid : Prop := Claim7.holds Tryd.pinned (.plain (OpenSpec.upto scoreClampsSpec)) scoreClampsUptoCard

/-- THE SECOND FORM's CARD OF 'purlinlaw1.ScoreOrders'. -/
def scoreOrdersUptoCard : Claim7 := { stood := { row := scoreOrdersUptoRow, standIns := [], harness := (true, "a9edca9002047bc8df4ff1033bff23e509bf45724ee12fe2043613ed57cb1b9e"), looks := false }, kinds := [], alts := [], laidByText := true, laidKinds := [.data, .data, .data], laidTests := true, laidLooks := .later }
def ScoreOrdersUptoCardSaid : Prop := Claim7.holds Tryd.pinned (.plain (OpenSpec.upto scoreOrdersSpec)) scoreOrdersUptoCard

/-- THE SECOND FORM's CARD OF 'purlinlaw1.ScoreBest'. -/
def scoreBestUptoCard : Claim7 := { stood := { row := scoreBestUptoRow, standIns := [], harness := (true, "a9edca9002047bc8df4ff1033bff23e509bf45724ee12fe2043613ed57cb1b9e"), looks := false }, kinds := [], alts := [], laidByText := true, laidKinds := [.data, .data, .data], laidTests := true, laidLooks := .later }
def ScoreBestUptoCardSaid : Prop := Claim7.holds Tryd.pinned (.plain (OpenSpec.upto scoreBestSpec)) scoreBestUptoCard

/-- THE SECOND FORM's CARD OF 'purlinlaw1.ScorePlaces'. -/
def scorePlacesUptoCard : Claim7 := { stood := { row := scorePlacesUptoRow, standIns := [], harness := (true, "a9edca9002047bc8df4ff1033bff23e509bf45724ee12fe2043613ed57cb1b9e"), looks := false }, kinds := [], alts := [], laidByText := true, laidKinds := [.data, .data, .data], laidTests := true, laidLooks := .later }
def ScorePlacesUptoCardSaid : Prop := Claim7.holds Tryd.pinned (.plain (OpenSpec.upto scorePlacesSpec)) scorePlacesUptoCard

/-- THE SECOND FORM's CARD OF 'purlinlaw1.ScoreTells'. -/
def scoreTellsUptoCard : Claim7 := { stood := { row := scoreTellsUptoRow, standIns := [], harness := (true, "a9edca9002047bc8df4ff1033bff23e509bf45724ee12fe2043613ed57cb1b9e"), looks := false }, kinds := [], alts := [], laidByText := true, laidKinds := [.data, .data, .data], laidTests := true, laidLooks := .later }
def ScoreTellsUptoCardSaid : Prop := Claim7.holds Tryd.pinned (.plain (OpenSpec.upto scoreTellsSpec)) scoreTellsUptoCard
end Rows
end Go.Proofs.YtillhbbeghbfeaaDoor
