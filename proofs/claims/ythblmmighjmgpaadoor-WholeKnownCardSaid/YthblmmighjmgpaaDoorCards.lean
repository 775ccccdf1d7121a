/-
  DERIVED. GIVEN WITH THE SEED: THE CARDS: each row of YthblmmighjmgpaaDoorRows.lean that lists a variable, with what it lists TIED to the program's text (the seventh form; the later family's looks); each row that meets fmt, with fmt's text TOLD by the authors' own Lean function (tested against real Go, not proved from fmt's source: count such statements apart). THE CARD IS WHAT COUNTS. Prove the row's statement (the work); the ties are given (YthblmmighjmgpaaDoorTie.lean); close each card by the builder's one call (the guide's Derived/Test/ToyasCard.lean, 'card_holds'). Laid BY PROGRAM, IN A SANDBOX (cutbox-door.mjs). By AI agents, Wed Nov 11 2026. No macro, syntax, notation, axiom, sorry.
-/
import Derived.Test.YthblmmighjmgpaaDoorRows
import GoSem.ClaimSeven
namespace Go.Proofs.YthblmmighjmgpaaDoor
namespace Rows

/-- THE TIED CARD OF 'prompterlaw01.WholeMost'. -/
def wholeMostCard : Claim7 := { stood := { row := wholeMostRow, standIns := [], harness := (true, "03a64bcf1e8c3ccd37faf0dd03a883e697f203859bdd3925c8e8718ba233ca0b"), looks := true }, kinds := [], alts := [], laidByText := true, laidKinds := [.data, .data, .data], laidTests := true, laidLooks := .later }
def WholeMostCardSaid : Prop := Claim7.holds Tryd.pinned (.plain (OpenSpec.ofChange wholeMostSpec)) wholeMostCard

/-- THE TIED CARD OF 'prompterlaw01.WholeRises'. -/
def wholeRisesCard : Claim7 := { stood := { row := wholeRisesRow, standIns := [], harness := (true, "03a64bcf1e8c3ccd37faf0dd03a883e697f203859bdd3925c8e8718ba233ca0b"), looks := true }, kinds := [], alts := [], laidByText := true, laidKinds := [.data, .data, .data], laidTests := true, laidLooks := .later }
def WholeRisesCardSaid : Prop := Claim7.holds Tryd.pinned (.plain (OpenSpec.ofChange wholeRisesSpec)) wholeRisesCard

/-- THE TIED CARD OF 'prompterlaw01.WholeSums'. -/
def wholeSumsCard : Claim7 := { stood := { row := wholeSumsRow, standIns := [], harness := (true, "03a64bcf1e8c3ccd37faf0dd03a883e697f203859bdd3925c8e8718ba233ca0b"), looks := true }, kinds := [], alts := [], laidByText := true, laidKinds := [.data, .data, .data], laidTests := true, laidLooks := .later }
def WholeSumsCardSaid : Prop := Claim7.holds Tryd.pinned (.plain (OpenSpec.ofChange wholeSumsSpec)) wholeSumsCard

/-- THE TIED CARD OF 'prompterlaw01.WholeQuotients'. -/
def wholeQuotientsCard : Claim7 := { stood := { row := wholeQuotientsRow, standIns := [], harness := (true, "03a64bcf1e8c3ccd37faf0dd03a883e697f203859bdd3925c8e8718ba233ca0b"), looks := true }, kinds := [], alts := [], laidByText := true, laidKinds := [.data, .data, .data], laidTests := true, laidLooks := .later }
def WholeQuotientsCardSaid : Prop := Claim7.holds Tryd.pinned (.plain (OpenSpec.ofChange wholeQuotientsSpec)) wholeQuotientsCard

/-- THE TIED CARD OF 'prompterlaw01.WholeRests'. -/
def wholeRestsCard : Claim7 := { stood := { row := wholeRestsRow, standIns := [], harness := (true, "03a64bcf1e8c3ccd37faf0dd03a883e697f203859bdd3925c8e8718ba233ca0b"), looks := true }, kinds := [], alts := [], laidByText := true, laidKinds := [.data, .data, .data], laidTests := true, laidLooks := .later }
def WholeRestsCardSaid : Prop := Claim7.holds Tryd.pinned (.plain (OpenSpec.ofChange wholeRestsSpec)) wholeRestsCard

/-- THE TIED CARD OF 'prompterlaw01.WholeReads'. -/
def wholeReadsCard : Claim7 := { stood := { row := wholeReadsRow, standIns := [], harness := (true, "03a64bcf1e8c3ccd37faf0dd03a883e697f203859bdd3925c8e8718ba233ca0b"), looks := true }, kinds := [], alts := [], laidByText := true, laidKinds := [.data, .data, .data, .sentinel, .sentinel], laidTests := true, laidLooks := .later }
def WholeReadsCardSaid : Prop := Claim7.holds Tryd.pinned (.plain (OpenSpec.ofChange wholeReadsSpec)) wholeReadsCard

/-- THE TIED CARD OF 'prompterlaw01.WholeBack'. -/
def wholeBackCard : Claim7 := { stood := { row := wholeBackRow, standIns := [], harness := (true, "03a64bcf1e8c3ccd37faf0dd03a883e697f203859bdd3925c8e8718ba233ca0b"), looks := true }, kinds := [], alts := [], laidByText := true, laidKinds := [.data, .data, .data, .sentinel, .sentinel], laidTests := true, laidLooks := .later }
def WholeBackCardSaid : Prop := Claim7.holds Tryd.pinned (.plain (OpenSpec.ofChange wholeBackSpec)) wholeBackCard

/-- THE TIED CARD OF 'prompterlaw01.WholeKnown'. -/
def wholeKnownCard : Claim7 := { stood := { row := wholeKnownRow, standIns := [], harness := (true, "03a64bcf1e8c3ccd37faf0dd03a883e697f203859bdd3925c8e8718ba233ca0b"), looks := true }, kinds := [], alts := [], laidByText := true, laidKinds := [.data, .data, .data, .sentinel, .sentinel], laidTests := true, laidLooks := .later }
def WholeKnownCardSaid : Prop := Claim7.holds Tryd.pinned (.plain (OpenSpec.ofChange wholeKnownSpec)) wholeKnownCard

/-- THE SECOND FORM's CARD OF 'prompterlaw01.WholeMost'. -/
def wholeMostUptoCard : Claim7 := { stood := { row := wholeMostUptoRow, standIns := [], harness := (true, "03a64bcf1e8c3ccd37faf0dd03a883e697f203859bdd3925c8e8718ba233ca0b"), looks := true }, kinds := [], alts := [], laidByText := true, laidKinds := [.data, .data, .data], laidTests := true, laidLooks := .later }
def WholeMostUptoCardSaid : Prop := Claim7.holds Tryd.pinned (.plain (OpenSpec.upto wholeMostSpec)) wholeMostUptoCard

/-- THE SECOND FORM's CARD OF 'prompterlaw01.WholeRises'. -/
def wholeRisesUptoCard : Claim7 := { stood := { row := wholeRisesUptoRow, standIns := [], harness := (true, "03a64bcf1e8c3ccd37faf0dd03a883e697f203859bdd3925c8e8718ba233ca0b"), looks := true }, kinds := [], alts := [], laidByText := true, laidKinds := [.data, .data, .data], laidTests := true, laidLooks := .later }
def WholeRisesUptoCardSaid : Prop := Claim7.holds Tryd.pinned (.plain (OpenSpec.upto wholeRisesSpec)) wholeRisesUptoCard

/-- THE SECOND FORM's CARD OF 'prompterlaw01.WholeSums'. -/
def wholeSumsUptoCard : Claim7 := { stood := { row := wholeSumsUptoRow, standIns := [], harness := (true, "03a64bcf1e8c3ccd37faf0dd03a883e697f203859bdd3925c8e8718ba233ca0b"), looks := true }, kinds := [], alts := [], laidByText := true, laidKinds := [.data, .data, .data], laidTests := true, laidLooks := .later }
def WholeSumsUptoCardSaid : Prop := Claim7.holds Tryd.pinned (.plain (OpenSpec.upto wholeSumsSpec)) wholeSumsUptoCard

/-- THE SECOND FORM's CARD OF 'prompterlaw01.WholeQuotients'. -/
def wholeQuotientsUptoCard : Claim7 := { stood := { row := wholeQuotientsUptoRow, standIns := [], harness := (true, "03a64bcf1e8c3ccd37faf0dd03a883e697f203859bdd3925c8e8718ba233ca0b"), looks := true }, kinds := [], alts := [], laidByText := true, laidKinds := [.data, .data, .data], laidTests := true, laidLooks := .later }
def WholeQuotientsUptoCardSaid : Prop := Claim7.holds Tryd.pinned (.plain (OpenSpec.upto wholeQuotientsSpec)) wholeQuotientsUptoCard

/-- THE SECOND FORM's CARD OF 'prompterlaw01.WholeRests'. -/
def wholeRestsUptoCard : Claim7 := { stood := { row := wholeRestsUptoRow, standIns := [], harness := (true, "03a64bcf1e8c3ccd37faf0dd03a883e697f203859bdd3925c8e8718ba233ca0b"), looks := true }, kinds := [], alts := [], laidByText := true, laidKinds := [.data, .data, .data], laidTests := true, laidLooks := .later }
def WholeRestsUptoCardSaid : Prop := Claim7.holds Tryd.pinned (.plain (OpenSpec.upto wholeRestsSpec)) wholeRestsUptoCard

/-- THE SECOND FORM's CARD OF 'prompterlaw01.WholeReads'. -/
def wholeReadsUptoCard : Claim7 := { stood := { row := wholeReadsUptoRow, standIns := [], harness := (true, "03a64bcf1e8c3ccd37faf0dd03a883e697f203859bdd3925c8e8718ba233ca0b"), looks := true }, kinds := [], alts := [], laidByText := true, laidKinds := [.data, .data, .data, .sentinel, .sentinel], laidTests := true, laidLooks := .later }
def WholeReadsUptoCardSaid : Prop := Claim7.holds Tryd.pinned (.plain (OpenSpec.upto wholeReadsSpec)) wholeReadsUptoCard

/-- THE SECOND FORM's CARD OF 'prompterlaw01.WholeBack'. -/
def wholeBackUptoCard : Claim7 := { stood := { row := wholeBackUptoRow, standIns := [], harness := (true, "03a64bcf1e8c3ccd37faf0dd03a883e697f203859bdd3925c8e8718ba233ca0b"), looks := true }, kinds := [], alts := [], laidByText := true, laidKinds := [.data, .data, .data, .sentinel, .sentinel], laidTests := true, laidLooks := .later }
def WholeBackUptoCardSaid : Prop := Claim7.holds Tryd.pinned (.plain (OpenSpec.upto wholeBackSpec)) wholeBackUptoCard

/-- THE SECOND FORM's CARD OF 'prompterlaw01.WholeKnown'. -/
def wholeKnownUptoCard : Claim7 := { stood := { row := wholeKnownUptoRow, standIns := [], harness := (true, "03a64bcf1e8c3ccd37faf0dd03a883e697f203859bdd3925c8e8718ba233ca0b"), looks := true }, kinds := [], alts := [], laidByText := true, laidKinds := [.data, .data, .data, .sentinel, .sentinel], laidTests := true, laidLooks := .later }
def WholeKnownUptoCardSaid : Prop := Claim7.holds Tryd.pinned (.plain (OpenSpec.upto wholeKnownSpec)) wholeKnownUptoCard
end Rows
end Go.Proofs.YthblmmighjmgpaaDoor
