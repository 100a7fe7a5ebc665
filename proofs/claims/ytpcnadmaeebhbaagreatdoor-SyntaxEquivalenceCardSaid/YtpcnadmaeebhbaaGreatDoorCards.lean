/-
  DERIVED. GIVEN WITH THE SEED: THE CARDS: each row of YtpcnadmaeebhbaaGreatDoorRows.lean that lists a variable, with what it lists TIED to the program's text (the seventh form; the later family's looks); each row that meets fmt, with fmt's text TOLD by the authors' own Lean function (tested against real Go, not proved from fmt's source: count such statements apart). THE CARD IS WHAT COUNTS. Prove the row's statement (the work); the ties are given (YtpcnadmaeebhbaaGreatDoorTie.lean); close each card by the builder's one call (the guide's Derived/Test/ToyasCard.lean, 'card_holds'). Laid BY PROGRAM, IN A SANDBOX (cutbox-door.mjs). By AI agents, Wed Nov 11 2026. No macro, syntax, notation, axiom, sorry.
-/
import Derived.Test.YtpcnadmaeebhbaaGreatDoorRows
import GoSem.ClaimSeven
namespace Go.Proofs.YtpcnadmaeebhbaaGreatDoor
namespace Rows

/-- THE TIED CARD OF 'configlanglaw25.SyntaxCheck'. -/
def syntaxCheckCard : Claim7 := { stood := { row := syntaxCheckRow, standIns := [], harness := (true, "472405fcb0d3ed31300e112fa142e3a546abe20a3dcfb52d261bf7a4dc75c680"), looks := true }, kinds := [], alts := [], laidByText := true, laidKinds := [.data, .pinned], laidTests := true, laidLooks := .later }
def SyntaxCheckCardSaid : Prop := Claim7.holds Tryz.pinned (.plain (OpenSpec.ofChange syntaxCheckSpec)) syntaxCheckCard

/-- THE TIED CARD OF 'configlanglaw25.SyntaxCheckExpr'. -/
def syntaxCheckExprCard : Claim7 := { stood := { row := syntaxCheckExprRow, standIns := [], harness := (true, "472405fcb0d3ed31300e112fa142e3a546abe20a3dcfb52d261bf7a4dc75c680"), looks := true }, kinds := [], alts := [], laidByText := true, laidKinds := [.data, .pinned], laidTests := true, laidLooks := .later }
def SyntaxCheckExprCardSaid : Prop := Claim7.holds Tryz.pinned (.plain (OpenSpec.ofChange syntaxCheckExprSpec)) syntaxCheckExprCard

/-- THE TIED CARD OF 'configlanglaw25.SyntaxEqual'. -/
def syntaxEqualCard : Claim7 := { stood := { row := syntaxEqualRow, standIns := [], harness := (true, "472405fcb0d3ed31300e112fa142e3a546abe20a3dcfb52d261bf7a4dc75c680"), looks := true }, kinds := [], alts := [], laidByText := true, laidKinds := [.data, .pinned], laidTests := true, laidLooks := .later }
def SyntaxEqualCardSaid : Prop := Claim7.holds Tryz.pinned (.plain (OpenSpec.ofChange syntaxEqualSpec)) syntaxEqualCard

/-- THE TIED CARD OF 'configlanglaw25.SyntaxWalk'. -/
def syntaxWalkCard : Claim7 := { stood := { row := syntaxWalkRow, standIns := [], harness := (true, "472405fcb0d3ed31300e112fa142e3a546abe20a3dcfb52d261bf7a4dc75c680"), looks := true }, kinds := [], alts := [], laidByText := true, laidKinds := [.data, .pinned], laidTests := true, laidLooks := .later }
def SyntaxWalkCardSaid : Prop := Claim7.holds Tryz.pinned (.plain (OpenSpec.ofChange syntaxWalkSpec)) syntaxWalkCard

/-- THE TIED CARD OF 'configlanglaw25.SyntaxLaws'. -/
def syntaxLawsCard : Claim7 := { stood := { row := syntaxLawsRow, standIns := [], harness := (true, "472405fcb0d3ed31300e112fa142e3a546abe20a3dcfb52d261bf7a4dc75c680"), looks := true }, kinds := [], alts := [], laidByText := true, laidKinds := [.data, .pinned], laidTests := true, laidLooks := .later }
def SyntaxLawsCardSaid : Prop := Claim7.holds Tryz.pinned (.plain (OpenSpec.ofChange syntaxLawsSpec)) syntaxLawsCard

/-- THE TIED CARD OF 'configlanglaw25.SyntaxEquivalence'. -/
def syntaxEquivalenceCard : Claim7 := { stood := { row := syntaxEquivalenceRow, standIns := [], harness := (true, "472405fcb0d3ed31300e112fa142e3a546abe20a3dcfb52d261bf7a4dc75c680"), looks := true }, kinds := [], alts := [], laidByText := true, laidKinds := [.data, .pinned], laidTests := true, laidLooks := .later }
def SyntaxEquivalenceCardSaid : Prop := Claim7.holds Tryz.pinned (.plain (OpenSpec.ofChange syntaxEquivalenceSpec)) syntaxEquivalenceCard

/-- THE TIED CARD OF 'configlanglaw25.SyntaxDepth'. -/
def syntaxDepthCard : Claim7 := { stood := { row := syntaxDepthRow, standIns := [], harness := (true, "472405fcb0d3ed31300e112fa142e3a546abe20a3dcfb52d261bf7a4dc75c680"), looks := true }, kinds := [], alts := [], laidByText := true, laidKinds := [.data, .pinned], laidTests := true, laidLooks := .later }
def SyntaxDepthCardSaid : Prop := Claim7.holds Tryz.pinned (.plain (OpenSpec.ofChange syntaxDepthSpec)) syntaxDepthCard

/-- THE TIED CARD OF 'configlanglaw25.SyntaxParts'. -/
def syntaxPartsCard : Claim7 := { stood := { row := syntaxPartsRow, standIns := [], harness := (true, "472405fcb0d3ed31300e112fa142e3a546abe20a3dcfb52d261bf7a4dc75c680"), looks := true }, kinds := [], alts := [], laidByText := true, laidKinds := [.data, .pinned], laidTests := true, laidLooks := .later }
def SyntaxPartsCardSaid : Prop := Claim7.holds Tryz.pinned (.plain (OpenSpec.ofChange syntaxPartsSpec)) syntaxPartsCard

/-- THE TIED CARD OF 'configlanglaw25.SyntaxStrip'. -/
def syntaxStripCard : Claim7 := { stood := { row := syntaxStripRow, standIns := [], harness := (true, "472405fcb0d3ed31300e112fa142e3a546abe20a3dcfb52d261bf7a4dc75c680"), looks := true }, kinds := [], alts := [], laidByText := true, laidKinds := [.data, .pinned], laidTests := true, laidLooks := .later }
def SyntaxStripCardSaid : Prop := Claim7.holds Tryz.pinned (.plain (OpenSpec.ofChange syntaxStripSpec)) syntaxStripCard

/-- THE SECOND FORM's CARD OF 'configlanglaw25.SyntaxCheck'. -/
def syntaxCheckUptoCard : Claim7 := { stood := { row := syntaxCheckUptoRow, standIns := [], harness := (true, "472405fcb0d3ed31300e112fa142e3a546abe20a3dcfb52d261bf7a4dc75c680"), looks := true }, kinds := [], alts := [], laidByText := true, laidKinds := [.data, .pinned], laidTests := true, laidLooks := .later }
def SyntaxCheckUptoCardSaid : Prop := Claim7.holds Tryz.pinned (.plain (OpenSpec.upto syntaxCheckSpec)) syntaxCheckUptoCard

/-- THE SECOND FORM's CARD OF 'configlanglaw25.SyntaxCheckExpr'. -/
def syntaxCheckExprUptoCard : Claim7 := { stood := { row := syntaxCheckExprUptoRow, standIns := [], harness := (true, "472405fcb0d3ed31300e112fa142e3a546abe20a3dcfb52d261bf7a4dc75c680"), looks := true }, kinds := [], alts := [], laidByText := true, laidKinds := [.data, .pinned], laidTests := true, laidLooks := .later }
def SyntaxCheckExprUptoCardSaid : Prop := Claim7.holds Tryz.pinned (.plain (OpenSpec.upto syntaxCheckExprSpec)) syntaxCheckExprUptoCard

/-- THE SECOND FORM's CARD OF 'configlanglaw25.SyntaxEqual'. -/
def syntaxEqualUptoCard : Claim7 := { stood := { row := syntaxEqualUptoRow, standIns := [], harness := (true, "472405fcb0d3ed31300e112fa142e3a546abe20a3dcfb52d261bf7a4dc75c680"), looks := true }, kinds := [], alts := [], laidByText := true, laidKinds := [.data, .pinned], laidTests := true, laidLooks := .later }
def SyntaxEqualUptoCardSaid : Prop := Claim7.holds Tryz.pinned (.plain (OpenSpec.upto syntaxEqualSpec)) syntaxEqualUptoCard

/-- THE SECOND FORM's CARD OF 'configlanglaw25.SyntaxWalk'. -/
def syntaxWalkUptoCard : Claim7 := { stood := { row := syntaxWalkUptoRow, standIns := [], harness := (true, "472405fcb0d3ed31300e112fa142e3a546abe20a3dcfb52d261bf7a4dc75c680"), looks := true }, kinds := [], alts := [], laidByText := true, laidKinds := [.data, .pinned], laidTests := true, laidLooks := .later }
def SyntaxWalkUptoCardSaid : Prop := Claim7.holds Tryz.pinned (.plain (OpenSpec.upto syntaxWalkSpec)) syntaxWalkUptoCard

/-- THE SECOND FORM's CARD OF 'configlanglaw25.SyntaxLaws'. -/
def syntaxLawsUptoCard : Claim7 := { stood := { row := syntaxLawsUptoRow, standIns := [], harness := (true, "472405fcb0d3ed31300e112fa142e3a546abe20a3dcfb52d261bf7a4dc75c680"), looks := true }, kinds := [], alts := [], laidByText := true, laidKinds := [.data, .pinned], laidTests := true, laidLooks := .later }
def SyntaxLawsUptoCardSaid : Prop := Claim7.holds Tryz.pinned (.plain (OpenSpec.upto syntaxLawsSpec)) syntaxLawsUptoCard

/-- THE SECOND FORM's CARD OF 'configlanglaw25.SyntaxEquivalence'. -/
def syntaxEquivalenceUptoCard : Claim7 := { stood := { row := syntaxEquivalenceUptoRow, standIns := [], harness := (true, "472405fcb0d3ed31300e112fa142e3a546abe20a3dcfb52d261bf7a4dc75c680"), looks := true }, kinds := [], alts := [], laidByText := true, laidKinds := [.data, .pinned], laidTests := true, laidLooks := .later }
def SyntaxEquivalenceUptoCardSaid : Prop := Claim7.holds Tryz.pinned (.plain (OpenSpec.upto syntaxEquivalenceSpec)) syntaxEquivalenceUptoCard

/-- THE SECOND FORM's CARD OF 'configlanglaw25.SyntaxDepth'. -/
def syntaxDepthUptoCard : Claim7 := { stood := { row := syntaxDepthUptoRow, standIns := [], harness := (true, "472405fcb0d3ed31300e112fa142e3a546abe20a3dcfb52d261bf7a4dc75c680"), looks := true }, kinds := [], alts := [], laidByText := true, laidKinds := [.data, .pinned], laidTests := true, laidLooks := .later }
def SyntaxDepthUptoCardSaid : Prop := Claim7.holds Tryz.pinned (.plain (OpenSpec.upto syntaxDepthSpec)) syntaxDepthUptoCard

/-- THE SECOND FORM's CARD OF 'configlanglaw25.SyntaxParts'. -/
def syntaxPartsUptoCard : Claim7 := { stood := { row := syntaxPartsUptoRow, standIns := [], harness := (true, "472405fcb0d3ed31300e112fa142e3a546abe20a3dcfb52d261bf7a4dc75c680"), looks := true }, kinds := [], alts := [], laidByText := true, laidKinds := [.data, .pinned], laidTests := true, laidLooks := .later }
def SyntaxPartsUptoCardSaid : Prop := Claim7.holds Tryz.pinned (.plain (OpenSpec.upto syntaxPartsSpec)) syntaxPartsUptoCard

/-- THE SECOND FORM's CARD OF 'configlanglaw25.SyntaxStrip'. -/
def syntaxStripUptoCard : Claim7 := { stood := { row := syntaxStripUptoRow, standIns := [], harness := (true, "472405fcb0d3ed31300e112fa142e3a546abe20a3dcfb52d261bf7a4dc75c680"), looks := true }, kinds := [], alts := [], laidByText := true, laidKinds := [.data, .pinned], laidTests := true, laidLooks := .later }
def SyntaxStripUptoCardSaid : Prop := Claim7.holds Tryz.pinned (.plain (OpenSpec.upto syntaxStripSpec)) syntaxStripUptoCard
end Rows
end Go.Proofs.YtpcnadmaeebhbaaGreatDoor
