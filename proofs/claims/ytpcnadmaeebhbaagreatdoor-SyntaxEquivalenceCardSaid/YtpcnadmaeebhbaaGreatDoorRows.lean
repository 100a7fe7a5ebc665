/-
  NARROWER THAN 'FOR EVERY INPUT', by the rows' own cells (each row's printed sentence says how): SyntaxCheck: loops, laid · SyntaxCheckExpr: loops, laid · SyntaxEqual: loops, laid · SyntaxWalk: loops, laid · SyntaxLaws: loops, laid · SyntaxEquivalence: loops, laid · SyntaxDepth: laid · SyntaxParts: loops, laid · SyntaxStrip: loops, laid.
  DERIVED. THE GIVEN ROWS OF THIS SEAT. 9 by the template 'for every input the law returns true; each argument reads behind the call as it read before'; 0 by the template 'total and deterministic' (their statements: YtpcnadmaeebhbaaGreatDoorTotals.lean).
  GIVEN WITH THE SEED: the statements are not yours to turn. If you find one false, say at which input.
  Laid BY PROGRAM, IN A SANDBOX (cutbox-rows.mjs): the forced cells as the released guide's own fill.sh prints them over the translation af4e5e73f42c10ee… (all of the seat's roots in one cut). By AI agents, Wed Nov 11 2026. No macro, syntax, notation, axiom, sorry.
-/
import Derived.Test.YtpcnadmaeebhbaaGreatDoorChecked
import GoSem.PinnedTables
import GoSem.Claim
import GoSem.ClaimJoined
import GoSem.ClaimMapViews
import Derived.JoinedTies
import Derived.KernelRfl
namespace Go.Proofs.YtpcnadmaeebhbaaGreatDoor
/- THE CELL 'sum', in the pinned program and in every row, IS THE sha256 OF THE DUMP (.gsa) THAT YtpcnadmaeebhbaaGreatDoorProg.lean LOADS. Nothing in Lean hashes anything: it is a label: what it is worth is what the hold of that sum in a sandbox is worth. -/
noncomputable def Tryz.pinned : Pinned := { name := "ytpcnadmaeebhbaagreatdoor", sum := "af4e5e73f42c10eeeb5e1d3d741044a30f79d687db46b70a8c7be7ea8436e83f", checked := Tryz.checked }
namespace Rows
def none {H : Type} : Left H := { results := [], args := [] }

/- WHAT THE LISTED PACKAGE-LEVEL VARIABLES READ AS WHEN THE CALL BEGINS. Each datum BY PROGRAM (the guide's laid-datum.mjs) off the statement by which the dump's own 'gosem.cut.vars' lays the variable. In a bare row this is a premise. The card (YtpcnadmaeebhbaaGreatDoorCards.lean) ties it to the program's text. -/
def laid_unicode_utf8_acceptRanges {H : Type} : DataW H := .agg [.agg [.lit (.int .u8 128), .lit (.int .u8 191)], .agg [.lit (.int .u8 160), .lit (.int .u8 191)], .agg [.lit (.int .u8 128), .lit (.int .u8 159)], .agg [.lit (.int .u8 144), .lit (.int .u8 191)], .agg [.lit (.int .u8 128), .lit (.int .u8 143)], .agg [.lit (.int .u8 0), .lit (.int .u8 0)], .agg [.lit (.int .u8 0), .lit (.int .u8 0)], .agg [.lit (.int .u8 0), .lit (.int .u8 0)], .agg [.lit (.int .u8 0), .lit (.int .u8 0)], .agg [.lit (.int .u8 0), .lit (.int .u8 0)], .agg [.lit (.int .u8 0), .lit (.int .u8 0)], .agg [.lit (.int .u8 0), .lit (.int .u8 0)], .agg [.lit (.int .u8 0), .lit (.int .u8 0)], .agg [.lit (.int .u8 0), .lit (.int .u8 0)], .agg [.lit (.int .u8 0), .lit (.int .u8 0)], .agg [.lit (.int .u8 0), .lit (.int .u8 0)]]
/-- One of Go's own tables, pinned by name: the form's constant. -/
def laid_unicode_utf8_first : DataW Unit := Go.Pinned.utf8First

/-- 'configlanglaw25.SyntaxCheck': WHATEVER THE INPUT: true; the input reads as it did. -/
def syntaxCheckSpec : ChangeSpec := { name := "syntaxCheck", fn := fun _ => fun
  | [d] => { results := [.lit (.bool true)], args := [d] }
  | _ => none }
def syntaxCheckRow : OpenClaim := { program := "ytpcnadmaeebhbaagreatdoor", sum := "af4e5e73f42c10eeeb5e1d3d741044a30f79d687db46b70a8c7be7ea8436e83f", func := "configlang/configlanglaw25.SyntaxCheck", spec := "syntaxCheck", inPlace := ["internal/bytealg.IndexByteString", "internal/bytealg.IndexString", "internal/bytealg.CountString"], unfollowed := true, recurses := true, named := ["internal/bytealg.MaxLen", "unicode/utf8.first", "unicode/utf8.acceptRanges"], loops := true, apart := false, laid := [("unicode/utf8.acceptRanges", laid_unicode_utf8_acceptRanges), ("unicode/utf8.first", laid_unicode_utf8_first)] }
def SyntaxCheckSaid : Prop := syntaxCheckRow.holds Tryz.pinned (OpenSpec.ofChange syntaxCheckSpec)

/-- ITS FALSE NEIGHBOUR: 'it returns false'. Refute it at one input. -/
def syntaxCheckWrong : ChangeSpec := { name := "syntaxCheck", fn := fun _ => fun
  | [d] => { results := [.lit (.bool false)], args := [d] }
  | _ => none }
def SyntaxCheckWrongFalsely : Prop := syntaxCheckRow.holds Tryz.pinned (OpenSpec.ofChange syntaxCheckWrong)

/-- 'configlanglaw25.SyntaxCheckExpr': WHATEVER THE INPUT: true; the input reads as it did. -/
def syntaxCheckExprSpec : ChangeSpec := { name := "syntaxCheckExpr", fn := fun _ => fun
  | [d] => { results := [.lit (.bool true)], args := [d] }
  | _ => none }
def syntaxCheckExprRow : OpenClaim := { program := "ytpcnadmaeebhbaagreatdoor", sum := "af4e5e73f42c10eeeb5e1d3d741044a30f79d687db46b70a8c7be7ea8436e83f", func := "configlang/configlanglaw25.SyntaxCheckExpr", spec := "syntaxCheckExpr", inPlace := ["internal/bytealg.IndexByteString", "internal/bytealg.IndexString", "internal/bytealg.CountString"], unfollowed := true, recurses := true, named := ["internal/bytealg.MaxLen", "unicode/utf8.first", "unicode/utf8.acceptRanges"], loops := true, apart := false, laid := [("unicode/utf8.acceptRanges", laid_unicode_utf8_acceptRanges), ("unicode/utf8.first", laid_unicode_utf8_first)] }
def SyntaxCheckExprSaid : Prop := syntaxCheckExprRow.holds Tryz.pinned (OpenSpec.ofChange syntaxCheckExprSpec)

/-- ITS FALSE NEIGHBOUR: 'it returns false'. Refute it at one input. -/
def syntaxCheckExprWrong : ChangeSpec := { name := "syntaxCheckExpr", fn := fun _ => fun
  | [d] => { results := [.lit (.bool false)], args := [d] }
  | _ => none }
def SyntaxCheckExprWrongFalsely : Prop := syntaxCheckExprRow.holds Tryz.pinned (OpenSpec.ofChange syntaxCheckExprWrong)

/-- 'configlanglaw25.SyntaxEqual': WHATEVER THE INPUT: true; the input reads as it did. -/
def syntaxEqualSpec : ChangeSpec := { name := "syntaxEqual", fn := fun _ => fun
  | [d1, d2, d3] => { results := [.lit (.bool true)], args := [d1, d2, d3] }
  | _ => none }
def syntaxEqualRow : OpenClaim := { program := "ytpcnadmaeebhbaagreatdoor", sum := "af4e5e73f42c10eeeb5e1d3d741044a30f79d687db46b70a8c7be7ea8436e83f", func := "configlang/configlanglaw25.SyntaxEqual", spec := "syntaxEqual", inPlace := ["internal/bytealg.IndexByteString", "internal/bytealg.IndexString", "internal/bytealg.CountString"], unfollowed := true, recurses := true, named := ["internal/bytealg.MaxLen", "unicode/utf8.first", "unicode/utf8.acceptRanges"], loops := true, apart := false, laid := [("unicode/utf8.acceptRanges", laid_unicode_utf8_acceptRanges), ("unicode/utf8.first", laid_unicode_utf8_first)] }
def SyntaxEqualSaid : Prop := syntaxEqualRow.holds Tryz.pinned (OpenSpec.ofChange syntaxEqualSpec)

/-- ITS FALSE NEIGHBOUR: 'it returns false'. Refute it at one input. -/
def syntaxEqualWrong : ChangeSpec := { name := "syntaxEqual", fn := fun _ => fun
  | [d1, d2, d3] => { results := [.lit (.bool false)], args := [d1, d2, d3] }
  | _ => none }
def SyntaxEqualWrongFalsely : Prop := syntaxEqualRow.holds Tryz.pinned (OpenSpec.ofChange syntaxEqualWrong)

/-- 'configlanglaw25.SyntaxWalk': WHATEVER THE INPUT: true; the input reads as it did. -/
def syntaxWalkSpec : ChangeSpec := { name := "syntaxWalk", fn := fun _ => fun
  | [d] => { results := [.lit (.bool true)], args := [d] }
  | _ => none }
def syntaxWalkRow : OpenClaim := { program := "ytpcnadmaeebhbaagreatdoor", sum := "af4e5e73f42c10eeeb5e1d3d741044a30f79d687db46b70a8c7be7ea8436e83f", func := "configlang/configlanglaw25.SyntaxWalk", spec := "syntaxWalk", inPlace := ["internal/bytealg.IndexByteString", "internal/bytealg.IndexString", "internal/bytealg.CountString"], unfollowed := true, recurses := true, named := ["internal/bytealg.MaxLen", "unicode/utf8.first", "unicode/utf8.acceptRanges"], loops := true, apart := false, laid := [("unicode/utf8.acceptRanges", laid_unicode_utf8_acceptRanges), ("unicode/utf8.first", laid_unicode_utf8_first)] }
def SyntaxWalkSaid : Prop := syntaxWalkRow.holds Tryz.pinned (OpenSpec.ofChange syntaxWalkSpec)

/-- ITS FALSE NEIGHBOUR: 'it returns false'. Refute it at one input. -/
def syntaxWalkWrong : ChangeSpec := { name := "syntaxWalk", fn := fun _ => fun
  | [d] => { results := [.lit (.bool false)], args := [d] }
  | _ => none }
def SyntaxWalkWrongFalsely : Prop := syntaxWalkRow.holds Tryz.pinned (OpenSpec.ofChange syntaxWalkWrong)

/-- 'configlanglaw25.SyntaxLaws': WHATEVER THE INPUT: true; the input reads as it did. -/
def syntaxLawsSpec : ChangeSpec := { name := "syntaxLaws", fn := fun _ => fun
  | [d] => { results := [.lit (.bool true)], args := [d] }
  | _ => none }
def syntaxLawsRow : OpenClaim := { program := "ytpcnadmaeebhbaagreatdoor", sum := "af4e5e73f42c10eeeb5e1d3d741044a30f79d687db46b70a8c7be7ea8436e83f", func := "configlang/configlanglaw25.SyntaxLaws", spec := "syntaxLaws", inPlace := ["internal/bytealg.IndexByteString", "internal/bytealg.IndexString", "internal/bytealg.CountString"], unfollowed := true, recurses := true, named := ["internal/bytealg.MaxLen", "unicode/utf8.first", "unicode/utf8.acceptRanges"], loops := true, apart := false, laid := [("unicode/utf8.acceptRanges", laid_unicode_utf8_acceptRanges), ("unicode/utf8.first", laid_unicode_utf8_first)] }
def SyntaxLawsSaid : Prop := syntaxLawsRow.holds Tryz.pinned (OpenSpec.ofChange syntaxLawsSpec)

/-- ITS FALSE NEIGHBOUR: 'it returns false'. Refute it at one input. -/
def syntaxLawsWrong : ChangeSpec := { name := "syntaxLaws", fn := fun _ => fun
  | [d] => { results := [.lit (.bool false)], args := [d] }
  | _ => none }
def SyntaxLawsWrongFalsely : Prop := syntaxLawsRow.holds Tryz.pinned (OpenSpec.ofChange syntaxLawsWrong)

/-- 'configlanglaw25.SyntaxEquivalence': WHATEVER THE INPUT: true; the input reads as it did. -/
def syntaxEquivalenceSpec : ChangeSpec := { name := "syntaxEquivalence", fn := fun _ => fun
  | [d1, d2, d3] => { results := [.lit (.bool true)], args := [d1, d2, d3] }
  | _ => none }
def syntaxEquivalenceRow : OpenClaim := { program := "ytpcnadmaeebhbaagreatdoor", sum := "af4e5e73f42c10eeeb5e1d3d741044a30f79d687db46b70a8c7be7ea8436e83f", func := "configlang/configlanglaw25.SyntaxEquivalence", spec := "syntaxEquivalence", inPlace := ["internal/bytealg.IndexByteString", "internal/bytealg.IndexString", "internal/bytealg.CountString"], unfollowed := true, recurses := true, named := ["internal/bytealg.MaxLen", "unicode/utf8.first", "unicode/utf8.acceptRanges"], loops := true, apart := false, laid := [("unicode/utf8.acceptRanges", laid_unicode_utf8_acceptRanges), ("unicode/utf8.first", laid_unicode_utf8_first)] }
def SyntaxEquivalenceSaid : Prop := syntaxEquivalenceRow.holds Tryz.pinned (OpenSpec.ofChange syntaxEquivalenceSpec)

/-- ITS FALSE NEIGHBOUR: 'it returns false'. Refute it at one input. -/
def syntaxEquivalenceWrong : ChangeSpec := { name := "syntaxEquivalence", fn := fun _ => fun
  | [d1, d2, d3] => { results := [.lit (.bool false)], args := [d1, d2, d3] }
  | _ => none }
def SyntaxEquivalenceWrongFalsely : Prop := syntaxEquivalenceRow.holds Tryz.pinned (OpenSpec.ofChange syntaxEquivalenceWrong)

/-- 'configlanglaw25.SyntaxDepth': WHATEVER THE INPUT: true; the input reads as it did. -/
def syntaxDepthSpec : ChangeSpec := { name := "syntaxDepth", fn := fun _ => fun
  | [d1, d2] => { results := [.lit (.bool true)], args := [d1, d2] }
  | _ => none }
def syntaxDepthRow : OpenClaim := { program := "ytpcnadmaeebhbaagreatdoor", sum := "af4e5e73f42c10eeeb5e1d3d741044a30f79d687db46b70a8c7be7ea8436e83f", func := "configlang/configlanglaw25.SyntaxDepth", spec := "syntaxDepth", inPlace := ["internal/bytealg.IndexByteString", "internal/bytealg.IndexString", "internal/bytealg.CountString"], unfollowed := true, recurses := true, named := ["internal/bytealg.MaxLen", "unicode/utf8.first", "unicode/utf8.acceptRanges"], apart := false, laid := [("unicode/utf8.acceptRanges", laid_unicode_utf8_acceptRanges), ("unicode/utf8.first", laid_unicode_utf8_first)] }
def SyntaxDepthSaid : Prop := syntaxDepthRow.holds Tryz.pinned (OpenSpec.ofChange syntaxDepthSpec)

/-- ITS FALSE NEIGHBOUR: 'it returns false'. Refute it at one input. -/
def syntaxDepthWrong : ChangeSpec := { name := "syntaxDepth", fn := fun _ => fun
  | [d1, d2] => { results := [.lit (.bool false)], args := [d1, d2] }
  | _ => none }
def SyntaxDepthWrongFalsely : Prop := syntaxDepthRow.holds Tryz.pinned (OpenSpec.ofChange syntaxDepthWrong)

/-- 'configlanglaw25.SyntaxParts': WHATEVER THE INPUT: true; the input reads as it did. -/
def syntaxPartsSpec : ChangeSpec := { name := "syntaxParts", fn := fun _ => fun
  | [d1, d2] => { results := [.lit (.bool true)], args := [d1, d2] }
  | _ => none }
def syntaxPartsRow : OpenClaim := { program := "ytpcnadmaeebhbaagreatdoor", sum := "af4e5e73f42c10eeeb5e1d3d741044a30f79d687db46b70a8c7be7ea8436e83f", func := "configlang/configlanglaw25.SyntaxParts", spec := "syntaxParts", inPlace := ["internal/bytealg.IndexByteString", "internal/bytealg.IndexString", "internal/bytealg.CountString"], unfollowed := true, recurses := true, named := ["internal/bytealg.MaxLen", "unicode/utf8.first", "unicode/utf8.acceptRanges"], loops := true, apart := false, laid := [("unicode/utf8.acceptRanges", laid_unicode_utf8_acceptRanges), ("unicode/utf8.first", laid_unicode_utf8_first)] }
def SyntaxPartsSaid : Prop := syntaxPartsRow.holds Tryz.pinned (OpenSpec.ofChange syntaxPartsSpec)

/-- ITS FALSE NEIGHBOUR: 'it returns false'. Refute it at one input. -/
def syntaxPartsWrong : ChangeSpec := { name := "syntaxParts", fn := fun _ => fun
  | [d1, d2] => { results := [.lit (.bool false)], args := [d1, d2] }
  | _ => none }
def SyntaxPartsWrongFalsely : Prop := syntaxPartsRow.holds Tryz.pinned (OpenSpec.ofChange syntaxPartsWrong)

/-- 'configlanglaw25.SyntaxStrip': WHATEVER THE INPUT: true; the input reads as it did. -/
def syntaxStripSpec : ChangeSpec := { name := "syntaxStrip", fn := fun _ => fun
  | [d1, d2] => { results := [.lit (.bool true)], args := [d1, d2] }
  | _ => none }
def syntaxStripRow : OpenClaim := { program := "ytpcnadmaeebhbaagreatdoor", sum := "af4e5e73f42c10eeeb5e1d3d741044a30f79d687db46b70a8c7be7ea8436e83f", func := "configlang/configlanglaw25.SyntaxStrip", spec := "syntaxStrip", inPlace := ["internal/bytealg.IndexByteString", "internal/bytealg.IndexString", "internal/bytealg.CountString"], unfollowed := true, recurses := true, named := ["internal/bytealg.MaxLen", "unicode/utf8.first", "unicode/utf8.acceptRanges"], loops := true, apart := false, laid := [("unicode/utf8.acceptRanges", laid_unicode_utf8_acceptRanges), ("unicode/utf8.first", laid_unicode_utf8_first)] }
def SyntaxStripSaid : Prop := syntaxStripRow.holds Tryz.pinned (OpenSpec.ofChange syntaxStripSpec)

/-- ITS FALSE NEIGHBOUR: 'it returns false'. Refute it at one input. -/
def syntaxStripWrong : ChangeSpec := { name := "syntaxStrip", fn := fun _ => fun
  | [d1, d2] => { results := [.lit (.bool false)], args := [d1, d2] }
  | _ => none }
def SyntaxStripWrongFalsely : Prop := syntaxStripRow.holds Tryz.pinned (OpenSpec.ofChange syntaxStripWrong)

/- THE SECOND FORM. 'bulk': how many values and letters a reading holds, each counted each time it is reached (what is shared counts as often as it is met; a slice's spare places count too). A statement '..UptoSaid' is the law's where the arguments, and the package variables that the reading takes, are together of bulk at most 1048576: NARROWER than '..Said'. Prove '..Said' where nothing that the law and all that it calls make is longer than what came in: it says more and counts as full. Else prove '..UptoSaid'. A law counts once. -/
mutual
def uptoBulk {H : Type} : DataW H → Nat
  | .lit (.string bytes) => bytes.length + 1
  | .lit _ => 1
  | .nil => 1
  | .ptr d => uptoBulk d + 1
  | .slice elems spare => uptoBulkAll elems + uptoBulkAll spare + 1
  | .agg parts => uptoBulkAll parts + 1
  | .iface _ d => uptoBulk d + 1
  | .map entries => uptoBulkEntries entries + 1
  | .held _ => 1
def uptoBulkAll {H : Type} : List (DataW H) → Nat
  | [] => 0
  | d :: r => uptoBulk d + uptoBulkAll r
def uptoBulkEntries {H : Type} : List (Lit × DataW H) → Nat
  | [] => 0
  | x :: r => uptoBulkEntry x + uptoBulkEntries r
def uptoBulkEntry {H : Type} : Lit × DataW H → Nat
  | (.string bytes, d) => bytes.length + uptoBulk d + 1
  | (_, d) => uptoBulk d + 1
 end
def uptoSmall : (H : Type) → List (DataW H) → Bool := fun _ ds => decide (uptoBulkAll ds ≤ 1048576)
def OpenSpec.upto (s : _root_.Go.ChangeSpec) : _root_.Go.OpenSpec := { _root_.Go.OpenSpec.ofChange s with cond := some uptoSmall }

/-- 'configlanglaw25.SyntaxCheck', WHERE WHAT IT READS IS OF BULK AT MOST 1048576: true; the input reads as it did. -/
def syntaxCheckUptoRow : OpenClaim := { program := "ytpcnadmaeebhbaagreatdoor", sum := "af4e5e73f42c10eeeb5e1d3d741044a30f79d687db46b70a8c7be7ea8436e83f", func := "configlang/configlanglaw25.SyntaxCheck", spec := "syntaxCheck", inPlace := ["internal/bytealg.IndexByteString", "internal/bytealg.IndexString", "internal/bytealg.CountString"], unfollowed := true, recurses := true, named := ["internal/bytealg.MaxLen", "unicode/utf8.first", "unicode/utf8.acceptRanges"], loops := true, apart := false, laid := [("unicode/utf8.acceptRanges", laid_unicode_utf8_acceptRanges), ("unicode/utf8.first", laid_unicode_utf8_first)], narrowed := true }
def SyntaxCheckUptoSaid : Prop := syntaxCheckUptoRow.holds Tryz.pinned (OpenSpec.upto syntaxCheckSpec)

/-- 'configlanglaw25.SyntaxCheckExpr', WHERE WHAT IT READS IS OF BULK AT MOST 1048576: true; the input reads as it did. -/
def syntaxCheckExprUptoRow : OpenClaim := { program := "ytpcnadmaeebhbaagreatdoor", sum := "af4e5e73f42c10eeeb5e1d3d741044a30f79d687db46b70a8c7be7ea8436e83f", func := "configlang/configlanglaw25.SyntaxCheckExpr", spec := "syntaxCheckExpr", inPlace := ["internal/bytealg.IndexByteString", "internal/bytealg.IndexString", "internal/bytealg.CountString"], unfollowed := true, recurses := true, named := ["internal/bytealg.MaxLen", "unicode/utf8.first", "unicode/utf8.acceptRanges"], loops := true, apart := false, laid := [("unicode/utf8.acceptRanges", laid_unicode_utf8_acceptRanges), ("unicode/utf8.first", laid_unicode_utf8_first)], narrowed := true }
def SyntaxCheckExprUptoSaid : Prop := syntaxCheckExprUptoRow.holds Tryz.pinned (OpenSpec.upto syntaxCheckExprSpec)

/-- 'configlanglaw25.SyntaxEqual', WHERE WHAT IT READS IS OF BULK AT MOST 1048576: true; the input reads as it did. -/
def syntaxEqualUptoRow : OpenClaim := { program := "ytpcnadmaeebhbaagreatdoor", sum := "af4e5e73f42c10eeeb5e1d3d741044a30f79d687db46b70a8c7be7ea8436e83f", func := "configlang/configlanglaw25.SyntaxEqual", spec := "syntaxEqual", inPlace := ["internal/bytealg.IndexByteString", "internal/bytealg.IndexString", "internal/bytealg.CountString"], unfollowed := true, recurses := true, named := ["internal/bytealg.MaxLen", "unicode/utf8.first", "unicode/utf8.acceptRanges"], loops := true, apart := false, laid := [("unicode/utf8.acceptRanges", laid_unicode_utf8_acceptRanges), ("unicode/utf8.first", laid_unicode_utf8_first)], narrowed := true }
def SyntaxEqualUptoSaid : Prop := syntaxEqualUptoRow.holds Tryz.pinned (OpenSpec.upto syntaxEqualSpec)

/-- 'configlanglaw25.SyntaxWalk', WHERE WHAT IT READS IS OF BULK AT MOST 1048576: true; the input reads as it did. -/
def syntaxWalkUptoRow : OpenClaim := { program := "ytpcnadmaeebhbaagreatdoor", sum := "af4e5e73f42c10eeeb5e1d3d741044a30f79d687db46b70a8c7be7ea8436e83f", func := "configlang/configlanglaw25.SyntaxWalk", spec := "syntaxWalk", inPlace := ["internal/bytealg.IndexByteString", "internal/bytealg.IndexString", "internal/bytealg.CountString"], unfollowed := true, recurses := true, named := ["internal/bytealg.MaxLen", "unicode/utf8.first", "unicode/utf8.acceptRanges"], loops := true, apart := false, laid := [("unicode/utf8.acceptRanges", laid_unicode_utf8_acceptRanges), ("unicode/utf8.first", laid_unicode_utf8_first)], narrowed := true }
def SyntaxWalkUptoSaid : Prop := syntaxWalkUptoRow.holds Tryz.pinned (OpenSpec.upto syntaxWalkSpec)

/-- 'configlanglaw25.SyntaxLaws', WHERE WHAT IT READS IS OF BULK AT MOST 1048576: true; the input reads as it did. -/
def syntaxLawsUptoRow : OpenClaim := { program := "ytpcnadmaeebhbaagreatdoor", sum := "af4e5e73f42c10eeeb5e1d3d741044a30f79d687db46b70a8c7be7ea8436e83f", func := "configlang/configlanglaw25.SyntaxLaws", spec := "syntaxLaws", inPlace := ["internal/bytealg.IndexByteString", "internal/bytealg.IndexString", "internal/bytealg.CountString"], unfollowed := true, recurses := true, named := ["internal/bytealg.MaxLen", "unicode/utf8.first", "unicode/utf8.acceptRanges"], loops := true, apart := false, laid := [("unicode/utf8.acceptRanges", laid_unicode_utf8_acceptRanges), ("unicode/utf8.first", laid_unicode_utf8_first)], narrowed := true }
def SyntaxLawsUptoSaid : Prop := syntaxLawsUptoRow.holds Tryz.pinned (OpenSpec.upto syntaxLawsSpec)

/-- 'configlanglaw25.SyntaxEquivalence', WHERE WHAT IT READS IS OF BULK AT MOST 1048576: true; the input reads as it did. -/
def syntaxEquivalenceUptoRow : OpenClaim := { program := "ytpcnadmaeebhbaagreatdoor", sum := "af4e5e73f42c10eeeb5e1d3d741044a30f79d687db46b70a8c7be7ea8436e83f", func := "configlang/configlanglaw25.SyntaxEquivalence", spec := "syntaxEquivalence", inPlace := ["internal/bytealg.IndexByteString", "internal/bytealg.IndexString", "internal/bytealg.CountString"], unfollowed := true, recurses := true, named := ["internal/bytealg.MaxLen", "unicode/utf8.first", "unicode/utf8.acceptRanges"], loops := true, apart := false, laid := [("unicode/utf8.acceptRanges", laid_unicode_utf8_acceptRanges), ("unicode/utf8.first", laid_unicode_utf8_first)], narrowed := true }
def SyntaxEquivalenceUptoSaid : Prop := syntaxEquivalenceUptoRow.holds Tryz.pinned (OpenSpec.upto syntaxEquivalenceSpec)

/-- 'configlanglaw25.SyntaxDepth', WHERE WHAT IT READS IS OF BULK AT MOST 1048576: true; the input reads as it did. -/
def syntaxDepthUptoRow : OpenClaim := { program := "ytpcnadmaeebhbaagreatdoor", sum := "af4e5e73f42c10eeeb5e1d3d741044a30f79d687db46b70a8c7be7ea8436e83f", func := "configlang/configlanglaw25.SyntaxDepth", spec := "syntaxDepth", inPlace := ["internal/bytealg.IndexByteString", "internal/bytealg.IndexString", "internal/bytealg.CountString"], unfollowed := true, recurses := true, named := ["internal/bytealg.MaxLen", "unicode/utf8.first", "unicode/utf8.acceptRanges"], apart := false, laid := [("unicode/utf8.acceptRanges", laid_unicode_utf8_acceptRanges), ("unicode/utf8.first", laid_unicode_utf8_first)], narrowed := true }
def SyntaxDepthUptoSaid : Prop := syntaxDepthUptoRow.holds Tryz.pinned (OpenSpec.upto syntaxDepthSpec)

/-- 'configlanglaw25.SyntaxParts', WHERE WHAT IT READS IS OF BULK AT MOST 1048576: true; the input reads as it did. -/
def syntaxPartsUptoRow : OpenClaim := { program := "ytpcnadmaeebhbaagreatdoor", sum := "af4e5e73f42c10eeeb5e1d3d741044a30f79d687db46b70a8c7be7ea8436e83f", func := "configlang/configlanglaw25.SyntaxParts", spec := "syntaxParts", inPlace := ["internal/bytealg.IndexByteString", "internal/bytealg.IndexString", "internal/bytealg.CountString"], unfollowed := true, recurses := true, named := ["internal/bytealg.MaxLen", "unicode/utf8.first", "unicode/utf8.acceptRanges"], loops := true, apart := false, laid := [("unicode/utf8.acceptRanges", laid_unicode_utf8_acceptRanges), ("unicode/utf8.first", laid_unicode_utf8_first)], narrowed := true }
def SyntaxPartsUptoSaid : Prop := syntaxPartsUptoRow.holds Tryz.pinned (OpenSpec.upto syntaxPartsSpec)

/-- 'configlanglaw25.SyntaxStrip', WHERE WHAT IT READS IS OF BULK AT MOST 1048576: true; the input reads as it did. -/
def syntaxStripUptoRow : OpenClaim := { program := "ytpcnadmaeebhbaagreatdoor", sum := "af4e5e73f42c10eeeb5e1d3d741044a30f79d687db46b70a8c7be7ea8436e83f", func := "configlang/configlanglaw25.SyntaxStrip", spec := "syntaxStrip", inPlace := ["internal/bytealg.IndexByteString", "internal/bytealg.IndexString", "internal/bytealg.CountString"], unfollowed := true, recurses := true, named := ["internal/bytealg.MaxLen", "unicode/utf8.first", "unicode/utf8.acceptRanges"], loops := true, apart := false, laid := [("unicode/utf8.acceptRanges", laid_unicode_utf8_acceptRanges), ("unicode/utf8.first", laid_unicode_utf8_first)], narrowed := true }
def SyntaxStripUptoSaid : Prop := syntaxStripUptoRow.holds Tryz.pinned (OpenSpec.upto syntaxStripSpec)

end Rows
end Go.Proofs.YtpcnadmaeebhbaaGreatDoor
