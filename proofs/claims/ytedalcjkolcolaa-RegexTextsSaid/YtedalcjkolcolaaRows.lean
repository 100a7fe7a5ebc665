/-
  NARROWER THAN 'FOR EVERY INPUT', by the rows' own cells (each row's printed sentence says how): RegexChecks: loops · RegexAlgebra: loops · RegexRepeats: loops · RegexMatches: loops · RegexDerives: loops · RegexSteps: loops · RegexTexts: loops.
  DERIVED. THE GIVEN ROWS OF THIS SEAT. 10 by the template 'for every input the law returns true; each argument reads behind the call as it read before'; 0 by the template 'total and deterministic' (their statements: YtedalcjkolcolaaTotals.lean).
  GIVEN WITH THE SEED: the statements are not yours to turn. If you find one false, say at which input.
  Laid BY PROGRAM, IN A SANDBOX (cutbox-rows.mjs): the forced cells as the released guide's own fill.sh prints them over the translation 8b5a1a34df6a309a… (all of the seat's roots in one cut). By AI agents, Wed Nov 11 2026. No macro, syntax, notation, axiom, sorry.
-/
import Derived.Test.YtedalcjkolcolaaChecked
import GoSem.Claim
import GoSem.ClaimJoined
import GoSem.ClaimMapViews
import Derived.JoinedTies
import Derived.KernelRfl
namespace Go.Proofs.Ytedalcjkolcolaa
/- THE CELL 'sum', in the pinned program and in every row, IS THE sha256 OF THE DUMP (.gsa) THAT YtedalcjkolcolaaProg.lean LOADS. Nothing in Lean hashes anything: it is a label: what it is worth is what the hold of that sum in a sandbox is worth. -/
noncomputable def Try.pinned : Pinned := { name := "ytedalcjkolcolaa", sum := "8b5a1a34df6a309a04b11e0db620b12529f780bfed9ba47c05cba139a1f803e4", checked := Try.checked }
namespace Rows
def none {H : Type} : Left H := { results := [], args := [] }

/-- 'configlanglaw04.RegexChecks': WHATEVER THE INPUT: true; the input reads as it did. -/
def regexChecksSpec : ChangeSpec := { name := "regexChecks", fn := fun _ => fun
  | [d] => { results := [.lit (.bool true)], args := [d] }
  | _ => none }
def regexChecksRow : OpenClaim := { program := "ytedalcjkolcolaa", sum := "8b5a1a34df6a309a04b11e0db620b12529f780bfed9ba47c05cba139a1f803e4", func := "configlang/configlanglaw04.RegexChecks", spec := "regexChecks", inPlace := ["internal/bytealg.IndexByteString"], unfollowed := true, recurses := true, loops := true, apart := false }
def RegexChecksSaid : Prop := regexChecksRow.holds Try.pinned (OpenSpec.ofChange regexChecksSpec)

/-- ITS FALSE NEIGHBOUR: 'it returns false'. Refute it at one input. -/
def regexChecksWrong : ChangeSpec := { name := "regexChecks", fn := fun _ => fun
  | [d] => { results := [.lit (.bool false)], args := [d] }
  | _ => none }
def RegexChecksWrongFalsely : Prop := regexChecksRow.holds Try.pinned (OpenSpec.ofChange regexChecksWrong)

/-- 'configlanglaw04.RegexParses': WHATEVER THE INPUT: true; the input reads as it did. -/
def regexParsesSpec : ChangeSpec := { name := "regexParses", fn := fun _ => fun
  | [d] => { results := [.lit (.bool true)], args := [d] }
  | _ => none }
def regexParsesRow : OpenClaim := { program := "ytedalcjkolcolaa", sum := "8b5a1a34df6a309a04b11e0db620b12529f780bfed9ba47c05cba139a1f803e4", func := "configlang/configlanglaw04.RegexParses", spec := "regexParses", inPlace := ["internal/bytealg.IndexByteString"], unfollowed := true, recurses := true, apart := false }
def RegexParsesSaid : Prop := regexParsesRow.holds Try.pinned (OpenSpec.ofChange regexParsesSpec)

/-- ITS FALSE NEIGHBOUR: 'it returns false'. Refute it at one input. -/
def regexParsesWrong : ChangeSpec := { name := "regexParses", fn := fun _ => fun
  | [d] => { results := [.lit (.bool false)], args := [d] }
  | _ => none }
def RegexParsesWrongFalsely : Prop := regexParsesRow.holds Try.pinned (OpenSpec.ofChange regexParsesWrong)

/-- 'configlanglaw04.RegexAlgebra': WHATEVER THE INPUT: true; the input reads as it did. -/
def regexAlgebraSpec : ChangeSpec := { name := "regexAlgebra", fn := fun _ => fun
  | [d1, d2, d3, d4] => { results := [.lit (.bool true)], args := [d1, d2, d3, d4] }
  | _ => none }
def regexAlgebraRow : OpenClaim := { program := "ytedalcjkolcolaa", sum := "8b5a1a34df6a309a04b11e0db620b12529f780bfed9ba47c05cba139a1f803e4", func := "configlang/configlanglaw04.RegexAlgebra", spec := "regexAlgebra", inPlace := ["internal/bytealg.IndexByteString"], unfollowed := true, recurses := true, loops := true, apart := false }
def RegexAlgebraSaid : Prop := regexAlgebraRow.holds Try.pinned (OpenSpec.ofChange regexAlgebraSpec)

/-- ITS FALSE NEIGHBOUR: 'it returns false'. Refute it at one input. -/
def regexAlgebraWrong : ChangeSpec := { name := "regexAlgebra", fn := fun _ => fun
  | [d1, d2, d3, d4] => { results := [.lit (.bool false)], args := [d1, d2, d3, d4] }
  | _ => none }
def RegexAlgebraWrongFalsely : Prop := regexAlgebraRow.holds Try.pinned (OpenSpec.ofChange regexAlgebraWrong)

/-- 'configlanglaw04.RegexRepeats': WHATEVER THE INPUT: true; the input reads as it did. -/
def regexRepeatsSpec : ChangeSpec := { name := "regexRepeats", fn := fun _ => fun
  | [d1, d2, d3] => { results := [.lit (.bool true)], args := [d1, d2, d3] }
  | _ => none }
def regexRepeatsRow : OpenClaim := { program := "ytedalcjkolcolaa", sum := "8b5a1a34df6a309a04b11e0db620b12529f780bfed9ba47c05cba139a1f803e4", func := "configlang/configlanglaw04.RegexRepeats", spec := "regexRepeats", inPlace := ["internal/bytealg.IndexByteString"], unfollowed := true, recurses := true, loops := true, apart := false }
def RegexRepeatsSaid : Prop := regexRepeatsRow.holds Try.pinned (OpenSpec.ofChange regexRepeatsSpec)

/-- ITS FALSE NEIGHBOUR: 'it returns false'. Refute it at one input. -/
def regexRepeatsWrong : ChangeSpec := { name := "regexRepeats", fn := fun _ => fun
  | [d1, d2, d3] => { results := [.lit (.bool false)], args := [d1, d2, d3] }
  | _ => none }
def RegexRepeatsWrongFalsely : Prop := regexRepeatsRow.holds Try.pinned (OpenSpec.ofChange regexRepeatsWrong)

/-- 'configlanglaw04.RegexComposes': WHATEVER THE INPUT: true; the input reads as it did. -/
def regexComposesSpec : ChangeSpec := { name := "regexComposes", fn := fun _ => fun
  | [d1, d2, d3] => { results := [.lit (.bool true)], args := [d1, d2, d3] }
  | _ => none }
def regexComposesRow : OpenClaim := { program := "ytedalcjkolcolaa", sum := "8b5a1a34df6a309a04b11e0db620b12529f780bfed9ba47c05cba139a1f803e4", func := "configlang/configlanglaw04.RegexComposes", spec := "regexComposes", inPlace := ["internal/bytealg.IndexByteString"], unfollowed := true, recurses := true, apart := false }
def RegexComposesSaid : Prop := regexComposesRow.holds Try.pinned (OpenSpec.ofChange regexComposesSpec)

/-- ITS FALSE NEIGHBOUR: 'it returns false'. Refute it at one input. -/
def regexComposesWrong : ChangeSpec := { name := "regexComposes", fn := fun _ => fun
  | [d1, d2, d3] => { results := [.lit (.bool false)], args := [d1, d2, d3] }
  | _ => none }
def RegexComposesWrongFalsely : Prop := regexComposesRow.holds Try.pinned (OpenSpec.ofChange regexComposesWrong)

/-- 'configlanglaw04.RegexBytes': WHATEVER THE INPUT: true; the input reads as it did. -/
def regexBytesSpec : ChangeSpec := { name := "regexBytes", fn := fun _ => fun
  | [d1, d2] => { results := [.lit (.bool true)], args := [d1, d2] }
  | _ => none }
def regexBytesRow : OpenClaim := { program := "ytedalcjkolcolaa", sum := "8b5a1a34df6a309a04b11e0db620b12529f780bfed9ba47c05cba139a1f803e4", func := "configlang/configlanglaw04.RegexBytes", spec := "regexBytes", inPlace := ["internal/bytealg.IndexByteString"], unfollowed := true, recurses := true, apart := false }
def RegexBytesSaid : Prop := regexBytesRow.holds Try.pinned (OpenSpec.ofChange regexBytesSpec)

/-- ITS FALSE NEIGHBOUR: 'it returns false'. Refute it at one input. -/
def regexBytesWrong : ChangeSpec := { name := "regexBytes", fn := fun _ => fun
  | [d1, d2] => { results := [.lit (.bool false)], args := [d1, d2] }
  | _ => none }
def RegexBytesWrongFalsely : Prop := regexBytesRow.holds Try.pinned (OpenSpec.ofChange regexBytesWrong)

/-- 'configlanglaw04.RegexMatches': WHATEVER THE INPUT: true; the input reads as it did. -/
def regexMatchesSpec : ChangeSpec := { name := "regexMatches", fn := fun _ => fun
  | [d1, d2] => { results := [.lit (.bool true)], args := [d1, d2] }
  | _ => none }
def regexMatchesRow : OpenClaim := { program := "ytedalcjkolcolaa", sum := "8b5a1a34df6a309a04b11e0db620b12529f780bfed9ba47c05cba139a1f803e4", func := "configlang/configlanglaw04.RegexMatches", spec := "regexMatches", inPlace := ["internal/bytealg.IndexByteString"], unfollowed := true, recurses := true, loops := true, apart := false }
def RegexMatchesSaid : Prop := regexMatchesRow.holds Try.pinned (OpenSpec.ofChange regexMatchesSpec)

/-- ITS FALSE NEIGHBOUR: 'it returns false'. Refute it at one input. -/
def regexMatchesWrong : ChangeSpec := { name := "regexMatches", fn := fun _ => fun
  | [d1, d2] => { results := [.lit (.bool false)], args := [d1, d2] }
  | _ => none }
def RegexMatchesWrongFalsely : Prop := regexMatchesRow.holds Try.pinned (OpenSpec.ofChange regexMatchesWrong)

/-- 'configlanglaw04.RegexDerives': WHATEVER THE INPUT: true; the input reads as it did. -/
def regexDerivesSpec : ChangeSpec := { name := "regexDerives", fn := fun _ => fun
  | [d1, d2, d3] => { results := [.lit (.bool true)], args := [d1, d2, d3] }
  | _ => none }
def regexDerivesRow : OpenClaim := { program := "ytedalcjkolcolaa", sum := "8b5a1a34df6a309a04b11e0db620b12529f780bfed9ba47c05cba139a1f803e4", func := "configlang/configlanglaw04.RegexDerives", spec := "regexDerives", inPlace := ["internal/bytealg.IndexByteString"], unfollowed := true, recurses := true, loops := true, apart := false }
def RegexDerivesSaid : Prop := regexDerivesRow.holds Try.pinned (OpenSpec.ofChange regexDerivesSpec)

/-- ITS FALSE NEIGHBOUR: 'it returns false'. Refute it at one input. -/
def regexDerivesWrong : ChangeSpec := { name := "regexDerives", fn := fun _ => fun
  | [d1, d2, d3] => { results := [.lit (.bool false)], args := [d1, d2, d3] }
  | _ => none }
def RegexDerivesWrongFalsely : Prop := regexDerivesRow.holds Try.pinned (OpenSpec.ofChange regexDerivesWrong)

/-- 'configlanglaw04.RegexSteps': WHATEVER THE INPUT: true; the input reads as it did. -/
def regexStepsSpec : ChangeSpec := { name := "regexSteps", fn := fun _ => fun
  | [d1, d2] => { results := [.lit (.bool true)], args := [d1, d2] }
  | _ => none }
def regexStepsRow : OpenClaim := { program := "ytedalcjkolcolaa", sum := "8b5a1a34df6a309a04b11e0db620b12529f780bfed9ba47c05cba139a1f803e4", func := "configlang/configlanglaw04.RegexSteps", spec := "regexSteps", inPlace := ["internal/bytealg.IndexByteString"], unfollowed := true, recurses := true, loops := true, apart := false }
def RegexStepsSaid : Prop := regexStepsRow.holds Try.pinned (OpenSpec.ofChange regexStepsSpec)

/-- ITS FALSE NEIGHBOUR: 'it returns false'. Refute it at one input. -/
def regexStepsWrong : ChangeSpec := { name := "regexSteps", fn := fun _ => fun
  | [d1, d2] => { results := [.lit (.bool false)], args := [d1, d2] }
  | _ => none }
def RegexStepsWrongFalsely : Prop := regexStepsRow.holds Try.pinned (OpenSpec.ofChange regexStepsWrong)

/-- 'configlanglaw04.RegexTexts': WHATEVER THE INPUT: true; the input reads as it did. -/
def regexTextsSpec : ChangeSpec := { name := "regexTexts", fn := fun _ => fun
  | [d1, d2] => { results := [.lit (.bool true)], args := [d1, d2] }
  | _ => none }
def regexTextsRow : OpenClaim := { program := "ytedalcjkolcolaa", sum := "8b5a1a34df6a309a04b11e0db620b12529f780bfed9ba47c05cba139a1f803e4", func := "configlang/configlanglaw04.RegexTexts", spec := "regexTexts", inPlace := ["internal/bytealg.IndexByteString", "internal/abi.NoEscape", "internal/bytealg.MakeNoZero"], unfollowed := true, recurses := true, loops := true, apart := false }
def RegexTextsSaid : Prop := regexTextsRow.holds Try.pinned (OpenSpec.ofChange regexTextsSpec)

/-- ITS FALSE NEIGHBOUR: 'it returns false'. Refute it at one input. -/
def regexTextsWrong : ChangeSpec := { name := "regexTexts", fn := fun _ => fun
  | [d1, d2] => { results := [.lit (.bool false)], args := [d1, d2] }
  | _ => none }
def RegexTextsWrongFalsely : Prop := regexTextsRow.holds Try.pinned (OpenSpec.ofChange regexTextsWrong)

/- THE SECOND FORM. 'bulk': how many values and letters a reading holds, each counted each time it is reached (what is shared counts as often as it is met; a slice's spare places count too). A statement '..UptoSaid' is the law's where the arguments, and the package variables that the reading takes, are together of bulk at most 1048576: NARROWER than '..Said'. Prove '..Said' where nothing that the law and all that it calls make is longer than what came in: it says more and counts as full. Else prove '..UptoSaid'. A law counts once. -/
mutual
def uptoBulk {H : Type} : DataW H → Nat
  | .lit (.string bytes) => bytes.length + 1
  | .lit _ => 1
  | .nil => 1
  | .ptr d => uptoBulk d + 1
  | .slice elems spare => uptoBulkAll elems + uptoBulkAll spare + 1
  | .agg parts => uptoBulkAll parts + 1
  | .iface _ d => uptoBulk d + 1
  | .map entries => uptoBulkEntries entries + 1
  | .held _ => 1
def uptoBulkAll {H : Type} : List (DataW H) → Nat
  | [] => 0
  | d :: r => uptoBulk d + uptoBulkAll r
def uptoBulkEntries {H : Type} : List (Lit × DataW H) → Nat
  | [] => 0
  | x :: r => uptoBulkEntry x + uptoBulkEntries r
def uptoBulkEntry {H : Type} : Lit × DataW H → Nat
  | (.string bytes, d) => bytes.length + uptoBulk d + 1
  | (_, d) => uptoBulk d + 1
 end
def uptoSmall : (H : Type) → List (DataW H) → Bool := fun _ ds => decide (uptoBulkAll ds ≤ 1048576)
def OpenSpec.upto (s : _root_.Go.ChangeSpec) : _root_.Go.OpenSpec := { _root_.Go.OpenSpec.ofChange s with cond := some uptoSmall }

/-- 'configlanglaw04.RegexChecks', WHERE WHAT IT READS IS OF BULK AT MOST 1048576: true; the input reads as it did. -/
def regexChecksUptoRow : OpenClaim := { program := "ytedalcjkolcolaa", sum := "8b5a1a34df6a309a04b11e0db620b12529f780bfed9ba47c05cba139a1f803e4", func := "configlang/configlanglaw04.RegexChecks", spec := "regexChecks", inPlace := ["internal/bytealg.IndexByteString"], unfollowed := true, recurses := true, loops := true, apart := false, narrowed := true }
def RegexChecksUptoSaid : Prop := regexChecksUptoRow.holds Try.pinned (OpenSpec.upto regexChecksSpec)

/-- 'configlanglaw04.RegexParses', WHERE WHAT IT READS IS OF BULK AT MOST 1048576: true; the input reads as it did. -/
def regexParsesUptoRow : OpenClaim := { program := "ytedalcjkolcolaa", sum := "8b5a1a34df6a309a04b11e0db620b12529f780bfed9ba47c05cba139a1f803e4", func := "configlang/configlanglaw04.RegexParses", spec := "regexParses", inPlace := ["internal/bytealg.IndexByteString"], unfollowed := true, recurses := true, apart := false, narrowed := true }
def RegexParsesUptoSaid : Prop := regexParsesUptoRow.holds Try.pinned (OpenSpec.upto regexParsesSpec)

/-- 'configlanglaw04.RegexAlgebra', WHERE WHAT IT READS IS OF BULK AT MOST 1048576: true; the input reads as it did. -/
def regexAlgebraUptoRow : OpenClaim := { program := "ytedalcjkolcolaa", sum := "8b5a1a34df6a309a04b11e0db620b12529f780bfed9ba47c05cba139a1f803e4", func := "configlang/configlanglaw04.RegexAlgebra", spec := "regexAlgebra", inPlace := ["internal/bytealg.IndexByteString"], unfollowed := true, recurses := true, loops := true, apart := false, narrowed := true }
def RegexAlgebraUptoSaid : Prop := regexAlgebraUptoRow.holds Try.pinned (OpenSpec.upto regexAlgebraSpec)

/-- 'configlanglaw04.RegexRepeats', WHERE WHAT IT READS IS OF BULK AT MOST 1048576: true; the input reads as it did. -/
def regexRepeatsUptoRow : OpenClaim := { program := "ytedalcjkolcolaa", sum := "8b5a1a34df6a309a04b11e0db620b12529f780bfed9ba47c05cba139a1f803e4", func := "configlang/configlanglaw04.RegexRepeats", spec := "regexRepeats", inPlace := ["internal/bytealg.IndexByteString"], unfollowed := true, recurses := true, loops := true, apart := false, narrowed := true }
def RegexRepeatsUptoSaid : Prop := regexRepeatsUptoRow.holds Try.pinned (OpenSpec.upto regexRepeatsSpec)

/-- 'configlanglaw04.RegexComposes', WHERE WHAT IT READS IS OF BULK AT MOST 1048576: true; the input reads as it did. -/
def regexComposesUptoRow : OpenClaim := { program := "ytedalcjkolcolaa", sum := "8b5a1a34df6a309a04b11e0db620b12529f780bfed9ba47c05cba139a1f803e4", func := "configlang/configlanglaw04.RegexComposes", spec := "regexComposes", inPlace := ["internal/bytealg.IndexByteString"], unfollowed := true, recurses := true, apart := false, narrowed := true }
def RegexComposesUptoSaid : Prop := regexComposesUptoRow.holds Try.pinned (OpenSpec.upto regexComposesSpec)

/-- 'configlanglaw04.RegexBytes', WHERE WHAT IT READS IS OF BULK AT MOST 1048576: true; the input reads as it did. -/
def regexBytesUptoRow : OpenClaim := { program := "ytedalcjkolcolaa", sum := "8b5a1a34df6a309a04b11e0db620b12529f780bfed9ba47c05cba139a1f803e4", func := "configlang/configlanglaw04.RegexBytes", spec := "regexBytes", inPlace := ["internal/bytealg.IndexByteString"], unfollowed := true, recurses := true, apart := false, narrowed := true }
def RegexBytesUptoSaid : Prop := regexBytesUptoRow.holds Try.pinned (OpenSpec.upto regexBytesSpec)

/-- 'configlanglaw04.RegexMatches', WHERE WHAT IT READS IS OF BULK AT MOST 1048576: true; the input reads as it did. -/
def regexMatchesUptoRow : OpenClaim := { program := "ytedalcjkolcolaa", sum := "8b5a1a34df6a309a04b11e0db620b12529f780bfed9ba47c05cba139a1f803e4", func := "configlang/configlanglaw04.RegexMatches", spec := "regexMatches", inPlace := ["internal/bytealg.IndexByteString"], unfollowed := true, recurses := true, loops := true, apart := false, narrowed := true }
def RegexMatchesUptoSaid : Prop := regexMatchesUptoRow.holds Try.pinned (OpenSpec.upto regexMatchesSpec)

/-- 'configlanglaw04.RegexDerives', WHERE WHAT IT READS IS OF BULK AT MOST 1048576: true; the input reads as it did. -/
def regexDerivesUptoRow : OpenClaim := { program := "ytedalcjkolcolaa", sum := "8b5a1a34df6a309a04b11e0db620b12529f780bfed9ba47c05cba139a1f803e4", func := "configlang/configlanglaw04.RegexDerives", spec := "regexDerives", inPlace := ["internal/bytealg.IndexByteString"], unfollowed := true, recurses := true, loops := true, apart := false, narrowed := true }
def RegexDerivesUptoSaid : Prop := regexDerivesUptoRow.holds Try.pinned (OpenSpec.upto regexDerivesSpec)

/-- 'configlanglaw04.RegexSteps', WHERE WHAT IT READS IS OF BULK AT MOST 1048576: true; the input reads as it did. -/
def regexStepsUptoRow : OpenClaim := { program := "ytedalcjkolcolaa", sum := "8b5a1a34df6a309a04b11e0db620b12529f780bfed9ba47c05cba139a1f803e4", func := "configlang/configlanglaw04.RegexSteps", spec := "regexSteps", inPlace := ["internal/bytealg.IndexByteString"], unfollowed := true, recurses := true, loops := true, apart := false, narrowed := true }
def RegexStepsUptoSaid : Prop := regexStepsUptoRow.holds Try.pinned (OpenSpec.upto regexStepsSpec)

/-- 'configlanglaw04.RegexTexts', WHERE WHAT IT READS IS OF BULK AT MOST 1048576: true; the input reads as it did. -/
def regexTextsUptoRow : OpenClaim := { program := "ytedalcjkolcolaa", sum := "8b5a1a34df6a309a04b11e0db620b12529f780bfed9ba47c05cba139a1f803e4", func := "configlang/configlanglaw04.RegexTexts", spec := "regexTexts", inPlace := ["internal/bytealg.IndexByteString", "internal/abi.NoEscape", "internal/bytealg.MakeNoZero"], unfollowed := true, recurses := true, loops := true, apart := false, narrowed := true }
def RegexTextsUptoSaid : Prop := regexTextsUptoRow.holds Try.pinned (OpenSpec.upto regexTextsSpec)

end Rows
end Go.Proofs.Ytedalcjkolcolaa
