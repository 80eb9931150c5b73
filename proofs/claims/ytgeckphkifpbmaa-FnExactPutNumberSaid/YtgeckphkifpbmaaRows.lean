/-
  No cell of these rows narrows 'for every input' (looked for: loops, veiled, ifaces, maps, wideKeys, modest, calm, conditions, laid).
  DERIVED. THE GIVEN ROWS OF THIS SEAT. 15 by the template 'for every input the law returns true; each argument reads behind the call as it read before'; 0 by the template 'total and deterministic' (their statements: YtgeckphkifpbmaaTotals.lean).
  GIVEN WITH THE SEED: the statements are not yours to turn. If you find one false, say at which input.
  Laid BY PROGRAM, IN A SANDBOX (cutbox-rows.mjs): the forced cells as the released guide's own fill.sh prints them over the translation 3cafd5cca38d9602… (all of the seat's roots in one cut). By AI agents, Wed Nov 11 2026. No macro, syntax, notation, axiom, sorry.
-/
import Derived.Test.YtgeckphkifpbmaaChecked
import GoSem.Claim
import GoSem.ClaimJoined
import GoSem.ClaimMapViews
import Derived.JoinedTies
import Derived.KernelRfl
namespace Go.Proofs.Ytgeckphkifpbmaa
/- THE CELL 'sum', in the pinned program and in every row, IS THE sha256 OF THE DUMP (.gsa) THAT YtgeckphkifpbmaaProg.lean LOADS. Nothing in Lean hashes anything: it is a label: what it is worth is what the hold of that sum in a sandbox is worth. -/
noncomputable def Try.pinned : Pinned := { name := "ytgeckphkifpbmaa", sum := "3cafd5cca38d960218f4f1600093c1418fcf534e225dd82c755f77f32e92021f", checked := Try.checked }
namespace Rows
def none {H : Type} : Left H := { results := [], args := [] }

/-- 'laws.FnExactSplitWords': WHATEVER THE INPUT: true; the input reads as it did. -/
def fnExactSplitWordsSpec : ChangeSpec := { name := "fnExactSplitWords", fn := fun _ => fun
  | [d] => { results := [.lit (.bool true)], args := [d] }
  | _ => none }
def fnExactSplitWordsRow : OpenClaim := { program := "ytgeckphkifpbmaa", sum := "3cafd5cca38d960218f4f1600093c1418fcf534e225dd82c755f77f32e92021f", func := "loop.example/g00926/laws.FnExactSplitWords", spec := "fnExactSplitWords", apart := false }
def FnExactSplitWordsSaid : Prop := fnExactSplitWordsRow.holds Try.pinned (OpenSpec.ofChange fnExactSplitWordsSpec)

/-- ITS FALSE NEIGHBOUR: 'it returns false'. Refute it at one input. -/
def fnExactSplitWordsWrong : ChangeSpec := { name := "fnExactSplitWords", fn := fun _ => fun
  | [d] => { results := [.lit (.bool false)], args := [d] }
  | _ => none }
def FnExactSplitWordsWrongFalsely : Prop := fnExactSplitWordsRow.holds Try.pinned (OpenSpec.ofChange fnExactSplitWordsWrong)

/-- 'laws.FnExactIsName': WHATEVER THE INPUT: true; the input reads as it did. -/
def fnExactIsNameSpec : ChangeSpec := { name := "fnExactIsName", fn := fun _ => fun
  | [d] => { results := [.lit (.bool true)], args := [d] }
  | _ => none }
def fnExactIsNameRow : OpenClaim := { program := "ytgeckphkifpbmaa", sum := "3cafd5cca38d960218f4f1600093c1418fcf534e225dd82c755f77f32e92021f", func := "loop.example/g00926/laws.FnExactIsName", spec := "fnExactIsName", apart := false }
def FnExactIsNameSaid : Prop := fnExactIsNameRow.holds Try.pinned (OpenSpec.ofChange fnExactIsNameSpec)

/-- ITS FALSE NEIGHBOUR: 'it returns false'. Refute it at one input. -/
def fnExactIsNameWrong : ChangeSpec := { name := "fnExactIsName", fn := fun _ => fun
  | [d] => { results := [.lit (.bool false)], args := [d] }
  | _ => none }
def FnExactIsNameWrongFalsely : Prop := fnExactIsNameRow.holds Try.pinned (OpenSpec.ofChange fnExactIsNameWrong)

/-- 'laws.FnExactGetNumber': WHATEVER THE INPUT: true; the input reads as it did. -/
def fnExactGetNumberSpec : ChangeSpec := { name := "fnExactGetNumber", fn := fun _ => fun
  | [d1, d2] => { results := [.lit (.bool true)], args := [d1, d2] }
  | _ => none }
def fnExactGetNumberRow : OpenClaim := { program := "ytgeckphkifpbmaa", sum := "3cafd5cca38d960218f4f1600093c1418fcf534e225dd82c755f77f32e92021f", func := "loop.example/g00926/laws.FnExactGetNumber", spec := "fnExactGetNumber", apart := false }
def FnExactGetNumberSaid : Prop := fnExactGetNumberRow.holds Try.pinned (OpenSpec.ofChange fnExactGetNumberSpec)

/-- ITS FALSE NEIGHBOUR: 'it returns false'. Refute it at one input. -/
def fnExactGetNumberWrong : ChangeSpec := { name := "fnExactGetNumber", fn := fun _ => fun
  | [d1, d2] => { results := [.lit (.bool false)], args := [d1, d2] }
  | _ => none }
def FnExactGetNumberWrongFalsely : Prop := fnExactGetNumberRow.holds Try.pinned (OpenSpec.ofChange fnExactGetNumberWrong)

/-- 'laws.FnExactPutNumber': WHATEVER THE INPUT: true; the input reads as it did. -/
def fnExactPutNumberSpec : ChangeSpec := { name := "fnExactPutNumber", fn := fun _ => fun
  | [d] => { results := [.lit (.bool true)], args := [d] }
  | _ => none }
def fnExactPutNumberRow : OpenClaim := { program := "ytgeckphkifpbmaa", sum := "3cafd5cca38d960218f4f1600093c1418fcf534e225dd82c755f77f32e92021f", func := "loop.example/g00926/laws.FnExactPutNumber", spec := "fnExactPutNumber", apart := false }
def FnExactPutNumberSaid : Prop := fnExactPutNumberRow.holds Try.pinned (OpenSpec.ofChange fnExactPutNumberSpec)

/-- ITS FALSE NEIGHBOUR: 'it returns false'. Refute it at one input. -/
def fnExactPutNumberWrong : ChangeSpec := { name := "fnExactPutNumber", fn := fun _ => fun
  | [d] => { results := [.lit (.bool false)], args := [d] }
  | _ => none }
def FnExactPutNumberWrongFalsely : Prop := fnExactPutNumberRow.holds Try.pinned (OpenSpec.ofChange fnExactPutNumberWrong)

/-- 'laws.FnExactCaptureNamed': WHATEVER THE INPUT: true; the input reads as it did. -/
def fnExactCaptureNamedSpec : ChangeSpec := { name := "fnExactCaptureNamed", fn := fun _ => fun
  | [d] => { results := [.lit (.bool true)], args := [d] }
  | _ => none }
def fnExactCaptureNamedRow : OpenClaim := { program := "ytgeckphkifpbmaa", sum := "3cafd5cca38d960218f4f1600093c1418fcf534e225dd82c755f77f32e92021f", func := "loop.example/g00926/laws.FnExactCaptureNamed", spec := "fnExactCaptureNamed", apart := false }
def FnExactCaptureNamedSaid : Prop := fnExactCaptureNamedRow.holds Try.pinned (OpenSpec.ofChange fnExactCaptureNamedSpec)

/-- ITS FALSE NEIGHBOUR: 'it returns false'. Refute it at one input. -/
def fnExactCaptureNamedWrong : ChangeSpec := { name := "fnExactCaptureNamed", fn := fun _ => fun
  | [d] => { results := [.lit (.bool false)], args := [d] }
  | _ => none }
def FnExactCaptureNamedWrongFalsely : Prop := fnExactCaptureNamedRow.holds Try.pinned (OpenSpec.ofChange fnExactCaptureNamedWrong)

/-- 'laws.FnExactSlamNamed': WHATEVER THE INPUT: true; the input reads as it did. -/
def fnExactSlamNamedSpec : ChangeSpec := { name := "fnExactSlamNamed", fn := fun _ => fun
  | [d] => { results := [.lit (.bool true)], args := [d] }
  | _ => none }
def fnExactSlamNamedRow : OpenClaim := { program := "ytgeckphkifpbmaa", sum := "3cafd5cca38d960218f4f1600093c1418fcf534e225dd82c755f77f32e92021f", func := "loop.example/g00926/laws.FnExactSlamNamed", spec := "fnExactSlamNamed", apart := false }
def FnExactSlamNamedSaid : Prop := fnExactSlamNamedRow.holds Try.pinned (OpenSpec.ofChange fnExactSlamNamedSpec)

/-- ITS FALSE NEIGHBOUR: 'it returns false'. Refute it at one input. -/
def fnExactSlamNamedWrong : ChangeSpec := { name := "fnExactSlamNamed", fn := fun _ => fun
  | [d] => { results := [.lit (.bool false)], args := [d] }
  | _ => none }
def FnExactSlamNamedWrongFalsely : Prop := fnExactSlamNamedRow.holds Try.pinned (OpenSpec.ofChange fnExactSlamNamedWrong)

/-- 'laws.FnCaptureNames': WHATEVER THE INPUT: true; the input reads as it did. -/
def fnCaptureNamesSpec : ChangeSpec := { name := "fnCaptureNames", fn := fun _ => fun
  | [d] => { results := [.lit (.bool true)], args := [d] }
  | _ => none }
def fnCaptureNamesRow : OpenClaim := { program := "ytgeckphkifpbmaa", sum := "3cafd5cca38d960218f4f1600093c1418fcf534e225dd82c755f77f32e92021f", func := "loop.example/g00926/laws.FnCaptureNames", spec := "fnCaptureNames", apart := false }
def FnCaptureNamesSaid : Prop := fnCaptureNamesRow.holds Try.pinned (OpenSpec.ofChange fnCaptureNamesSpec)

/-- ITS FALSE NEIGHBOUR: 'it returns false'. Refute it at one input. -/
def fnCaptureNamesWrong : ChangeSpec := { name := "fnCaptureNames", fn := fun _ => fun
  | [d] => { results := [.lit (.bool false)], args := [d] }
  | _ => none }
def FnCaptureNamesWrongFalsely : Prop := fnCaptureNamesRow.holds Try.pinned (OpenSpec.ofChange fnCaptureNamesWrong)

/-- 'laws.FnExactPackList': WHATEVER THE INPUT: true; the input reads as it did. -/
def fnExactPackListSpec : ChangeSpec := { name := "fnExactPackList", fn := fun _ => fun
  | [d] => { results := [.lit (.bool true)], args := [d] }
  | _ => none }
def fnExactPackListRow : OpenClaim := { program := "ytgeckphkifpbmaa", sum := "3cafd5cca38d960218f4f1600093c1418fcf534e225dd82c755f77f32e92021f", func := "loop.example/g00926/laws.FnExactPackList", spec := "fnExactPackList", apart := false }
def FnExactPackListSaid : Prop := fnExactPackListRow.holds Try.pinned (OpenSpec.ofChange fnExactPackListSpec)

/-- ITS FALSE NEIGHBOUR: 'it returns false'. Refute it at one input. -/
def fnExactPackListWrong : ChangeSpec := { name := "fnExactPackList", fn := fun _ => fun
  | [d] => { results := [.lit (.bool false)], args := [d] }
  | _ => none }
def FnExactPackListWrongFalsely : Prop := fnExactPackListRow.holds Try.pinned (OpenSpec.ofChange fnExactPackListWrong)

/-- 'laws.FnExactStandardNames': WHATEVER THE INPUT: true; the input reads as it did. -/
def fnExactStandardNamesSpec : ChangeSpec := { name := "fnExactStandardNames", fn := fun _ => fun
  | [] => { results := [.lit (.bool true)], args := [] }
  | _ => none }
def fnExactStandardNamesRow : OpenClaim := { program := "ytgeckphkifpbmaa", sum := "3cafd5cca38d960218f4f1600093c1418fcf534e225dd82c755f77f32e92021f", func := "loop.example/g00926/laws.FnExactStandardNames", spec := "fnExactStandardNames", apart := false }
def FnExactStandardNamesSaid : Prop := fnExactStandardNamesRow.holds Try.pinned (OpenSpec.ofChange fnExactStandardNamesSpec)

/-- ITS FALSE NEIGHBOUR: 'it returns false'. Refute it at one input. -/
def fnExactStandardNamesWrong : ChangeSpec := { name := "fnExactStandardNames", fn := fun _ => fun
  | [] => { results := [.lit (.bool false)], args := [] }
  | _ => none }
def FnExactStandardNamesWrongFalsely : Prop := fnExactStandardNamesRow.holds Try.pinned (OpenSpec.ofChange fnExactStandardNamesWrong)

/-- 'laws.FnExactFieldNames': WHATEVER THE INPUT: true; the input reads as it did. -/
def fnExactFieldNamesSpec : ChangeSpec := { name := "fnExactFieldNames", fn := fun _ => fun
  | [] => { results := [.lit (.bool true)], args := [] }
  | _ => none }
def fnExactFieldNamesRow : OpenClaim := { program := "ytgeckphkifpbmaa", sum := "3cafd5cca38d960218f4f1600093c1418fcf534e225dd82c755f77f32e92021f", func := "loop.example/g00926/laws.FnExactFieldNames", spec := "fnExactFieldNames", apart := false }
def FnExactFieldNamesSaid : Prop := fnExactFieldNamesRow.holds Try.pinned (OpenSpec.ofChange fnExactFieldNamesSpec)

/-- ITS FALSE NEIGHBOUR: 'it returns false'. Refute it at one input. -/
def fnExactFieldNamesWrong : ChangeSpec := { name := "fnExactFieldNames", fn := fun _ => fun
  | [] => { results := [.lit (.bool false)], args := [] }
  | _ => none }
def FnExactFieldNamesWrongFalsely : Prop := fnExactFieldNamesRow.holds Try.pinned (OpenSpec.ofChange fnExactFieldNamesWrong)

/-- 'laws.FnExactStandardRules': WHATEVER THE INPUT: true; the input reads as it did. -/
def fnExactStandardRulesSpec : ChangeSpec := { name := "fnExactStandardRules", fn := fun _ => fun
  | [d] => { results := [.lit (.bool true)], args := [d] }
  | _ => none }
def fnExactStandardRulesRow : OpenClaim := { program := "ytgeckphkifpbmaa", sum := "3cafd5cca38d960218f4f1600093c1418fcf534e225dd82c755f77f32e92021f", func := "loop.example/g00926/laws.FnExactStandardRules", spec := "fnExactStandardRules", apart := false }
def FnExactStandardRulesSaid : Prop := fnExactStandardRulesRow.holds Try.pinned (OpenSpec.ofChange fnExactStandardRulesSpec)

/-- ITS FALSE NEIGHBOUR: 'it returns false'. Refute it at one input. -/
def fnExactStandardRulesWrong : ChangeSpec := { name := "fnExactStandardRules", fn := fun _ => fun
  | [d] => { results := [.lit (.bool false)], args := [d] }
  | _ => none }
def FnExactStandardRulesWrongFalsely : Prop := fnExactStandardRulesRow.holds Try.pinned (OpenSpec.ofChange fnExactStandardRulesWrong)

/-- 'laws.FnExactStandardName': WHATEVER THE INPUT: true; the input reads as it did. -/
def fnExactStandardNameSpec : ChangeSpec := { name := "fnExactStandardName", fn := fun _ => fun
  | [d] => { results := [.lit (.bool true)], args := [d] }
  | _ => none }
def fnExactStandardNameRow : OpenClaim := { program := "ytgeckphkifpbmaa", sum := "3cafd5cca38d960218f4f1600093c1418fcf534e225dd82c755f77f32e92021f", func := "loop.example/g00926/laws.FnExactStandardName", spec := "fnExactStandardName", apart := false }
def FnExactStandardNameSaid : Prop := fnExactStandardNameRow.holds Try.pinned (OpenSpec.ofChange fnExactStandardNameSpec)

/-- ITS FALSE NEIGHBOUR: 'it returns false'. Refute it at one input. -/
def fnExactStandardNameWrong : ChangeSpec := { name := "fnExactStandardName", fn := fun _ => fun
  | [d] => { results := [.lit (.bool false)], args := [d] }
  | _ => none }
def FnExactStandardNameWrongFalsely : Prop := fnExactStandardNameRow.holds Try.pinned (OpenSpec.ofChange fnExactStandardNameWrong)

/-- 'laws.FnExactSameFacts': WHATEVER THE INPUT: true; the input reads as it did. -/
def fnExactSameFactsSpec : ChangeSpec := { name := "fnExactSameFacts", fn := fun _ => fun
  | [d1, d2] => { results := [.lit (.bool true)], args := [d1, d2] }
  | _ => none }
def fnExactSameFactsRow : OpenClaim := { program := "ytgeckphkifpbmaa", sum := "3cafd5cca38d960218f4f1600093c1418fcf534e225dd82c755f77f32e92021f", func := "loop.example/g00926/laws.FnExactSameFacts", spec := "fnExactSameFacts", apart := false }
def FnExactSameFactsSaid : Prop := fnExactSameFactsRow.holds Try.pinned (OpenSpec.ofChange fnExactSameFactsSpec)

/-- ITS FALSE NEIGHBOUR: 'it returns false'. Refute it at one input. -/
def fnExactSameFactsWrong : ChangeSpec := { name := "fnExactSameFacts", fn := fun _ => fun
  | [d1, d2] => { results := [.lit (.bool false)], args := [d1, d2] }
  | _ => none }
def FnExactSameFactsWrongFalsely : Prop := fnExactSameFactsRow.holds Try.pinned (OpenSpec.ofChange fnExactSameFactsWrong)

/-- 'laws.FnExactFromRuns': WHATEVER THE INPUT: true; the input reads as it did. -/
def fnExactFromRunsSpec : ChangeSpec := { name := "fnExactFromRuns", fn := fun _ => fun
  | [d] => { results := [.lit (.bool true)], args := [d] }
  | _ => none }
def fnExactFromRunsRow : OpenClaim := { program := "ytgeckphkifpbmaa", sum := "3cafd5cca38d960218f4f1600093c1418fcf534e225dd82c755f77f32e92021f", func := "loop.example/g00926/laws.FnExactFromRuns", spec := "fnExactFromRuns", apart := false }
def FnExactFromRunsSaid : Prop := fnExactFromRunsRow.holds Try.pinned (OpenSpec.ofChange fnExactFromRunsSpec)

/-- ITS FALSE NEIGHBOUR: 'it returns false'. Refute it at one input. -/
def fnExactFromRunsWrong : ChangeSpec := { name := "fnExactFromRuns", fn := fun _ => fun
  | [d] => { results := [.lit (.bool false)], args := [d] }
  | _ => none }
def FnExactFromRunsWrongFalsely : Prop := fnExactFromRunsRow.holds Try.pinned (OpenSpec.ofChange fnExactFromRunsWrong)

/-- 'laws.FnExactRunsOf': WHATEVER THE INPUT: true; the input reads as it did. -/
def fnExactRunsOfSpec : ChangeSpec := { name := "fnExactRunsOf", fn := fun _ => fun
  | [d] => { results := [.lit (.bool true)], args := [d] }
  | _ => none }
def fnExactRunsOfRow : OpenClaim := { program := "ytgeckphkifpbmaa", sum := "3cafd5cca38d960218f4f1600093c1418fcf534e225dd82c755f77f32e92021f", func := "loop.example/g00926/laws.FnExactRunsOf", spec := "fnExactRunsOf", apart := false }
def FnExactRunsOfSaid : Prop := fnExactRunsOfRow.holds Try.pinned (OpenSpec.ofChange fnExactRunsOfSpec)

/-- ITS FALSE NEIGHBOUR: 'it returns false'. Refute it at one input. -/
def fnExactRunsOfWrong : ChangeSpec := { name := "fnExactRunsOf", fn := fun _ => fun
  | [d] => { results := [.lit (.bool false)], args := [d] }
  | _ => none }
def FnExactRunsOfWrongFalsely : Prop := fnExactRunsOfRow.holds Try.pinned (OpenSpec.ofChange fnExactRunsOfWrong)

/- THE SECOND FORM. 'bulk': how many values and letters a reading holds, each counted each time it is reached (what is shared counts as often as it is met; a slice's spare places count too). A statement '..UptoSaid' is the law's where the arguments, and the package variables that the reading takes, are together of bulk at most 1048576: NARROWER than '..Said'. Prove '..Said' where nothing that the law and all that it calls make is longer than what came in: it says more and counts as full. Else prove '..UptoSaid'. A law counts once. -/
mutual
def uptoBulk {H : Type} : DataW H → Nat
  | .lit (.string bytes) => bytes.length + 1
  | .lit _ => 1
  | .nil => 1
  | .ptr d => uptoBulk d + 1
  | .slice elems spare => uptoBulkAll elems + uptoBulkAll spare + 1
  | .agg parts => uptoBulkAll parts + 1
  | .iface _ d => uptoBulk d + 1
  | .map entries => uptoBulkEntries entries + 1
  | .held _ => 1
def uptoBulkAll {H : Type} : List (DataW H) → Nat
  | [] => 0
  | d :: r => uptoBulk d + uptoBulkAll r
def uptoBulkEntries {H : Type} : List (Lit × DataW H) → Nat
  | [] => 0
  | x :: r => uptoBulkEntry x + uptoBulkEntries r
def uptoBulkEntry {H : Type} : Lit × DataW H → Nat
  | (.string bytes, d) => bytes.length + uptoBulk d + 1
  | (_, d) => uptoBulk d + 1
 end
def uptoSmall : (H : Type) → List (DataW H) → Bool := fun _ ds => decide (uptoBulkAll ds ≤ 1048576)
def OpenSpec.upto (s : _root_.Go.ChangeSpec) : _root_.Go.OpenSpec := { _root_.Go.OpenSpec.ofChange s with cond := some uptoSmall }

/-- 'laws.FnExactSplitWords', WHERE WHAT IT READS IS OF BULK AT MOST 1048576: true; the input reads as it did. -/
def fnExactSplitWordsUptoRow : OpenClaim := { program := "ytgeckphkifpbmaa", sum := "3cafd5cca38d960218f4f1600093c1418fcf534e225dd82c755f77f32e92021f", func := "loop.example/g00926/laws.FnExactSplitWords", spec := "fnExactSplitWords", apart := false, narrowed := true }
def FnExactSplitWordsUptoSaid : Prop := fnExactSplitWordsUptoRow.holds Try.pinned (OpenSpec.upto fnExactSplitWordsSpec)

/-- 'laws.FnExactIsName', WHERE WHAT IT READS IS OF BULK AT MOST 1048576: true; the input reads as it did. -/
def fnExactIsNameUptoRow : OpenClaim := { program := "ytgeckphkifpbmaa", sum := "3cafd5cca38d960218f4f1600093c1418fcf534e225dd82c755f77f32e92021f", func := "loop.example/g00926/laws.FnExactIsName", spec := "fnExactIsName", apart := false, narrowed := true }
def FnExactIsNameUptoSaid : Prop := fnExactIsNameUptoRow.holds Try.pinned (OpenSpec.upto fnExactIsNameSpec)

/-- 'laws.FnExactGetNumber', WHERE WHAT IT READS IS OF BULK AT MOST 1048576: true; the input reads as it did. -/
def fnExactGetNumberUptoRow : OpenClaim := { program := "ytgeckphkifpbmaa", sum := "3cafd5cca38d960218f4f1600093c1418fcf534e225dd82c755f77f32e92021f", func := "loop.example/g00926/laws.FnExactGetNumber", spec := "fnExactGetNumber", apart := false, narrowed := true }
def FnExactGetNumberUptoSaid : Prop := fnExactGetNumberUptoRow.holds Try.pinned (OpenSpec.upto fnExactGetNumberSpec)

/-- 'laws.FnExactPutNumber', WHERE WHAT IT READS IS OF BULK AT MOST 1048576: true; the input reads as it did. -/
def fnExactPutNumberUptoRow : OpenClaim := { program := "ytgeckphkifpbmaa", sum := "3cafd5cca38d960218f4f1600093c1418fcf534e225dd82c755f77f32e92021f", func := "loop.example/g00926/laws.FnExactPutNumber", spec := "fnExactPutNumber", apart := false, narrowed := true }
def FnExactPutNumberUptoSaid : Prop := fnExactPutNumberUptoRow.holds Try.pinned (OpenSpec.upto fnExactPutNumberSpec)

/-- 'laws.FnExactCaptureNamed', WHERE WHAT IT READS IS OF BULK AT MOST 1048576: true; the input reads as it did. -/
def fnExactCaptureNamedUptoRow : OpenClaim := { program := "ytgeckphkifpbmaa", sum := "3cafd5cca38d960218f4f1600093c1418fcf534e225dd82c755f77f32e92021f", func := "loop.example/g00926/laws.FnExactCaptureNamed", spec := "fnExactCaptureNamed", apart := false, narrowed := true }
def FnExactCaptureNamedUptoSaid : Prop := fnExactCaptureNamedUptoRow.holds Try.pinned (OpenSpec.upto fnExactCaptureNamedSpec)

/-- 'laws.FnExactSlamNamed', WHERE WHAT IT READS IS OF BULK AT MOST 1048576: true; the input reads as it did. -/
def fnExactSlamNamedUptoRow : OpenClaim := { program := "ytgeckphkifpbmaa", sum := "3cafd5cca38d960218f4f1600093c1418fcf534e225dd82c755f77f32e92021f", func := "loop.example/g00926/laws.FnExactSlamNamed", spec := "fnExactSlamNamed", apart := false, narrowed := true }
def FnExactSlamNamedUptoSaid : Prop := fnExactSlamNamedUptoRow.holds Try.pinned (OpenSpec.upto fnExactSlamNamedSpec)

/-- 'laws.FnCaptureNames', WHERE WHAT IT READS IS OF BULK AT MOST 1048576: true; the input reads as it did. -/
def fnCaptureNamesUptoRow : OpenClaim := { program := "ytgeckphkifpbmaa", sum := "3cafd5cca38d960218f4f1600093c1418fcf534e225dd82c755f77f32e92021f", func := "loop.example/g00926/laws.FnCaptureNames", spec := "fnCaptureNames", apart := false, narrowed := true }
def FnCaptureNamesUptoSaid : Prop := fnCaptureNamesUptoRow.holds Try.pinned (OpenSpec.upto fnCaptureNamesSpec)

/-- 'laws.FnExactPackList', WHERE WHAT IT READS IS OF BULK AT MOST 1048576: true; the input reads as it did. -/
def fnExactPackListUptoRow : OpenClaim := { program := "ytgeckphkifpbmaa", sum := "3cafd5cca38d960218f4f1600093c1418fcf534e225dd82c755f77f32e92021f", func := "loop.example/g00926/laws.FnExactPackList", spec := "fnExactPackList", apart := false, narrowed := true }
def FnExactPackListUptoSaid : Prop := fnExactPackListUptoRow.holds Try.pinned (OpenSpec.upto fnExactPackListSpec)

/-- 'laws.FnExactStandardNames', WHERE WHAT IT READS IS OF BULK AT MOST 1048576: true; the input reads as it did. -/
def fnExactStandardNamesUptoRow : OpenClaim := { program := "ytgeckphkifpbmaa", sum := "3cafd5cca38d960218f4f1600093c1418fcf534e225dd82c755f77f32e92021f", func := "loop.example/g00926/laws.FnExactStandardNames", spec := "fnExactStandardNames", apart := false, narrowed := true }
def FnExactStandardNamesUptoSaid : Prop := fnExactStandardNamesUptoRow.holds Try.pinned (OpenSpec.upto fnExactStandardNamesSpec)

/-- 'laws.FnExactFieldNames', WHERE WHAT IT READS IS OF BULK AT MOST 1048576: true; the input reads as it did. -/
def fnExactFieldNamesUptoRow : OpenClaim := { program := "ytgeckphkifpbmaa", sum := "3cafd5cca38d960218f4f1600093c1418fcf534e225dd82c755f77f32e92021f", func := "loop.example/g00926/laws.FnExactFieldNames", spec := "fnExactFieldNames", apart := false, narrowed := true }
def FnExactFieldNamesUptoSaid : Prop := fnExactFieldNamesUptoRow.holds Try.pinned (OpenSpec.upto fnExactFieldNamesSpec)

/-- 'laws.FnExactStandardRules', WHERE WHAT IT READS IS OF BULK AT MOST 1048576: true; the input reads as it did. -/
def fnExactStandardRulesUptoRow : OpenClaim := { program := "ytgeckphkifpbmaa", sum := "3cafd5cca38d960218f4f1600093c1418fcf534e225dd82c755f77f32e92021f", func := "loop.example/g00926/laws.FnExactStandardRules", spec := "fnExactStandardRules", apart := false, narrowed := true }
def FnExactStandardRulesUptoSaid : Prop := fnExactStandardRulesUptoRow.holds Try.pinned (OpenSpec.upto fnExactStandardRulesSpec)

/-- 'laws.FnExactStandardName', WHERE WHAT IT READS IS OF BULK AT MOST 1048576: true; the input reads as it did. -/
def fnExactStandardNameUptoRow : OpenClaim := { program := "ytgeckphkifpbmaa", sum := "3cafd5cca38d960218f4f1600093c1418fcf534e225dd82c755f77f32e92021f", func := "loop.example/g00926/laws.FnExactStandardName", spec := "fnExactStandardName", apart := false, narrowed := true }
def FnExactStandardNameUptoSaid : Prop := fnExactStandardNameUptoRow.holds Try.pinned (OpenSpec.upto fnExactStandardNameSpec)

/-- 'laws.FnExactSameFacts', WHERE WHAT IT READS IS OF BULK AT MOST 1048576: true; the input reads as it did. -/
def fnExactSameFactsUptoRow : OpenClaim := { program := "ytgeckphkifpbmaa", sum := "3cafd5cca38d960218f4f1600093c1418fcf534e225dd82c755f77f32e92021f", func := "loop.example/g00926/laws.FnExactSameFacts", spec := "fnExactSameFacts", apart := false, narrowed := true }
def FnExactSameFactsUptoSaid : Prop := fnExactSameFactsUptoRow.holds Try.pinned (OpenSpec.upto fnExactSameFactsSpec)

/-- 'laws.FnExactFromRuns', WHERE WHAT IT READS IS OF BULK AT MOST 1048576: true; the input reads as it did. -/
def fnExactFromRunsUptoRow : OpenClaim := { program := "ytgeckphkifpbmaa", sum := "3cafd5cca38d960218f4f1600093c1418fcf534e225dd82c755f77f32e92021f", func := "loop.example/g00926/laws.FnExactFromRuns", spec := "fnExactFromRuns", apart := false, narrowed := true }
def FnExactFromRunsUptoSaid : Prop := fnExactFromRunsUptoRow.holds Try.pinned (OpenSpec.upto fnExactFromRunsSpec)

/-- 'laws.FnExactRunsOf', WHERE WHAT IT READS IS OF BULK AT MOST 1048576: true; the input reads as it did. -/
def fnExactRunsOfUptoRow : OpenClaim := { program := "ytgeckphkifpbmaa", sum := "3cafd5cca38d960218f4f1600093c1418fcf534e225dd82c755f77f32e92021f", func := "loop.example/g00926/laws.FnExactRunsOf", spec := "fnExactRunsOf", apart := false, narrowed := true }
def FnExactRunsOfUptoSaid : Prop := fnExactRunsOfUptoRow.holds Try.pinned (OpenSpec.upto fnExactRunsOfSpec)

end Rows
end Go.Proofs.Ytgeckphkifpbmaa
