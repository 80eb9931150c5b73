/-
  No cell of these rows narrows 'for every input' (looked for: loops, veiled, ifaces, maps, wideKeys, modest, calm, conditions, laid).
  DERIVED. THE GIVEN ROWS OF THIS SEAT. 15 by the template 'for every input the law returns true; each argument reads behind the call as it read before'; 0 by the template 'total and deterministic' (their statements: YtnanaldolnehiaaTotals.lean).
  GIVEN WITH THE SEED: the statements are not yours to turn. If you find one false, say at which input.
  Laid BY PROGRAM, IN A SANDBOX (cutbox-rows.mjs): the forced cells as the released guide's own fill.sh prints them over the translation 58844eff93fc079a… (all of the seat's roots in one cut). By AI agents, Wed Nov 11 2026. No macro, syntax, notation, axiom, sorry.
-/
import Derived.Test.YtnanaldolnehiaaChecked
import GoSem.Claim
import GoSem.ClaimJoined
import GoSem.ClaimMapViews
import Derived.JoinedTies
import Derived.KernelRfl
namespace Go.Proofs.Ytnanaldolnehiaa
/- THE CELL 'sum', in the pinned program and in every row, IS THE sha256 OF THE DUMP (.gsa) THAT YtnanaldolnehiaaProg.lean LOADS. Nothing in Lean hashes anything: it is a label: what it is worth is what the hold of that sum in a sandbox is worth. -/
noncomputable def Try.pinned : Pinned := { name := "ytnanaldolnehiaa", sum := "58844eff93fc079aaf85c9728410084d8a5c92330af84948dbf08382b3275ca0", checked := Try.checked }
namespace Rows
def none {H : Type} : Left H := { results := [], args := [] }

/-- 'laws.FnExactGivePosition': WHATEVER THE INPUT: true; the input reads as it did. -/
def fnExactGivePositionSpec : ChangeSpec := { name := "fnExactGivePosition", fn := fun _ => fun
  | [d1, d2, d3] => { results := [.lit (.bool true)], args := [d1, d2, d3] }
  | _ => none }
def fnExactGivePositionRow : OpenClaim := { program := "ytnanaldolnehiaa", sum := "58844eff93fc079aaf85c9728410084d8a5c92330af84948dbf08382b3275ca0", func := "loop.example/g00926/laws.FnExactGivePosition", spec := "fnExactGivePosition", apart := false }
def FnExactGivePositionSaid : Prop := fnExactGivePositionRow.holds Try.pinned (OpenSpec.ofChange fnExactGivePositionSpec)

/-- ITS FALSE NEIGHBOUR: 'it returns false'. Refute it at one input. -/
def fnExactGivePositionWrong : ChangeSpec := { name := "fnExactGivePosition", fn := fun _ => fun
  | [d1, d2, d3] => { results := [.lit (.bool false)], args := [d1, d2, d3] }
  | _ => none }
def FnExactGivePositionWrongFalsely : Prop := fnExactGivePositionRow.holds Try.pinned (OpenSpec.ofChange fnExactGivePositionWrong)

/-- 'laws.FnExactSettlePosition': WHATEVER THE INPUT: true; the input reads as it did. -/
def fnExactSettlePositionSpec : ChangeSpec := { name := "fnExactSettlePosition", fn := fun _ => fun
  | [d1, d2] => { results := [.lit (.bool true)], args := [d1, d2] }
  | _ => none }
def fnExactSettlePositionRow : OpenClaim := { program := "ytnanaldolnehiaa", sum := "58844eff93fc079aaf85c9728410084d8a5c92330af84948dbf08382b3275ca0", func := "loop.example/g00926/laws.FnExactSettlePosition", spec := "fnExactSettlePosition", apart := false }
def FnExactSettlePositionSaid : Prop := fnExactSettlePositionRow.holds Try.pinned (OpenSpec.ofChange fnExactSettlePositionSpec)

/-- ITS FALSE NEIGHBOUR: 'it returns false'. Refute it at one input. -/
def fnExactSettlePositionWrong : ChangeSpec := { name := "fnExactSettlePosition", fn := fun _ => fun
  | [d1, d2] => { results := [.lit (.bool false)], args := [d1, d2] }
  | _ => none }
def FnExactSettlePositionWrongFalsely : Prop := fnExactSettlePositionRow.holds Try.pinned (OpenSpec.ofChange fnExactSettlePositionWrong)

/-- 'laws.FnExactSameResults': WHATEVER THE INPUT: true; the input reads as it did. -/
def fnExactSameResultsSpec : ChangeSpec := { name := "fnExactSameResults", fn := fun _ => fun
  | [d1, d2] => { results := [.lit (.bool true)], args := [d1, d2] }
  | _ => none }
def fnExactSameResultsRow : OpenClaim := { program := "ytnanaldolnehiaa", sum := "58844eff93fc079aaf85c9728410084d8a5c92330af84948dbf08382b3275ca0", func := "loop.example/g00926/laws.FnExactSameResults", spec := "fnExactSameResults", apart := false }
def FnExactSameResultsSaid : Prop := fnExactSameResultsRow.holds Try.pinned (OpenSpec.ofChange fnExactSameResultsSpec)

/-- ITS FALSE NEIGHBOUR: 'it returns false'. Refute it at one input. -/
def fnExactSameResultsWrong : ChangeSpec := { name := "fnExactSameResults", fn := fun _ => fun
  | [d1, d2] => { results := [.lit (.bool false)], args := [d1, d2] }
  | _ => none }
def FnExactSameResultsWrongFalsely : Prop := fnExactSameResultsRow.holds Try.pinned (OpenSpec.ofChange fnExactSameResultsWrong)

/-- 'laws.FnExactSameGame': WHATEVER THE INPUT: true; the input reads as it did. -/
def fnExactSameGameSpec : ChangeSpec := { name := "fnExactSameGame", fn := fun _ => fun
  | [d1, d2] => { results := [.lit (.bool true)], args := [d1, d2] }
  | _ => none }
def fnExactSameGameRow : OpenClaim := { program := "ytnanaldolnehiaa", sum := "58844eff93fc079aaf85c9728410084d8a5c92330af84948dbf08382b3275ca0", func := "loop.example/g00926/laws.FnExactSameGame", spec := "fnExactSameGame", apart := false }
def FnExactSameGameSaid : Prop := fnExactSameGameRow.holds Try.pinned (OpenSpec.ofChange fnExactSameGameSpec)

/-- ITS FALSE NEIGHBOUR: 'it returns false'. Refute it at one input. -/
def fnExactSameGameWrong : ChangeSpec := { name := "fnExactSameGame", fn := fun _ => fun
  | [d1, d2] => { results := [.lit (.bool false)], args := [d1, d2] }
  | _ => none }
def FnExactSameGameWrongFalsely : Prop := fnExactSameGameRow.holds Try.pinned (OpenSpec.ofChange fnExactSameGameWrong)

/-- 'laws.FnExactSplitWords': WHATEVER THE INPUT: true; the input reads as it did. -/
def fnExactSplitWordsSpec : ChangeSpec := { name := "fnExactSplitWords", fn := fun _ => fun
  | [d] => { results := [.lit (.bool true)], args := [d] }
  | _ => none }
def fnExactSplitWordsRow : OpenClaim := { program := "ytnanaldolnehiaa", sum := "58844eff93fc079aaf85c9728410084d8a5c92330af84948dbf08382b3275ca0", func := "loop.example/g00926/laws.FnExactSplitWords", spec := "fnExactSplitWords", apart := false }
def FnExactSplitWordsSaid : Prop := fnExactSplitWordsRow.holds Try.pinned (OpenSpec.ofChange fnExactSplitWordsSpec)

/-- ITS FALSE NEIGHBOUR: 'it returns false'. Refute it at one input. -/
def fnExactSplitWordsWrong : ChangeSpec := { name := "fnExactSplitWords", fn := fun _ => fun
  | [d] => { results := [.lit (.bool false)], args := [d] }
  | _ => none }
def FnExactSplitWordsWrongFalsely : Prop := fnExactSplitWordsRow.holds Try.pinned (OpenSpec.ofChange fnExactSplitWordsWrong)

/-- 'laws.FnExactGetNumber': WHATEVER THE INPUT: true; the input reads as it did. -/
def fnExactGetNumberSpec : ChangeSpec := { name := "fnExactGetNumber", fn := fun _ => fun
  | [d1, d2] => { results := [.lit (.bool true)], args := [d1, d2] }
  | _ => none }
def fnExactGetNumberRow : OpenClaim := { program := "ytnanaldolnehiaa", sum := "58844eff93fc079aaf85c9728410084d8a5c92330af84948dbf08382b3275ca0", func := "loop.example/g00926/laws.FnExactGetNumber", spec := "fnExactGetNumber", apart := false }
def FnExactGetNumberSaid : Prop := fnExactGetNumberRow.holds Try.pinned (OpenSpec.ofChange fnExactGetNumberSpec)

/-- ITS FALSE NEIGHBOUR: 'it returns false'. Refute it at one input. -/
def fnExactGetNumberWrong : ChangeSpec := { name := "fnExactGetNumber", fn := fun _ => fun
  | [d1, d2] => { results := [.lit (.bool false)], args := [d1, d2] }
  | _ => none }
def FnExactGetNumberWrongFalsely : Prop := fnExactGetNumberRow.holds Try.pinned (OpenSpec.ofChange fnExactGetNumberWrong)

/-- 'laws.FnExactPackList': WHATEVER THE INPUT: true; the input reads as it did. -/
def fnExactPackListSpec : ChangeSpec := { name := "fnExactPackList", fn := fun _ => fun
  | [d] => { results := [.lit (.bool true)], args := [d] }
  | _ => none }
def fnExactPackListRow : OpenClaim := { program := "ytnanaldolnehiaa", sum := "58844eff93fc079aaf85c9728410084d8a5c92330af84948dbf08382b3275ca0", func := "loop.example/g00926/laws.FnExactPackList", spec := "fnExactPackList", apart := false }
def FnExactPackListSaid : Prop := fnExactPackListRow.holds Try.pinned (OpenSpec.ofChange fnExactPackListSpec)

/-- ITS FALSE NEIGHBOUR: 'it returns false'. Refute it at one input. -/
def fnExactPackListWrong : ChangeSpec := { name := "fnExactPackList", fn := fun _ => fun
  | [d] => { results := [.lit (.bool false)], args := [d] }
  | _ => none }
def FnExactPackListWrongFalsely : Prop := fnExactPackListRow.holds Try.pinned (OpenSpec.ofChange fnExactPackListWrong)

/-- 'laws.FnExactSameFacts': WHATEVER THE INPUT: true; the input reads as it did. -/
def fnExactSameFactsSpec : ChangeSpec := { name := "fnExactSameFacts", fn := fun _ => fun
  | [d1, d2] => { results := [.lit (.bool true)], args := [d1, d2] }
  | _ => none }
def fnExactSameFactsRow : OpenClaim := { program := "ytnanaldolnehiaa", sum := "58844eff93fc079aaf85c9728410084d8a5c92330af84948dbf08382b3275ca0", func := "loop.example/g00926/laws.FnExactSameFacts", spec := "fnExactSameFacts", apart := false }
def FnExactSameFactsSaid : Prop := fnExactSameFactsRow.holds Try.pinned (OpenSpec.ofChange fnExactSameFactsSpec)

/-- ITS FALSE NEIGHBOUR: 'it returns false'. Refute it at one input. -/
def fnExactSameFactsWrong : ChangeSpec := { name := "fnExactSameFacts", fn := fun _ => fun
  | [d1, d2] => { results := [.lit (.bool false)], args := [d1, d2] }
  | _ => none }
def FnExactSameFactsWrongFalsely : Prop := fnExactSameFactsRow.holds Try.pinned (OpenSpec.ofChange fnExactSameFactsWrong)

/-- 'laws.FnExactFromRuns': WHATEVER THE INPUT: true; the input reads as it did. -/
def fnExactFromRunsSpec : ChangeSpec := { name := "fnExactFromRuns", fn := fun _ => fun
  | [d] => { results := [.lit (.bool true)], args := [d] }
  | _ => none }
def fnExactFromRunsRow : OpenClaim := { program := "ytnanaldolnehiaa", sum := "58844eff93fc079aaf85c9728410084d8a5c92330af84948dbf08382b3275ca0", func := "loop.example/g00926/laws.FnExactFromRuns", spec := "fnExactFromRuns", apart := false }
def FnExactFromRunsSaid : Prop := fnExactFromRunsRow.holds Try.pinned (OpenSpec.ofChange fnExactFromRunsSpec)

/-- ITS FALSE NEIGHBOUR: 'it returns false'. Refute it at one input. -/
def fnExactFromRunsWrong : ChangeSpec := { name := "fnExactFromRuns", fn := fun _ => fun
  | [d] => { results := [.lit (.bool false)], args := [d] }
  | _ => none }
def FnExactFromRunsWrongFalsely : Prop := fnExactFromRunsRow.holds Try.pinned (OpenSpec.ofChange fnExactFromRunsWrong)

/-- 'laws.FnExactRunsOf': WHATEVER THE INPUT: true; the input reads as it did. -/
def fnExactRunsOfSpec : ChangeSpec := { name := "fnExactRunsOf", fn := fun _ => fun
  | [d] => { results := [.lit (.bool true)], args := [d] }
  | _ => none }
def fnExactRunsOfRow : OpenClaim := { program := "ytnanaldolnehiaa", sum := "58844eff93fc079aaf85c9728410084d8a5c92330af84948dbf08382b3275ca0", func := "loop.example/g00926/laws.FnExactRunsOf", spec := "fnExactRunsOf", apart := false }
def FnExactRunsOfSaid : Prop := fnExactRunsOfRow.holds Try.pinned (OpenSpec.ofChange fnExactRunsOfSpec)

/-- ITS FALSE NEIGHBOUR: 'it returns false'. Refute it at one input. -/
def fnExactRunsOfWrong : ChangeSpec := { name := "fnExactRunsOf", fn := fun _ => fun
  | [d] => { results := [.lit (.bool false)], args := [d] }
  | _ => none }
def FnExactRunsOfWrongFalsely : Prop := fnExactRunsOfRow.holds Try.pinned (OpenSpec.ofChange fnExactRunsOfWrong)

/-- 'laws.FnCaptureNames': WHATEVER THE INPUT: true; the input reads as it did. -/
def fnCaptureNamesSpec : ChangeSpec := { name := "fnCaptureNames", fn := fun _ => fun
  | [d] => { results := [.lit (.bool true)], args := [d] }
  | _ => none }
def fnCaptureNamesRow : OpenClaim := { program := "ytnanaldolnehiaa", sum := "58844eff93fc079aaf85c9728410084d8a5c92330af84948dbf08382b3275ca0", func := "loop.example/g00926/laws.FnCaptureNames", spec := "fnCaptureNames", apart := false }
def FnCaptureNamesSaid : Prop := fnCaptureNamesRow.holds Try.pinned (OpenSpec.ofChange fnCaptureNamesSpec)

/-- ITS FALSE NEIGHBOUR: 'it returns false'. Refute it at one input. -/
def fnCaptureNamesWrong : ChangeSpec := { name := "fnCaptureNames", fn := fun _ => fun
  | [d] => { results := [.lit (.bool false)], args := [d] }
  | _ => none }
def FnCaptureNamesWrongFalsely : Prop := fnCaptureNamesRow.holds Try.pinned (OpenSpec.ofChange fnCaptureNamesWrong)

/-- 'laws.FnStandard': WHATEVER THE INPUT: true; the input reads as it did. -/
def fnStandardSpec : ChangeSpec := { name := "fnStandard", fn := fun _ => fun
  | [d] => { results := [.lit (.bool true)], args := [d] }
  | _ => none }
def fnStandardRow : OpenClaim := { program := "ytnanaldolnehiaa", sum := "58844eff93fc079aaf85c9728410084d8a5c92330af84948dbf08382b3275ca0", func := "loop.example/g00926/laws.FnStandard", spec := "fnStandard", apart := false }
def FnStandardSaid : Prop := fnStandardRow.holds Try.pinned (OpenSpec.ofChange fnStandardSpec)

/-- ITS FALSE NEIGHBOUR: 'it returns false'. Refute it at one input. -/
def fnStandardWrong : ChangeSpec := { name := "fnStandard", fn := fun _ => fun
  | [d] => { results := [.lit (.bool false)], args := [d] }
  | _ => none }
def FnStandardWrongFalsely : Prop := fnStandardRow.holds Try.pinned (OpenSpec.ofChange fnStandardWrong)

/-- 'laws.FnPits': WHATEVER THE INPUT: true; the input reads as it did. -/
def fnPitsSpec : ChangeSpec := { name := "fnPits", fn := fun _ => fun
  | [d1, d2] => { results := [.lit (.bool true)], args := [d1, d2] }
  | _ => none }
def fnPitsRow : OpenClaim := { program := "ytnanaldolnehiaa", sum := "58844eff93fc079aaf85c9728410084d8a5c92330af84948dbf08382b3275ca0", func := "loop.example/g00926/laws.FnPits", spec := "fnPits", apart := false }
def FnPitsSaid : Prop := fnPitsRow.holds Try.pinned (OpenSpec.ofChange fnPitsSpec)

/-- ITS FALSE NEIGHBOUR: 'it returns false'. Refute it at one input. -/
def fnPitsWrong : ChangeSpec := { name := "fnPits", fn := fun _ => fun
  | [d1, d2] => { results := [.lit (.bool false)], args := [d1, d2] }
  | _ => none }
def FnPitsWrongFalsely : Prop := fnPitsRow.holds Try.pinned (OpenSpec.ofChange fnPitsWrong)

/-- 'laws.FnPositionOrder': WHATEVER THE INPUT: true; the input reads as it did. -/
def fnPositionOrderSpec : ChangeSpec := { name := "fnPositionOrder", fn := fun _ => fun
  | [d1, d2] => { results := [.lit (.bool true)], args := [d1, d2] }
  | _ => none }
def fnPositionOrderRow : OpenClaim := { program := "ytnanaldolnehiaa", sum := "58844eff93fc079aaf85c9728410084d8a5c92330af84948dbf08382b3275ca0", func := "loop.example/g00926/laws.FnPositionOrder", spec := "fnPositionOrder", apart := false }
def FnPositionOrderSaid : Prop := fnPositionOrderRow.holds Try.pinned (OpenSpec.ofChange fnPositionOrderSpec)

/-- ITS FALSE NEIGHBOUR: 'it returns false'. Refute it at one input. -/
def fnPositionOrderWrong : ChangeSpec := { name := "fnPositionOrder", fn := fun _ => fun
  | [d1, d2] => { results := [.lit (.bool false)], args := [d1, d2] }
  | _ => none }
def FnPositionOrderWrongFalsely : Prop := fnPositionOrderRow.holds Try.pinned (OpenSpec.ofChange fnPositionOrderWrong)

/-- 'laws.FnSettled': WHATEVER THE INPUT: true; the input reads as it did. -/
def fnSettledSpec : ChangeSpec := { name := "fnSettled", fn := fun _ => fun
  | [d] => { results := [.lit (.bool true)], args := [d] }
  | _ => none }
def fnSettledRow : OpenClaim := { program := "ytnanaldolnehiaa", sum := "58844eff93fc079aaf85c9728410084d8a5c92330af84948dbf08382b3275ca0", func := "loop.example/g00926/laws.FnSettled", spec := "fnSettled", apart := false }
def FnSettledSaid : Prop := fnSettledRow.holds Try.pinned (OpenSpec.ofChange fnSettledSpec)

/-- ITS FALSE NEIGHBOUR: 'it returns false'. Refute it at one input. -/
def fnSettledWrong : ChangeSpec := { name := "fnSettled", fn := fun _ => fun
  | [d] => { results := [.lit (.bool false)], args := [d] }
  | _ => none }
def FnSettledWrongFalsely : Prop := fnSettledRow.holds Try.pinned (OpenSpec.ofChange fnSettledWrong)

/- THE SECOND FORM. 'bulk': how many values and letters a reading holds, each counted each time it is reached (what is shared counts as often as it is met; a slice's spare places count too). A statement '..UptoSaid' is the law's where the arguments, and the package variables that the reading takes, are together of bulk at most 1048576: NARROWER than '..Said'. Prove '..Said' where nothing that the law and all that it calls make is longer than what came in: it says more and counts as full. Else prove '..UptoSaid'. A law counts once. -/
mutual
def uptoBulk {H : Type} : DataW H → Nat
  | .lit (.string bytes) => bytes.length + 1
  | .lit _ => 1
  | .nil => 1
  | .ptr d => uptoBulk d + 1
  | .slice elems spare => uptoBulkAll elems + uptoBulkAll spare + 1
  | .agg parts => uptoBulkAll parts + 1
  | .iface _ d => uptoBulk d + 1
  | .map entries => uptoBulkEntries entries + 1
  | .held _ => 1
def uptoBulkAll {H : Type} : List (DataW H) → Nat
  | [] => 0
  | d :: r => uptoBulk d + uptoBulkAll r
def uptoBulkEntries {H : Type} : List (Lit × DataW H) → Nat
  | [] => 0
  | x :: r => uptoBulkEntry x + uptoBulkEntries r
def uptoBulkEntry {H : Type} : Lit × DataW H → Nat
  | (.string bytes, d) => bytes.length + uptoBulk d + 1
  | (_, d) => uptoBulk d + 1
 end
def uptoSmall : (H : Type) → List (DataW H) → Bool := fun _ ds => decide (uptoBulkAll ds ≤ 1048576)
def OpenSpec.upto (s : _root_.Go.ChangeSpec) : _root_.Go.OpenSpec := { _root_.Go.OpenSpec.ofChange s with cond := some uptoSmall }

/-- 'laws.FnExactGivePosition', WHERE WHAT IT READS IS OF BULK AT MOST 1048576: true; the input reads as it did. -/
def fnExactGivePositionUptoRow : OpenClaim := { program := "ytnanaldolnehiaa", sum := "58844eff93fc079aaf85c9728410084d8a5c92330af84948dbf08382b3275ca0", func := "loop.example/g00926/laws.FnExactGivePosition", spec := "fnExactGivePosition", apart := false, narrowed := true }
def FnExactGivePositionUptoSaid : Prop := fnExactGivePositionUptoRow.holds Try.pinned (OpenSpec.upto fnExactGivePositionSpec)

/-- 'laws.FnExactSettlePosition', WHERE WHAT IT READS IS OF BULK AT MOST 1048576: true; the input reads as it did. -/
def fnExactSettlePositionUptoRow : OpenClaim := { program := "ytnanaldolnehiaa", sum := "58844eff93fc079aaf85c9728410084d8a5c92330af84948dbf08382b3275ca0", func := "loop.example/g00926/laws.FnExactSettlePosition", spec := "fnExactSettlePosition", apart := false, narrowed := true }
def FnExactSettlePositionUptoSaid : Prop := fnExactSettlePositionUptoRow.holds Try.pinned (OpenSpec.upto fnExactSettlePositionSpec)

/-- 'laws.FnExactSameResults', WHERE WHAT IT READS IS OF BULK AT MOST 1048576: true; the input reads as it did. -/
def fnExactSameResultsUptoRow : OpenClaim := { program := "ytnanaldolnehiaa", sum := "58844eff93fc079aaf85c9728410084d8a5c92330af84948dbf08382b3275ca0", func := "loop.example/g00926/laws.FnExactSameResults", spec := "fnExactSameResults", apart := false, narrowed := true }
def FnExactSameResultsUptoSaid : Prop := fnExactSameResultsUptoRow.holds Try.pinned (OpenSpec.upto fnExactSameResultsSpec)

/-- 'laws.FnExactSameGame', WHERE WHAT IT READS IS OF BULK AT MOST 1048576: true; the input reads as it did. -/
def fnExactSameGameUptoRow : OpenClaim := { program := "ytnanaldolnehiaa", sum := "58844eff93fc079aaf85c9728410084d8a5c92330af84948dbf08382b3275ca0", func := "loop.example/g00926/laws.FnExactSameGame", spec := "fnExactSameGame", apart := false, narrowed := true }
def FnExactSameGameUptoSaid : Prop := fnExactSameGameUptoRow.holds Try.pinned (OpenSpec.upto fnExactSameGameSpec)

/-- 'laws.FnExactSplitWords', WHERE WHAT IT READS IS OF BULK AT MOST 1048576: true; the input reads as it did. -/
def fnExactSplitWordsUptoRow : OpenClaim := { program := "ytnanaldolnehiaa", sum := "58844eff93fc079aaf85c9728410084d8a5c92330af84948dbf08382b3275ca0", func := "loop.example/g00926/laws.FnExactSplitWords", spec := "fnExactSplitWords", apart := false, narrowed := true }
def FnExactSplitWordsUptoSaid : Prop := fnExactSplitWordsUptoRow.holds Try.pinned (OpenSpec.upto fnExactSplitWordsSpec)

/-- 'laws.FnExactGetNumber', WHERE WHAT IT READS IS OF BULK AT MOST 1048576: true; the input reads as it did. -/
def fnExactGetNumberUptoRow : OpenClaim := { program := "ytnanaldolnehiaa", sum := "58844eff93fc079aaf85c9728410084d8a5c92330af84948dbf08382b3275ca0", func := "loop.example/g00926/laws.FnExactGetNumber", spec := "fnExactGetNumber", apart := false, narrowed := true }
def FnExactGetNumberUptoSaid : Prop := fnExactGetNumberUptoRow.holds Try.pinned (OpenSpec.upto fnExactGetNumberSpec)

/-- 'laws.FnExactPackList', WHERE WHAT IT READS IS OF BULK AT MOST 1048576: true; the input reads as it did. -/
def fnExactPackListUptoRow : OpenClaim := { program := "ytnanaldolnehiaa", sum := "58844eff93fc079aaf85c9728410084d8a5c92330af84948dbf08382b3275ca0", func := "loop.example/g00926/laws.FnExactPackList", spec := "fnExactPackList", apart := false, narrowed := true }
def FnExactPackListUptoSaid : Prop := fnExactPackListUptoRow.holds Try.pinned (OpenSpec.upto fnExactPackListSpec)

/-- 'laws.FnExactSameFacts', WHERE WHAT IT READS IS OF BULK AT MOST 1048576: true; the input reads as it did. -/
def fnExactSameFactsUptoRow : OpenClaim := { program := "ytnanaldolnehiaa", sum := "58844eff93fc079aaf85c9728410084d8a5c92330af84948dbf08382b3275ca0", func := "loop.example/g00926/laws.FnExactSameFacts", spec := "fnExactSameFacts", apart := false, narrowed := true }
def FnExactSameFactsUptoSaid : Prop := fnExactSameFactsUptoRow.holds Try.pinned (OpenSpec.upto fnExactSameFactsSpec)

/-- 'laws.FnExactFromRuns', WHERE WHAT IT READS IS OF BULK AT MOST 1048576: true; the input reads as it did. -/
def fnExactFromRunsUptoRow : OpenClaim := { program := "ytnanaldolnehiaa", sum := "58844eff93fc079aaf85c9728410084d8a5c92330af84948dbf08382b3275ca0", func := "loop.example/g00926/laws.FnExactFromRuns", spec := "fnExactFromRuns", apart := false, narrowed := true }
def FnExactFromRunsUptoSaid : Prop := fnExactFromRunsUptoRow.holds Try.pinned (OpenSpec.upto fnExactFromRunsSpec)

/-- 'laws.FnExactRunsOf', WHERE WHAT IT READS IS OF BULK AT MOST 1048576: true; the input reads as it did. -/
def fnExactRunsOfUptoRow : OpenClaim := { program := "ytnanaldolnehiaa", sum := "58844eff93fc079aaf85c9728410084d8a5c92330af84948dbf08382b3275ca0", func := "loop.example/g00926/laws.FnExactRunsOf", spec := "fnExactRunsOf", apart := false, narrowed := true }
def FnExactRunsOfUptoSaid : Prop := fnExactRunsOfUptoRow.holds Try.pinned (OpenSpec.upto fnExactRunsOfSpec)

/-- 'laws.FnCaptureNames', WHERE WHAT IT READS IS OF BULK AT MOST 1048576: true; the input reads as it did. -/
def fnCaptureNamesUptoRow : OpenClaim := { program := "ytnanaldolnehiaa", sum := "58844eff93fc079aaf85c9728410084d8a5c92330af84948dbf08382b3275ca0", func := "loop.example/g00926/laws.FnCaptureNames", spec := "fnCaptureNames", apart := false, narrowed := true }
def FnCaptureNamesUptoSaid : Prop := fnCaptureNamesUptoRow.holds Try.pinned (OpenSpec.upto fnCaptureNamesSpec)

/-- 'laws.FnStandard', WHERE WHAT IT READS IS OF BULK AT MOST 1048576: true; the input reads as it did. -/
def fnStandardUptoRow : OpenClaim := { program := "ytnanaldolnehiaa", sum := "58844eff93fc079aaf85c9728410084d8a5c92330af84948dbf08382b3275ca0", func := "loop.example/g00926/laws.FnStandard", spec := "fnStandard", apart := false, narrowed := true }
def FnStandardUptoSaid : Prop := fnStandardUptoRow.holds Try.pinned (OpenSpec.upto fnStandardSpec)

/-- 'laws.FnPits', WHERE WHAT IT READS IS OF BULK AT MOST 1048576: true; the input reads as it did. -/
def fnPitsUptoRow : OpenClaim := { program := "ytnanaldolnehiaa", sum := "58844eff93fc079aaf85c9728410084d8a5c92330af84948dbf08382b3275ca0", func := "loop.example/g00926/laws.FnPits", spec := "fnPits", apart := false, narrowed := true }
def FnPitsUptoSaid : Prop := fnPitsUptoRow.holds Try.pinned (OpenSpec.upto fnPitsSpec)

/-- 'laws.FnPositionOrder', WHERE WHAT IT READS IS OF BULK AT MOST 1048576: true; the input reads as it did. -/
def fnPositionOrderUptoRow : OpenClaim := { program := "ytnanaldolnehiaa", sum := "58844eff93fc079aaf85c9728410084d8a5c92330af84948dbf08382b3275ca0", func := "loop.example/g00926/laws.FnPositionOrder", spec := "fnPositionOrder", apart := false, narrowed := true }
def FnPositionOrderUptoSaid : Prop := fnPositionOrderUptoRow.holds Try.pinned (OpenSpec.upto fnPositionOrderSpec)

/-- 'laws.FnSettled', WHERE WHAT IT READS IS OF BULK AT MOST 1048576: true; the input reads as it did. -/
def fnSettledUptoRow : OpenClaim := { program := "ytnanaldolnehiaa", sum := "58844eff93fc079aaf85c9728410084d8a5c92330af84948dbf08382b3275ca0", func := "loop.example/g00926/laws.FnSettled", spec := "fnSettled", apart := false, narrowed := true }
def FnSettledUptoSaid : Prop := fnSettledUptoRow.holds Try.pinned (OpenSpec.upto fnSettledSpec)

end Rows
end Go.Proofs.Ytnanaldolnehiaa
