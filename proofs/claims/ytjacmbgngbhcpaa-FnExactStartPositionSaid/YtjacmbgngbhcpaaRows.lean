/-
  No cell of these rows narrows 'for every input' (looked for: loops, veiled, ifaces, maps, wideKeys, modest, calm, conditions, laid).
  DERIVED. THE GIVEN ROWS OF THIS SEAT. 15 by the template 'for every input the law returns true; each argument reads behind the call as it read before'; 0 by the template 'total and deterministic' (their statements: YtjacmbgngbhcpaaTotals.lean).
  GIVEN WITH THE SEED: the statements are not yours to turn. If you find one false, say at which input.
  Laid BY PROGRAM, IN A SANDBOX (cutbox-rows.mjs): the forced cells as the released guide's own fill.sh prints them over the translation 4d91895ecf41286a… (all of the seat's roots in one cut). By AI agents, Wed Nov 11 2026. No macro, syntax, notation, axiom, sorry.
-/
import Derived.Test.YtjacmbgngbhcpaaChecked
import GoSem.Claim
import GoSem.ClaimJoined
import GoSem.ClaimMapViews
import Derived.JoinedTies
import Derived.KernelRfl
namespace Go.Proofs.Ytjacmbgngbhcpaa
/- THE CELL 'sum', in the pinned program and in every row, IS THE sha256 OF THE DUMP (.gsa) THAT YtjacmbgngbhcpaaProg.lean LOADS. Nothing in Lean hashes anything: it is a label: what it is worth is what the hold of that sum in a sandbox is worth. -/
noncomputable def Try.pinned : Pinned := { name := "ytjacmbgngbhcpaa", sum := "4d91895ecf41286a5b0db708ca6c1c054e3b74376cdd1144af3aa7a9e4ee3bb0", checked := Try.checked }
namespace Rows
def none {H : Type} : Left H := { results := [], args := [] }

/-- 'laws.FnExactSownSeeds': WHATEVER THE INPUT: true; the input reads as it did. -/
def fnExactSownSeedsSpec : ChangeSpec := { name := "fnExactSownSeeds", fn := fun _ => fun
  | [d] => { results := [.lit (.bool true)], args := [d] }
  | _ => none }
def fnExactSownSeedsRow : OpenClaim := { program := "ytjacmbgngbhcpaa", sum := "4d91895ecf41286a5b0db708ca6c1c054e3b74376cdd1144af3aa7a9e4ee3bb0", func := "loop.example/g00926/laws.FnExactSownSeeds", spec := "fnExactSownSeeds", apart := false }
def FnExactSownSeedsSaid : Prop := fnExactSownSeedsRow.holds Try.pinned (OpenSpec.ofChange fnExactSownSeedsSpec)

/-- ITS FALSE NEIGHBOUR: 'it returns false'. Refute it at one input. -/
def fnExactSownSeedsWrong : ChangeSpec := { name := "fnExactSownSeeds", fn := fun _ => fun
  | [d] => { results := [.lit (.bool false)], args := [d] }
  | _ => none }
def FnExactSownSeedsWrongFalsely : Prop := fnExactSownSeedsRow.holds Try.pinned (OpenSpec.ofChange fnExactSownSeedsWrong)

/-- 'laws.FnExactSameSown': WHATEVER THE INPUT: true; the input reads as it did. -/
def fnExactSameSownSpec : ChangeSpec := { name := "fnExactSameSown", fn := fun _ => fun
  | [d1, d2] => { results := [.lit (.bool true)], args := [d1, d2] }
  | _ => none }
def fnExactSameSownRow : OpenClaim := { program := "ytjacmbgngbhcpaa", sum := "4d91895ecf41286a5b0db708ca6c1c054e3b74376cdd1144af3aa7a9e4ee3bb0", func := "loop.example/g00926/laws.FnExactSameSown", spec := "fnExactSameSown", apart := false }
def FnExactSameSownSaid : Prop := fnExactSameSownRow.holds Try.pinned (OpenSpec.ofChange fnExactSameSownSpec)

/-- ITS FALSE NEIGHBOUR: 'it returns false'. Refute it at one input. -/
def fnExactSameSownWrong : ChangeSpec := { name := "fnExactSameSown", fn := fun _ => fun
  | [d1, d2] => { results := [.lit (.bool false)], args := [d1, d2] }
  | _ => none }
def FnExactSameSownWrongFalsely : Prop := fnExactSameSownRow.holds Try.pinned (OpenSpec.ofChange fnExactSameSownWrong)

/-- 'laws.FnExactStartPosition': WHATEVER THE INPUT: true; the input reads as it did. -/
def fnExactStartPositionSpec : ChangeSpec := { name := "fnExactStartPosition", fn := fun _ => fun
  | [d] => { results := [.lit (.bool true)], args := [d] }
  | _ => none }
def fnExactStartPositionRow : OpenClaim := { program := "ytjacmbgngbhcpaa", sum := "4d91895ecf41286a5b0db708ca6c1c054e3b74376cdd1144af3aa7a9e4ee3bb0", func := "loop.example/g00926/laws.FnExactStartPosition", spec := "fnExactStartPosition", apart := false }
def FnExactStartPositionSaid : Prop := fnExactStartPositionRow.holds Try.pinned (OpenSpec.ofChange fnExactStartPositionSpec)

/-- ITS FALSE NEIGHBOUR: 'it returns false'. Refute it at one input. -/
def fnExactStartPositionWrong : ChangeSpec := { name := "fnExactStartPosition", fn := fun _ => fun
  | [d] => { results := [.lit (.bool false)], args := [d] }
  | _ => none }
def FnExactStartPositionWrongFalsely : Prop := fnExactStartPositionRow.holds Try.pinned (OpenSpec.ofChange fnExactStartPositionWrong)

/-- 'laws.FnExactComparePositions': WHATEVER THE INPUT: true; the input reads as it did. -/
def fnExactComparePositionsSpec : ChangeSpec := { name := "fnExactComparePositions", fn := fun _ => fun
  | [d1, d2] => { results := [.lit (.bool true)], args := [d1, d2] }
  | _ => none }
def fnExactComparePositionsRow : OpenClaim := { program := "ytjacmbgngbhcpaa", sum := "4d91895ecf41286a5b0db708ca6c1c054e3b74376cdd1144af3aa7a9e4ee3bb0", func := "loop.example/g00926/laws.FnExactComparePositions", spec := "fnExactComparePositions", apart := false }
def FnExactComparePositionsSaid : Prop := fnExactComparePositionsRow.holds Try.pinned (OpenSpec.ofChange fnExactComparePositionsSpec)

/-- ITS FALSE NEIGHBOUR: 'it returns false'. Refute it at one input. -/
def fnExactComparePositionsWrong : ChangeSpec := { name := "fnExactComparePositions", fn := fun _ => fun
  | [d1, d2] => { results := [.lit (.bool false)], args := [d1, d2] }
  | _ => none }
def FnExactComparePositionsWrongFalsely : Prop := fnExactComparePositionsRow.holds Try.pinned (OpenSpec.ofChange fnExactComparePositionsWrong)

/-- 'laws.FnExactIsWhole': WHATEVER THE INPUT: true; the input reads as it did. -/
def fnExactIsWholeSpec : ChangeSpec := { name := "fnExactIsWhole", fn := fun _ => fun
  | [d1, d2] => { results := [.lit (.bool true)], args := [d1, d2] }
  | _ => none }
def fnExactIsWholeRow : OpenClaim := { program := "ytjacmbgngbhcpaa", sum := "4d91895ecf41286a5b0db708ca6c1c054e3b74376cdd1144af3aa7a9e4ee3bb0", func := "loop.example/g00926/laws.FnExactIsWhole", spec := "fnExactIsWhole", apart := false }
def FnExactIsWholeSaid : Prop := fnExactIsWholeRow.holds Try.pinned (OpenSpec.ofChange fnExactIsWholeSpec)

/-- ITS FALSE NEIGHBOUR: 'it returns false'. Refute it at one input. -/
def fnExactIsWholeWrong : ChangeSpec := { name := "fnExactIsWhole", fn := fun _ => fun
  | [d1, d2] => { results := [.lit (.bool false)], args := [d1, d2] }
  | _ => none }
def FnExactIsWholeWrongFalsely : Prop := fnExactIsWholeRow.holds Try.pinned (OpenSpec.ofChange fnExactIsWholeWrong)

/-- 'laws.FnExactMustFeed': WHATEVER THE INPUT: true; the input reads as it did. -/
def fnExactMustFeedSpec : ChangeSpec := { name := "fnExactMustFeed", fn := fun _ => fun
  | [d1, d2] => { results := [.lit (.bool true)], args := [d1, d2] }
  | _ => none }
def fnExactMustFeedRow : OpenClaim := { program := "ytjacmbgngbhcpaa", sum := "4d91895ecf41286a5b0db708ca6c1c054e3b74376cdd1144af3aa7a9e4ee3bb0", func := "loop.example/g00926/laws.FnExactMustFeed", spec := "fnExactMustFeed", apart := false }
def FnExactMustFeedSaid : Prop := fnExactMustFeedRow.holds Try.pinned (OpenSpec.ofChange fnExactMustFeedSpec)

/-- ITS FALSE NEIGHBOUR: 'it returns false'. Refute it at one input. -/
def fnExactMustFeedWrong : ChangeSpec := { name := "fnExactMustFeed", fn := fun _ => fun
  | [d1, d2] => { results := [.lit (.bool false)], args := [d1, d2] }
  | _ => none }
def FnExactMustFeedWrongFalsely : Prop := fnExactMustFeedRow.holds Try.pinned (OpenSpec.ofChange fnExactMustFeedWrong)

/-- 'laws.FnExactValidSown': WHATEVER THE INPUT: true; the input reads as it did. -/
def fnExactValidSownSpec : ChangeSpec := { name := "fnExactValidSown", fn := fun _ => fun
  | [d1, d2, d3] => { results := [.lit (.bool true)], args := [d1, d2, d3] }
  | _ => none }
def fnExactValidSownRow : OpenClaim := { program := "ytjacmbgngbhcpaa", sum := "4d91895ecf41286a5b0db708ca6c1c054e3b74376cdd1144af3aa7a9e4ee3bb0", func := "loop.example/g00926/laws.FnExactValidSown", spec := "fnExactValidSown", apart := false }
def FnExactValidSownSaid : Prop := fnExactValidSownRow.holds Try.pinned (OpenSpec.ofChange fnExactValidSownSpec)

/-- ITS FALSE NEIGHBOUR: 'it returns false'. Refute it at one input. -/
def fnExactValidSownWrong : ChangeSpec := { name := "fnExactValidSown", fn := fun _ => fun
  | [d1, d2, d3] => { results := [.lit (.bool false)], args := [d1, d2, d3] }
  | _ => none }
def FnExactValidSownWrongFalsely : Prop := fnExactValidSownRow.holds Try.pinned (OpenSpec.ofChange fnExactValidSownWrong)

/-- 'laws.FnExactSideSeeds': WHATEVER THE INPUT: true; the input reads as it did. -/
def fnExactSideSeedsSpec : ChangeSpec := { name := "fnExactSideSeeds", fn := fun _ => fun
  | [d1, d2, d3] => { results := [.lit (.bool true)], args := [d1, d2, d3] }
  | _ => none }
def fnExactSideSeedsRow : OpenClaim := { program := "ytjacmbgngbhcpaa", sum := "4d91895ecf41286a5b0db708ca6c1c054e3b74376cdd1144af3aa7a9e4ee3bb0", func := "loop.example/g00926/laws.FnExactSideSeeds", spec := "fnExactSideSeeds", apart := false }
def FnExactSideSeedsSaid : Prop := fnExactSideSeedsRow.holds Try.pinned (OpenSpec.ofChange fnExactSideSeedsSpec)

/-- ITS FALSE NEIGHBOUR: 'it returns false'. Refute it at one input. -/
def fnExactSideSeedsWrong : ChangeSpec := { name := "fnExactSideSeeds", fn := fun _ => fun
  | [d1, d2, d3] => { results := [.lit (.bool false)], args := [d1, d2, d3] }
  | _ => none }
def FnExactSideSeedsWrongFalsely : Prop := fnExactSideSeedsRow.holds Try.pinned (OpenSpec.ofChange fnExactSideSeedsWrong)

/-- 'laws.FnExactNeededFor': WHATEVER THE INPUT: true; the input reads as it did. -/
def fnExactNeededForSpec : ChangeSpec := { name := "fnExactNeededFor", fn := fun _ => fun
  | [d1, d2, d3] => { results := [.lit (.bool true)], args := [d1, d2, d3] }
  | _ => none }
def fnExactNeededForRow : OpenClaim := { program := "ytjacmbgngbhcpaa", sum := "4d91895ecf41286a5b0db708ca6c1c054e3b74376cdd1144af3aa7a9e4ee3bb0", func := "loop.example/g00926/laws.FnExactNeededFor", spec := "fnExactNeededFor", apart := false }
def FnExactNeededForSaid : Prop := fnExactNeededForRow.holds Try.pinned (OpenSpec.ofChange fnExactNeededForSpec)

/-- ITS FALSE NEIGHBOUR: 'it returns false'. Refute it at one input. -/
def fnExactNeededForWrong : ChangeSpec := { name := "fnExactNeededFor", fn := fun _ => fun
  | [d1, d2, d3] => { results := [.lit (.bool false)], args := [d1, d2, d3] }
  | _ => none }
def FnExactNeededForWrongFalsely : Prop := fnExactNeededForRow.holds Try.pinned (OpenSpec.ofChange fnExactNeededForWrong)

/-- 'laws.FnExactMajorityOf': WHATEVER THE INPUT: true; the input reads as it did. -/
def fnExactMajorityOfSpec : ChangeSpec := { name := "fnExactMajorityOf", fn := fun _ => fun
  | [d1, d2] => { results := [.lit (.bool true)], args := [d1, d2] }
  | _ => none }
def fnExactMajorityOfRow : OpenClaim := { program := "ytjacmbgngbhcpaa", sum := "4d91895ecf41286a5b0db708ca6c1c054e3b74376cdd1144af3aa7a9e4ee3bb0", func := "loop.example/g00926/laws.FnExactMajorityOf", spec := "fnExactMajorityOf", apart := false }
def FnExactMajorityOfSaid : Prop := fnExactMajorityOfRow.holds Try.pinned (OpenSpec.ofChange fnExactMajorityOfSpec)

/-- ITS FALSE NEIGHBOUR: 'it returns false'. Refute it at one input. -/
def fnExactMajorityOfWrong : ChangeSpec := { name := "fnExactMajorityOf", fn := fun _ => fun
  | [d1, d2] => { results := [.lit (.bool false)], args := [d1, d2] }
  | _ => none }
def FnExactMajorityOfWrongFalsely : Prop := fnExactMajorityOfRow.holds Try.pinned (OpenSpec.ofChange fnExactMajorityOfWrong)

/-- 'laws.FnExactSameResults': WHATEVER THE INPUT: true; the input reads as it did. -/
def fnExactSameResultsSpec : ChangeSpec := { name := "fnExactSameResults", fn := fun _ => fun
  | [d1, d2] => { results := [.lit (.bool true)], args := [d1, d2] }
  | _ => none }
def fnExactSameResultsRow : OpenClaim := { program := "ytjacmbgngbhcpaa", sum := "4d91895ecf41286a5b0db708ca6c1c054e3b74376cdd1144af3aa7a9e4ee3bb0", func := "loop.example/g00926/laws.FnExactSameResults", spec := "fnExactSameResults", apart := false }
def FnExactSameResultsSaid : Prop := fnExactSameResultsRow.holds Try.pinned (OpenSpec.ofChange fnExactSameResultsSpec)

/-- ITS FALSE NEIGHBOUR: 'it returns false'. Refute it at one input. -/
def fnExactSameResultsWrong : ChangeSpec := { name := "fnExactSameResults", fn := fun _ => fun
  | [d1, d2] => { results := [.lit (.bool false)], args := [d1, d2] }
  | _ => none }
def FnExactSameResultsWrongFalsely : Prop := fnExactSameResultsRow.holds Try.pinned (OpenSpec.ofChange fnExactSameResultsWrong)

/-- 'laws.FnExactTurnPosition': WHATEVER THE INPUT: true; the input reads as it did. -/
def fnExactTurnPositionSpec : ChangeSpec := { name := "fnExactTurnPosition", fn := fun _ => fun
  | [d1, d2] => { results := [.lit (.bool true)], args := [d1, d2] }
  | _ => none }
def fnExactTurnPositionRow : OpenClaim := { program := "ytjacmbgngbhcpaa", sum := "4d91895ecf41286a5b0db708ca6c1c054e3b74376cdd1144af3aa7a9e4ee3bb0", func := "loop.example/g00926/laws.FnExactTurnPosition", spec := "fnExactTurnPosition", apart := false }
def FnExactTurnPositionSaid : Prop := fnExactTurnPositionRow.holds Try.pinned (OpenSpec.ofChange fnExactTurnPositionSpec)

/-- ITS FALSE NEIGHBOUR: 'it returns false'. Refute it at one input. -/
def fnExactTurnPositionWrong : ChangeSpec := { name := "fnExactTurnPosition", fn := fun _ => fun
  | [d1, d2] => { results := [.lit (.bool false)], args := [d1, d2] }
  | _ => none }
def FnExactTurnPositionWrongFalsely : Prop := fnExactTurnPositionRow.holds Try.pinned (OpenSpec.ofChange fnExactTurnPositionWrong)

/-- 'laws.FnExactSameGame': WHATEVER THE INPUT: true; the input reads as it did. -/
def fnExactSameGameSpec : ChangeSpec := { name := "fnExactSameGame", fn := fun _ => fun
  | [d1, d2] => { results := [.lit (.bool true)], args := [d1, d2] }
  | _ => none }
def fnExactSameGameRow : OpenClaim := { program := "ytjacmbgngbhcpaa", sum := "4d91895ecf41286a5b0db708ca6c1c054e3b74376cdd1144af3aa7a9e4ee3bb0", func := "loop.example/g00926/laws.FnExactSameGame", spec := "fnExactSameGame", apart := false }
def FnExactSameGameSaid : Prop := fnExactSameGameRow.holds Try.pinned (OpenSpec.ofChange fnExactSameGameSpec)

/-- ITS FALSE NEIGHBOUR: 'it returns false'. Refute it at one input. -/
def fnExactSameGameWrong : ChangeSpec := { name := "fnExactSameGame", fn := fun _ => fun
  | [d1, d2] => { results := [.lit (.bool false)], args := [d1, d2] }
  | _ => none }
def FnExactSameGameWrongFalsely : Prop := fnExactSameGameRow.holds Try.pinned (OpenSpec.ofChange fnExactSameGameWrong)

/-- 'laws.FnExactGivePosition': WHATEVER THE INPUT: true; the input reads as it did. -/
def fnExactGivePositionSpec : ChangeSpec := { name := "fnExactGivePosition", fn := fun _ => fun
  | [d1, d2, d3] => { results := [.lit (.bool true)], args := [d1, d2, d3] }
  | _ => none }
def fnExactGivePositionRow : OpenClaim := { program := "ytjacmbgngbhcpaa", sum := "4d91895ecf41286a5b0db708ca6c1c054e3b74376cdd1144af3aa7a9e4ee3bb0", func := "loop.example/g00926/laws.FnExactGivePosition", spec := "fnExactGivePosition", apart := false }
def FnExactGivePositionSaid : Prop := fnExactGivePositionRow.holds Try.pinned (OpenSpec.ofChange fnExactGivePositionSpec)

/-- ITS FALSE NEIGHBOUR: 'it returns false'. Refute it at one input. -/
def fnExactGivePositionWrong : ChangeSpec := { name := "fnExactGivePosition", fn := fun _ => fun
  | [d1, d2, d3] => { results := [.lit (.bool false)], args := [d1, d2, d3] }
  | _ => none }
def FnExactGivePositionWrongFalsely : Prop := fnExactGivePositionRow.holds Try.pinned (OpenSpec.ofChange fnExactGivePositionWrong)

/-- 'laws.FnExactSettlePosition': WHATEVER THE INPUT: true; the input reads as it did. -/
def fnExactSettlePositionSpec : ChangeSpec := { name := "fnExactSettlePosition", fn := fun _ => fun
  | [d1, d2] => { results := [.lit (.bool true)], args := [d1, d2] }
  | _ => none }
def fnExactSettlePositionRow : OpenClaim := { program := "ytjacmbgngbhcpaa", sum := "4d91895ecf41286a5b0db708ca6c1c054e3b74376cdd1144af3aa7a9e4ee3bb0", func := "loop.example/g00926/laws.FnExactSettlePosition", spec := "fnExactSettlePosition", apart := false }
def FnExactSettlePositionSaid : Prop := fnExactSettlePositionRow.holds Try.pinned (OpenSpec.ofChange fnExactSettlePositionSpec)

/-- ITS FALSE NEIGHBOUR: 'it returns false'. Refute it at one input. -/
def fnExactSettlePositionWrong : ChangeSpec := { name := "fnExactSettlePosition", fn := fun _ => fun
  | [d1, d2] => { results := [.lit (.bool false)], args := [d1, d2] }
  | _ => none }
def FnExactSettlePositionWrongFalsely : Prop := fnExactSettlePositionRow.holds Try.pinned (OpenSpec.ofChange fnExactSettlePositionWrong)

/- THE SECOND FORM. 'bulk': how many values and letters a reading holds, each counted each time it is reached (what is shared counts as often as it is met; a slice's spare places count too). A statement '..UptoSaid' is the law's where the arguments, and the package variables that the reading takes, are together of bulk at most 1048576: NARROWER than '..Said'. Prove '..Said' where nothing that the law and all that it calls make is longer than what came in: it says more and counts as full. Else prove '..UptoSaid'. A law counts once. -/
mutual
def uptoBulk {H : Type} : DataW H → Nat
  | .lit (.string bytes) => bytes.length + 1
  | .lit _ => 1
  | .nil => 1
  | .ptr d => uptoBulk d + 1
  | .slice elems spare => uptoBulkAll elems + uptoBulkAll spare + 1
  | .agg parts => uptoBulkAll parts + 1
  | .iface _ d => uptoBulk d + 1
  | .map entries => uptoBulkEntries entries + 1
  | .held _ => 1
def uptoBulkAll {H : Type} : List (DataW H) → Nat
  | [] => 0
  | d :: r => uptoBulk d + uptoBulkAll r
def uptoBulkEntries {H : Type} : List (Lit × DataW H) → Nat
  | [] => 0
  | x :: r => uptoBulkEntry x + uptoBulkEntries r
def uptoBulkEntry {H : Type} : Lit × DataW H → Nat
  | (.string bytes, d) => bytes.length + uptoBulk d + 1
  | (_, d) => uptoBulk d + 1
 end
def uptoSmall : (H : Type) → List (DataW H) → Bool := fun _ ds => decide (uptoBulkAll ds ≤ 1048576)
def OpenSpec.upto (s : _root_.Go.ChangeSpec) : _root_.Go.OpenSpec := { _root_.Go.OpenSpec.ofChange s with cond := some uptoSmall }

/-- 'laws.FnExactSownSeeds', WHERE WHAT IT READS IS OF BULK AT MOST 1048576: true; the input reads as it did. -/
def fnExactSownSeedsUptoRow : OpenClaim := { program := "ytjacmbgngbhcpaa", sum := "4d91895ecf41286a5b0db708ca6c1c054e3b74376cdd1144af3aa7a9e4ee3bb0", func := "loop.example/g00926/laws.FnExactSownSeeds", spec := "fnExactSownSeeds", apart := false, narrowed := true }
def FnExactSownSeedsUptoSaid : Prop := fnExactSownSeedsUptoRow.holds Try.pinned (OpenSpec.upto fnExactSownSeedsSpec)

/-- 'laws.FnExactSameSown', WHERE WHAT IT READS IS OF BULK AT MOST 1048576: true; the input reads as it did. -/
def fnExactSameSownUptoRow : OpenClaim := { program := "ytjacmbgngbhcpaa", sum := "4d91895ecf41286a5b0db708ca6c1c054e3b74376cdd1144af3aa7a9e4ee3bb0", func := "loop.example/g00926/laws.FnExactSameSown", spec := "fnExactSameSown", apart := false, narrowed := true }
def FnExactSameSownUptoSaid : Prop := fnExactSameSownUptoRow.holds Try.pinned (OpenSpec.upto fnExactSameSownSpec)

/-- 'laws.FnExactStartPosition', WHERE WHAT IT READS IS OF BULK AT MOST 1048576: true; the input reads as it did. -/
def fnExactStartPositionUptoRow : OpenClaim := { program := "ytjacmbgngbhcpaa", sum := "4d91895ecf41286a5b0db708ca6c1c054e3b74376cdd1144af3aa7a9e4ee3bb0", func := "loop.example/g00926/laws.FnExactStartPosition", spec := "fnExactStartPosition", apart := false, narrowed := true }
def FnExactStartPositionUptoSaid : Prop := fnExactStartPositionUptoRow.holds Try.pinned (OpenSpec.upto fnExactStartPositionSpec)

/-- 'laws.FnExactComparePositions', WHERE WHAT IT READS IS OF BULK AT MOST 1048576: true; the input reads as it did. -/
def fnExactComparePositionsUptoRow : OpenClaim := { program := "ytjacmbgngbhcpaa", sum := "4d91895ecf41286a5b0db708ca6c1c054e3b74376cdd1144af3aa7a9e4ee3bb0", func := "loop.example/g00926/laws.FnExactComparePositions", spec := "fnExactComparePositions", apart := false, narrowed := true }
def FnExactComparePositionsUptoSaid : Prop := fnExactComparePositionsUptoRow.holds Try.pinned (OpenSpec.upto fnExactComparePositionsSpec)

/-- 'laws.FnExactIsWhole', WHERE WHAT IT READS IS OF BULK AT MOST 1048576: true; the input reads as it did. -/
def fnExactIsWholeUptoRow : OpenClaim := { program := "ytjacmbgngbhcpaa", sum := "4d91895ecf41286a5b0db708ca6c1c054e3b74376cdd1144af3aa7a9e4ee3bb0", func := "loop.example/g00926/laws.FnExactIsWhole", spec := "fnExactIsWhole", apart := false, narrowed := true }
def FnExactIsWholeUptoSaid : Prop := fnExactIsWholeUptoRow.holds Try.pinned (OpenSpec.upto fnExactIsWholeSpec)

/-- 'laws.FnExactMustFeed', WHERE WHAT IT READS IS OF BULK AT MOST 1048576: true; the input reads as it did. -/
def fnExactMustFeedUptoRow : OpenClaim := { program := "ytjacmbgngbhcpaa", sum := "4d91895ecf41286a5b0db708ca6c1c054e3b74376cdd1144af3aa7a9e4ee3bb0", func := "loop.example/g00926/laws.FnExactMustFeed", spec := "fnExactMustFeed", apart := false, narrowed := true }
def FnExactMustFeedUptoSaid : Prop := fnExactMustFeedUptoRow.holds Try.pinned (OpenSpec.upto fnExactMustFeedSpec)

/-- 'laws.FnExactValidSown', WHERE WHAT IT READS IS OF BULK AT MOST 1048576: true; the input reads as it did. -/
def fnExactValidSownUptoRow : OpenClaim := { program := "ytjacmbgngbhcpaa", sum := "4d91895ecf41286a5b0db708ca6c1c054e3b74376cdd1144af3aa7a9e4ee3bb0", func := "loop.example/g00926/laws.FnExactValidSown", spec := "fnExactValidSown", apart := false, narrowed := true }
def FnExactValidSownUptoSaid : Prop := fnExactValidSownUptoRow.holds Try.pinned (OpenSpec.upto fnExactValidSownSpec)

/-- 'laws.FnExactSideSeeds', WHERE WHAT IT READS IS OF BULK AT MOST 1048576: true; the input reads as it did. -/
def fnExactSideSeedsUptoRow : OpenClaim := { program := "ytjacmbgngbhcpaa", sum := "4d91895ecf41286a5b0db708ca6c1c054e3b74376cdd1144af3aa7a9e4ee3bb0", func := "loop.example/g00926/laws.FnExactSideSeeds", spec := "fnExactSideSeeds", apart := false, narrowed := true }
def FnExactSideSeedsUptoSaid : Prop := fnExactSideSeedsUptoRow.holds Try.pinned (OpenSpec.upto fnExactSideSeedsSpec)

/-- 'laws.FnExactNeededFor', WHERE WHAT IT READS IS OF BULK AT MOST 1048576: true; the input reads as it did. -/
def fnExactNeededForUptoRow : OpenClaim := { program := "ytjacmbgngbhcpaa", sum := "4d91895ecf41286a5b0db708ca6c1c054e3b74376cdd1144af3aa7a9e4ee3bb0", func := "loop.example/g00926/laws.FnExactNeededFor", spec := "fnExactNeededFor", apart := false, narrowed := true }
def FnExactNeededForUptoSaid : Prop := fnExactNeededForUptoRow.holds Try.pinned (OpenSpec.upto fnExactNeededForSpec)

/-- 'laws.FnExactMajorityOf', WHERE WHAT IT READS IS OF BULK AT MOST 1048576: true; the input reads as it did. -/
def fnExactMajorityOfUptoRow : OpenClaim := { program := "ytjacmbgngbhcpaa", sum := "4d91895ecf41286a5b0db708ca6c1c054e3b74376cdd1144af3aa7a9e4ee3bb0", func := "loop.example/g00926/laws.FnExactMajorityOf", spec := "fnExactMajorityOf", apart := false, narrowed := true }
def FnExactMajorityOfUptoSaid : Prop := fnExactMajorityOfUptoRow.holds Try.pinned (OpenSpec.upto fnExactMajorityOfSpec)

/-- 'laws.FnExactSameResults', WHERE WHAT IT READS IS OF BULK AT MOST 1048576: true; the input reads as it did. -/
def fnExactSameResultsUptoRow : OpenClaim := { program := "ytjacmbgngbhcpaa", sum := "4d91895ecf41286a5b0db708ca6c1c054e3b74376cdd1144af3aa7a9e4ee3bb0", func := "loop.example/g00926/laws.FnExactSameResults", spec := "fnExactSameResults", apart := false, narrowed := true }
def FnExactSameResultsUptoSaid : Prop := fnExactSameResultsUptoRow.holds Try.pinned (OpenSpec.upto fnExactSameResultsSpec)

/-- 'laws.FnExactTurnPosition', WHERE WHAT IT READS IS OF BULK AT MOST 1048576: true; the input reads as it did. -/
def fnExactTurnPositionUptoRow : OpenClaim := { program := "ytjacmbgngbhcpaa", sum := "4d91895ecf41286a5b0db708ca6c1c054e3b74376cdd1144af3aa7a9e4ee3bb0", func := "loop.example/g00926/laws.FnExactTurnPosition", spec := "fnExactTurnPosition", apart := false, narrowed := true }
def FnExactTurnPositionUptoSaid : Prop := fnExactTurnPositionUptoRow.holds Try.pinned (OpenSpec.upto fnExactTurnPositionSpec)

/-- 'laws.FnExactSameGame', WHERE WHAT IT READS IS OF BULK AT MOST 1048576: true; the input reads as it did. -/
def fnExactSameGameUptoRow : OpenClaim := { program := "ytjacmbgngbhcpaa", sum := "4d91895ecf41286a5b0db708ca6c1c054e3b74376cdd1144af3aa7a9e4ee3bb0", func := "loop.example/g00926/laws.FnExactSameGame", spec := "fnExactSameGame", apart := false, narrowed := true }
def FnExactSameGameUptoSaid : Prop := fnExactSameGameUptoRow.holds Try.pinned (OpenSpec.upto fnExactSameGameSpec)

/-- 'laws.FnExactGivePosition', WHERE WHAT IT READS IS OF BULK AT MOST 1048576: true; the input reads as it did. -/
def fnExactGivePositionUptoRow : OpenClaim := { program := "ytjacmbgngbhcpaa", sum := "4d91895ecf41286a5b0db708ca6c1c054e3b74376cdd1144af3aa7a9e4ee3bb0", func := "loop.example/g00926/laws.FnExactGivePosition", spec := "fnExactGivePosition", apart := false, narrowed := true }
def FnExactGivePositionUptoSaid : Prop := fnExactGivePositionUptoRow.holds Try.pinned (OpenSpec.upto fnExactGivePositionSpec)

/-- 'laws.FnExactSettlePosition', WHERE WHAT IT READS IS OF BULK AT MOST 1048576: true; the input reads as it did. -/
def fnExactSettlePositionUptoRow : OpenClaim := { program := "ytjacmbgngbhcpaa", sum := "4d91895ecf41286a5b0db708ca6c1c054e3b74376cdd1144af3aa7a9e4ee3bb0", func := "loop.example/g00926/laws.FnExactSettlePosition", spec := "fnExactSettlePosition", apart := false, narrowed := true }
def FnExactSettlePositionUptoSaid : Prop := fnExactSettlePositionUptoRow.holds Try.pinned (OpenSpec.upto fnExactSettlePositionSpec)

end Rows
end Go.Proofs.Ytjacmbgngbhcpaa
