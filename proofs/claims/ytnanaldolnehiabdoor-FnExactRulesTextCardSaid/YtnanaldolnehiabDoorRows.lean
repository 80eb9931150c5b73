/-
  NARROWER THAN 'FOR EVERY INPUT', by the rows' own cells (each row's printed sentence says how): FnExactReadMoves: laid · FnExactReadFact: laid · FnExactReadPosition: laid · FnExactDecimal: laid · FnExactProblemText: laid · FnExactReadDecimal: laid · FnExactMovesText: laid · FnExactFactText: laid · FnExactRulesText: laid · FnExactPositionText: laid.
  DERIVED. THE GIVEN ROWS OF THIS SEAT. 10 by the template 'for every input the law returns true; each argument reads behind the call as it read before'; 0 by the template 'total and deterministic' (their statements: YtnanaldolnehiabDoorTotals.lean).
  GIVEN WITH THE SEED: the statements are not yours to turn. If you find one false, say at which input.
  Laid BY PROGRAM, IN A SANDBOX (cutbox-rows.mjs): the forced cells as the released guide's own fill.sh prints them over the translation d50ed126cf089aa5… (all of the seat's roots in one cut). By AI agents, Wed Nov 11 2026. No macro, syntax, notation, axiom, sorry.
-/
import Derived.Test.YtnanaldolnehiabDoorChecked
import GoSem.Claim
import GoSem.ClaimJoined
import GoSem.ClaimMapViews
import Derived.JoinedTies
import Derived.KernelRfl
namespace Go.Proofs.YtnanaldolnehiabDoor
/- THE CELL 'sum', in the pinned program and in every row, IS THE sha256 OF THE DUMP (.gsa) THAT YtnanaldolnehiabDoorProg.lean LOADS. Nothing in Lean hashes anything: it is a label: what it is worth is what the hold of that sum in a sandbox is worth. -/
noncomputable def Tryd.pinned : Pinned := { name := "ytnanaldolnehiabdoor", sum := "d50ed126cf089aa5c72c258a4a1c0e6fe600205dc61ce9ca39eac8b66a378d0e", checked := Tryd.checked }
namespace Rows
def none {H : Type} : Left H := { results := [], args := [] }

/- WHAT THE LISTED PACKAGE-LEVEL VARIABLES READ AS WHEN THE CALL BEGINS. Each datum BY PROGRAM (the guide's laid-datum.mjs) off the statement by which the dump's own 'gosem.cut.vars' lays the variable. In a bare row this is a premise. The card (YtnanaldolnehiabDoorCards.lean) ties it to the program's text. -/
def laid_math_bits_deBruijn32tab {H : Type} : DataW H := .agg [.lit (.int .u8 0), .lit (.int .u8 1), .lit (.int .u8 28), .lit (.int .u8 2), .lit (.int .u8 29), .lit (.int .u8 14), .lit (.int .u8 24), .lit (.int .u8 3), .lit (.int .u8 30), .lit (.int .u8 22), .lit (.int .u8 20), .lit (.int .u8 15), .lit (.int .u8 25), .lit (.int .u8 17), .lit (.int .u8 4), .lit (.int .u8 8), .lit (.int .u8 31), .lit (.int .u8 27), .lit (.int .u8 13), .lit (.int .u8 23), .lit (.int .u8 21), .lit (.int .u8 19), .lit (.int .u8 16), .lit (.int .u8 7), .lit (.int .u8 26), .lit (.int .u8 12), .lit (.int .u8 18), .lit (.int .u8 6), .lit (.int .u8 11), .lit (.int .u8 5), .lit (.int .u8 10), .lit (.int .u8 9)]
def laid_math_bits_deBruijn64tab {H : Type} : DataW H := .agg [.lit (.int .u8 0), .lit (.int .u8 1), .lit (.int .u8 56), .lit (.int .u8 2), .lit (.int .u8 57), .lit (.int .u8 49), .lit (.int .u8 28), .lit (.int .u8 3), .lit (.int .u8 61), .lit (.int .u8 58), .lit (.int .u8 42), .lit (.int .u8 50), .lit (.int .u8 38), .lit (.int .u8 29), .lit (.int .u8 17), .lit (.int .u8 4), .lit (.int .u8 62), .lit (.int .u8 47), .lit (.int .u8 59), .lit (.int .u8 36), .lit (.int .u8 45), .lit (.int .u8 43), .lit (.int .u8 51), .lit (.int .u8 22), .lit (.int .u8 53), .lit (.int .u8 39), .lit (.int .u8 33), .lit (.int .u8 30), .lit (.int .u8 24), .lit (.int .u8 18), .lit (.int .u8 12), .lit (.int .u8 5), .lit (.int .u8 63), .lit (.int .u8 55), .lit (.int .u8 48), .lit (.int .u8 27), .lit (.int .u8 60), .lit (.int .u8 41), .lit (.int .u8 37), .lit (.int .u8 16), .lit (.int .u8 46), .lit (.int .u8 35), .lit (.int .u8 44), .lit (.int .u8 21), .lit (.int .u8 52), .lit (.int .u8 32), .lit (.int .u8 23), .lit (.int .u8 11), .lit (.int .u8 54), .lit (.int .u8 26), .lit (.int .u8 40), .lit (.int .u8 15), .lit (.int .u8 34), .lit (.int .u8 20), .lit (.int .u8 31), .lit (.int .u8 10), .lit (.int .u8 25), .lit (.int .u8 14), .lit (.int .u8 19), .lit (.int .u8 9), .lit (.int .u8 13), .lit (.int .u8 8), .lit (.int .u8 7), .lit (.int .u8 6)]
def laid_internal_strconv_uint64pow10 {H : Type} : DataW H := .agg [.lit (.int .u64 1), .lit (.int .u64 10), .lit (.int .u64 100), .lit (.int .u64 1000), .lit (.int .u64 10000), .lit (.int .u64 100000), .lit (.int .u64 1000000), .lit (.int .u64 10000000), .lit (.int .u64 100000000), .lit (.int .u64 1000000000), .lit (.int .u64 10000000000), .lit (.int .u64 100000000000), .lit (.int .u64 1000000000000), .lit (.int .u64 10000000000000), .lit (.int .u64 100000000000000), .lit (.int .u64 1000000000000000), .lit (.int .u64 10000000000000000), .lit (.int .u64 100000000000000000), .lit (.int .u64 1000000000000000000), .lit (.int .u64 10000000000000000000)]

/-- 'laws.FnExactReadMoves': WHATEVER THE INPUT: true; the input reads as it did. -/
def fnExactReadMovesSpec : ChangeSpec := { name := "fnExactReadMoves", fn := fun _ => fun
  | [d] => { results := [.lit (.bool true)], args := [d] }
  | _ => none }
def fnExactReadMovesRow : OpenClaim := { program := "ytnanaldolnehiabdoor", sum := "d50ed126cf089aa5c72c258a4a1c0e6fe600205dc61ce9ca39eac8b66a378d0e", func := "loop.example/g00926/laws.FnExactReadMoves", spec := "fnExactReadMoves", named := ["internal/strconv.uint64pow10", "math/bits.deBruijn32tab", "math/bits.deBruijn64tab"], apart := false, laid := [("math/bits.deBruijn32tab", laid_math_bits_deBruijn32tab), ("math/bits.deBruijn64tab", laid_math_bits_deBruijn64tab), ("internal/strconv.uint64pow10", laid_internal_strconv_uint64pow10)] }
def FnExactReadMovesSaid : Prop := fnExactReadMovesRow.holds Tryd.pinned (OpenSpec.ofChange fnExactReadMovesSpec)

/-- ITS FALSE NEIGHBOUR: 'it returns false'. Refute it at one input. -/
def fnExactReadMovesWrong : ChangeSpec := { name := "fnExactReadMoves", fn := fun _ => fun
  | [d] => { results := [.lit (.bool false)], args := [d] }
  | _ => none }
def FnExactReadMovesWrongFalsely : Prop := fnExactReadMovesRow.holds Tryd.pinned (OpenSpec.ofChange fnExactReadMovesWrong)

/-- 'laws.FnExactReadFact': WHATEVER THE INPUT: true; the input reads as it did. -/
def fnExactReadFactSpec : ChangeSpec := { name := "fnExactReadFact", fn := fun _ => fun
  | [d] => { results := [.lit (.bool true)], args := [d] }
  | _ => none }
def fnExactReadFactRow : OpenClaim := { program := "ytnanaldolnehiabdoor", sum := "d50ed126cf089aa5c72c258a4a1c0e6fe600205dc61ce9ca39eac8b66a378d0e", func := "loop.example/g00926/laws.FnExactReadFact", spec := "fnExactReadFact", named := ["internal/strconv.uint64pow10", "math/bits.deBruijn32tab", "math/bits.deBruijn64tab"], apart := false, laid := [("math/bits.deBruijn32tab", laid_math_bits_deBruijn32tab), ("math/bits.deBruijn64tab", laid_math_bits_deBruijn64tab), ("internal/strconv.uint64pow10", laid_internal_strconv_uint64pow10)] }
def FnExactReadFactSaid : Prop := fnExactReadFactRow.holds Tryd.pinned (OpenSpec.ofChange fnExactReadFactSpec)

/-- ITS FALSE NEIGHBOUR: 'it returns false'. Refute it at one input. -/
def fnExactReadFactWrong : ChangeSpec := { name := "fnExactReadFact", fn := fun _ => fun
  | [d] => { results := [.lit (.bool false)], args := [d] }
  | _ => none }
def FnExactReadFactWrongFalsely : Prop := fnExactReadFactRow.holds Tryd.pinned (OpenSpec.ofChange fnExactReadFactWrong)

/-- 'laws.FnExactReadPosition': WHATEVER THE INPUT: true; the input reads as it did. -/
def fnExactReadPositionSpec : ChangeSpec := { name := "fnExactReadPosition", fn := fun _ => fun
  | [d1, d2] => { results := [.lit (.bool true)], args := [d1, d2] }
  | _ => none }
def fnExactReadPositionRow : OpenClaim := { program := "ytnanaldolnehiabdoor", sum := "d50ed126cf089aa5c72c258a4a1c0e6fe600205dc61ce9ca39eac8b66a378d0e", func := "loop.example/g00926/laws.FnExactReadPosition", spec := "fnExactReadPosition", named := ["internal/strconv.uint64pow10", "math/bits.deBruijn32tab", "math/bits.deBruijn64tab"], apart := false, laid := [("math/bits.deBruijn32tab", laid_math_bits_deBruijn32tab), ("math/bits.deBruijn64tab", laid_math_bits_deBruijn64tab), ("internal/strconv.uint64pow10", laid_internal_strconv_uint64pow10)] }
def FnExactReadPositionSaid : Prop := fnExactReadPositionRow.holds Tryd.pinned (OpenSpec.ofChange fnExactReadPositionSpec)

/-- ITS FALSE NEIGHBOUR: 'it returns false'. Refute it at one input. -/
def fnExactReadPositionWrong : ChangeSpec := { name := "fnExactReadPosition", fn := fun _ => fun
  | [d1, d2] => { results := [.lit (.bool false)], args := [d1, d2] }
  | _ => none }
def FnExactReadPositionWrongFalsely : Prop := fnExactReadPositionRow.holds Tryd.pinned (OpenSpec.ofChange fnExactReadPositionWrong)

/-- 'laws.FnExactDecimal': WHATEVER THE INPUT: true; the input reads as it did. -/
def fnExactDecimalSpec : ChangeSpec := { name := "fnExactDecimal", fn := fun _ => fun
  | [d] => { results := [.lit (.bool true)], args := [d] }
  | _ => none }
def fnExactDecimalRow : OpenClaim := { program := "ytnanaldolnehiabdoor", sum := "d50ed126cf089aa5c72c258a4a1c0e6fe600205dc61ce9ca39eac8b66a378d0e", func := "loop.example/g00926/laws.FnExactDecimal", spec := "fnExactDecimal", named := ["internal/strconv.uint64pow10", "math/bits.deBruijn32tab", "math/bits.deBruijn64tab"], apart := false, laid := [("math/bits.deBruijn32tab", laid_math_bits_deBruijn32tab), ("math/bits.deBruijn64tab", laid_math_bits_deBruijn64tab), ("internal/strconv.uint64pow10", laid_internal_strconv_uint64pow10)] }
def FnExactDecimalSaid : Prop := fnExactDecimalRow.holds Tryd.pinned (OpenSpec.ofChange fnExactDecimalSpec)

/-- ITS FALSE NEIGHBOUR: 'it returns false'. Refute it at one input. -/
def fnExactDecimalWrong : ChangeSpec := { name := "fnExactDecimal", fn := fun _ => fun
  | [d] => { results := [.lit (.bool false)], args := [d] }
  | _ => none }
def FnExactDecimalWrongFalsely : Prop := fnExactDecimalRow.holds Tryd.pinned (OpenSpec.ofChange fnExactDecimalWrong)

/-- 'laws.FnExactProblemText': WHATEVER THE INPUT: true; the input reads as it did. -/
def fnExactProblemTextSpec : ChangeSpec := { name := "fnExactProblemText", fn := fun _ => fun
  | [d] => { results := [.lit (.bool true)], args := [d] }
  | _ => none }
def fnExactProblemTextRow : OpenClaim := { program := "ytnanaldolnehiabdoor", sum := "d50ed126cf089aa5c72c258a4a1c0e6fe600205dc61ce9ca39eac8b66a378d0e", func := "loop.example/g00926/laws.FnExactProblemText", spec := "fnExactProblemText", named := ["internal/strconv.uint64pow10", "math/bits.deBruijn32tab", "math/bits.deBruijn64tab"], apart := false, laid := [("math/bits.deBruijn32tab", laid_math_bits_deBruijn32tab), ("math/bits.deBruijn64tab", laid_math_bits_deBruijn64tab), ("internal/strconv.uint64pow10", laid_internal_strconv_uint64pow10)] }
def FnExactProblemTextSaid : Prop := fnExactProblemTextRow.holds Tryd.pinned (OpenSpec.ofChange fnExactProblemTextSpec)

/-- ITS FALSE NEIGHBOUR: 'it returns false'. Refute it at one input. -/
def fnExactProblemTextWrong : ChangeSpec := { name := "fnExactProblemText", fn := fun _ => fun
  | [d] => { results := [.lit (.bool false)], args := [d] }
  | _ => none }
def FnExactProblemTextWrongFalsely : Prop := fnExactProblemTextRow.holds Tryd.pinned (OpenSpec.ofChange fnExactProblemTextWrong)

/-- 'laws.FnExactReadDecimal': WHATEVER THE INPUT: true; the input reads as it did. -/
def fnExactReadDecimalSpec : ChangeSpec := { name := "fnExactReadDecimal", fn := fun _ => fun
  | [d] => { results := [.lit (.bool true)], args := [d] }
  | _ => none }
def fnExactReadDecimalRow : OpenClaim := { program := "ytnanaldolnehiabdoor", sum := "d50ed126cf089aa5c72c258a4a1c0e6fe600205dc61ce9ca39eac8b66a378d0e", func := "loop.example/g00926/laws.FnExactReadDecimal", spec := "fnExactReadDecimal", named := ["internal/strconv.uint64pow10", "math/bits.deBruijn32tab", "math/bits.deBruijn64tab"], apart := false, laid := [("math/bits.deBruijn32tab", laid_math_bits_deBruijn32tab), ("math/bits.deBruijn64tab", laid_math_bits_deBruijn64tab), ("internal/strconv.uint64pow10", laid_internal_strconv_uint64pow10)] }
def FnExactReadDecimalSaid : Prop := fnExactReadDecimalRow.holds Tryd.pinned (OpenSpec.ofChange fnExactReadDecimalSpec)

/-- ITS FALSE NEIGHBOUR: 'it returns false'. Refute it at one input. -/
def fnExactReadDecimalWrong : ChangeSpec := { name := "fnExactReadDecimal", fn := fun _ => fun
  | [d] => { results := [.lit (.bool false)], args := [d] }
  | _ => none }
def FnExactReadDecimalWrongFalsely : Prop := fnExactReadDecimalRow.holds Tryd.pinned (OpenSpec.ofChange fnExactReadDecimalWrong)

/-- 'laws.FnExactMovesText': WHATEVER THE INPUT: true; the input reads as it did. -/
def fnExactMovesTextSpec : ChangeSpec := { name := "fnExactMovesText", fn := fun _ => fun
  | [d] => { results := [.lit (.bool true)], args := [d] }
  | _ => none }
def fnExactMovesTextRow : OpenClaim := { program := "ytnanaldolnehiabdoor", sum := "d50ed126cf089aa5c72c258a4a1c0e6fe600205dc61ce9ca39eac8b66a378d0e", func := "loop.example/g00926/laws.FnExactMovesText", spec := "fnExactMovesText", named := ["internal/strconv.uint64pow10", "math/bits.deBruijn32tab", "math/bits.deBruijn64tab"], apart := false, laid := [("math/bits.deBruijn32tab", laid_math_bits_deBruijn32tab), ("math/bits.deBruijn64tab", laid_math_bits_deBruijn64tab), ("internal/strconv.uint64pow10", laid_internal_strconv_uint64pow10)] }
def FnExactMovesTextSaid : Prop := fnExactMovesTextRow.holds Tryd.pinned (OpenSpec.ofChange fnExactMovesTextSpec)

/-- ITS FALSE NEIGHBOUR: 'it returns false'. Refute it at one input. -/
def fnExactMovesTextWrong : ChangeSpec := { name := "fnExactMovesText", fn := fun _ => fun
  | [d] => { results := [.lit (.bool false)], args := [d] }
  | _ => none }
def FnExactMovesTextWrongFalsely : Prop := fnExactMovesTextRow.holds Tryd.pinned (OpenSpec.ofChange fnExactMovesTextWrong)

/-- 'laws.FnExactFactText': WHATEVER THE INPUT: true; the input reads as it did. -/
def fnExactFactTextSpec : ChangeSpec := { name := "fnExactFactText", fn := fun _ => fun
  | [d] => { results := [.lit (.bool true)], args := [d] }
  | _ => none }
def fnExactFactTextRow : OpenClaim := { program := "ytnanaldolnehiabdoor", sum := "d50ed126cf089aa5c72c258a4a1c0e6fe600205dc61ce9ca39eac8b66a378d0e", func := "loop.example/g00926/laws.FnExactFactText", spec := "fnExactFactText", named := ["internal/strconv.uint64pow10", "math/bits.deBruijn32tab", "math/bits.deBruijn64tab"], apart := false, laid := [("math/bits.deBruijn32tab", laid_math_bits_deBruijn32tab), ("math/bits.deBruijn64tab", laid_math_bits_deBruijn64tab), ("internal/strconv.uint64pow10", laid_internal_strconv_uint64pow10)] }
def FnExactFactTextSaid : Prop := fnExactFactTextRow.holds Tryd.pinned (OpenSpec.ofChange fnExactFactTextSpec)

/-- ITS FALSE NEIGHBOUR: 'it returns false'. Refute it at one input. -/
def fnExactFactTextWrong : ChangeSpec := { name := "fnExactFactText", fn := fun _ => fun
  | [d] => { results := [.lit (.bool false)], args := [d] }
  | _ => none }
def FnExactFactTextWrongFalsely : Prop := fnExactFactTextRow.holds Tryd.pinned (OpenSpec.ofChange fnExactFactTextWrong)

/-- 'laws.FnExactRulesText': WHATEVER THE INPUT: true; the input reads as it did. -/
def fnExactRulesTextSpec : ChangeSpec := { name := "fnExactRulesText", fn := fun _ => fun
  | [d] => { results := [.lit (.bool true)], args := [d] }
  | _ => none }
def fnExactRulesTextRow : OpenClaim := { program := "ytnanaldolnehiabdoor", sum := "d50ed126cf089aa5c72c258a4a1c0e6fe600205dc61ce9ca39eac8b66a378d0e", func := "loop.example/g00926/laws.FnExactRulesText", spec := "fnExactRulesText", named := ["internal/strconv.uint64pow10", "math/bits.deBruijn32tab", "math/bits.deBruijn64tab"], apart := false, laid := [("math/bits.deBruijn32tab", laid_math_bits_deBruijn32tab), ("math/bits.deBruijn64tab", laid_math_bits_deBruijn64tab), ("internal/strconv.uint64pow10", laid_internal_strconv_uint64pow10)] }
def FnExactRulesTextSaid : Prop := fnExactRulesTextRow.holds Tryd.pinned (OpenSpec.ofChange fnExactRulesTextSpec)

/-- ITS FALSE NEIGHBOUR: 'it returns false'. Refute it at one input. -/
def fnExactRulesTextWrong : ChangeSpec := { name := "fnExactRulesText", fn := fun _ => fun
  | [d] => { results := [.lit (.bool false)], args := [d] }
  | _ => none }
def FnExactRulesTextWrongFalsely : Prop := fnExactRulesTextRow.holds Tryd.pinned (OpenSpec.ofChange fnExactRulesTextWrong)

/-- 'laws.FnExactPositionText': WHATEVER THE INPUT: true; the input reads as it did. -/
def fnExactPositionTextSpec : ChangeSpec := { name := "fnExactPositionText", fn := fun _ => fun
  | [d1, d2] => { results := [.lit (.bool true)], args := [d1, d2] }
  | _ => none }
def fnExactPositionTextRow : OpenClaim := { program := "ytnanaldolnehiabdoor", sum := "d50ed126cf089aa5c72c258a4a1c0e6fe600205dc61ce9ca39eac8b66a378d0e", func := "loop.example/g00926/laws.FnExactPositionText", spec := "fnExactPositionText", named := ["internal/strconv.uint64pow10", "math/bits.deBruijn32tab", "math/bits.deBruijn64tab"], apart := false, laid := [("math/bits.deBruijn32tab", laid_math_bits_deBruijn32tab), ("math/bits.deBruijn64tab", laid_math_bits_deBruijn64tab), ("internal/strconv.uint64pow10", laid_internal_strconv_uint64pow10)] }
def FnExactPositionTextSaid : Prop := fnExactPositionTextRow.holds Tryd.pinned (OpenSpec.ofChange fnExactPositionTextSpec)

/-- ITS FALSE NEIGHBOUR: 'it returns false'. Refute it at one input. -/
def fnExactPositionTextWrong : ChangeSpec := { name := "fnExactPositionText", fn := fun _ => fun
  | [d1, d2] => { results := [.lit (.bool false)], args := [d1, d2] }
  | _ => none }
def FnExactPositionTextWrongFalsely : Prop := fnExactPositionTextRow.holds Tryd.pinned (OpenSpec.ofChange fnExactPositionTextWrong)

/- THE SECOND FORM. 'bulk': how many values and letters a reading holds, each counted each time it is reached (what is shared counts as often as it is met; a slice's spare places count too). A statement '..UptoSaid' is the law's where the arguments, and the package variables that the reading takes, are together of bulk at most 1048576: NARROWER than '..Said'. Prove '..Said' where nothing that the law and all that it calls make is longer than what came in: it says more and counts as full. Else prove '..UptoSaid'. A law counts once. -/
mutual
def uptoBulk {H : Type} : DataW H → Nat
  | .lit (.string bytes) => bytes.length + 1
  | .lit _ => 1
  | .nil => 1
  | .ptr d => uptoBulk d + 1
  | .slice elems spare => uptoBulkAll elems + uptoBulkAll spare + 1
  | .agg parts => uptoBulkAll parts + 1
  | .iface _ d => uptoBulk d + 1
  | .map entries => uptoBulkEntries entries + 1
  | .held _ => 1
def uptoBulkAll {H : Type} : List (DataW H) → Nat
  | [] => 0
  | d :: r => uptoBulk d + uptoBulkAll r
def uptoBulkEntries {H : Type} : List (Lit × DataW H) → Nat
  | [] => 0
  | x :: r => uptoBulkEntry x + uptoBulkEntries r
def uptoBulkEntry {H : Type} : Lit × DataW H → Nat
  | (.string bytes, d) => bytes.length + uptoBulk d + 1
  | (_, d) => uptoBulk d + 1
 end
def uptoSmall : (H : Type) → List (DataW H) → Bool := fun _ ds => decide (uptoBulkAll ds ≤ 1048576)
def OpenSpec.upto (s : _root_.Go.ChangeSpec) : _root_.Go.OpenSpec := { _root_.Go.OpenSpec.ofChange s with cond := some uptoSmall }

/-- 'laws.FnExactReadMoves', WHERE WHAT IT READS IS OF BULK AT MOST 1048576: true; the input reads as it did. -/
def fnExactReadMovesUptoRow : OpenClaim := { program := "ytnanaldolnehiabdoor", sum := "d50ed126cf089aa5c72c258a4a1c0e6fe600205dc61ce9ca39eac8b66a378d0e", func := "loop.example/g00926/laws.FnExactReadMoves", spec := "fnExactReadMoves", named := ["internal/strconv.uint64pow10", "math/bits.deBruijn32tab", "math/bits.deBruijn64tab"], apart := false, laid := [("math/bits.deBruijn32tab", laid_math_bits_deBruijn32tab), ("math/bits.deBruijn64tab", laid_math_bits_deBruijn64tab), ("internal/strconv.uint64pow10", laid_internal_strconv_uint64pow10)], narrowed := true }
def FnExactReadMovesUptoSaid : Prop := fnExactReadMovesUptoRow.holds Tryd.pinned (OpenSpec.upto fnExactReadMovesSpec)

/-- 'laws.FnExactReadFact', WHERE WHAT IT READS IS OF BULK AT MOST 1048576: true; the input reads as it did. -/
def fnExactReadFactUptoRow : OpenClaim := { program := "ytnanaldolnehiabdoor", sum := "d50ed126cf089aa5c72c258a4a1c0e6fe600205dc61ce9ca39eac8b66a378d0e", func := "loop.example/g00926/laws.FnExactReadFact", spec := "fnExactReadFact", named := ["internal/strconv.uint64pow10", "math/bits.deBruijn32tab", "math/bits.deBruijn64tab"], apart := false, laid := [("math/bits.deBruijn32tab", laid_math_bits_deBruijn32tab), ("math/bits.deBruijn64tab", laid_math_bits_deBruijn64tab), ("internal/strconv.uint64pow10", laid_internal_strconv_uint64pow10)], narrowed := true }
def FnExactReadFactUptoSaid : Prop := fnExactReadFactUptoRow.holds Tryd.pinned (OpenSpec.upto fnExactReadFactSpec)

/-- 'laws.FnExactReadPosition', WHERE WHAT IT READS IS OF BULK AT MOST 1048576: true; the input reads as it did. -/
def fnExactReadPositionUptoRow : OpenClaim := { program := "ytnanaldolnehiabdoor", sum := "d50ed126cf089aa5c72c258a4a1c0e6fe600205dc61ce9ca39eac8b66a378d0e", func := "loop.example/g00926/laws.FnExactReadPosition", spec := "fnExactReadPosition", named := ["internal/strconv.uint64pow10", "math/bits.deBruijn32tab", "math/bits.deBruijn64tab"], apart := false, laid := [("math/bits.deBruijn32tab", laid_math_bits_deBruijn32tab), ("math/bits.deBruijn64tab", laid_math_bits_deBruijn64tab), ("internal/strconv.uint64pow10", laid_internal_strconv_uint64pow10)], narrowed := true }
def FnExactReadPositionUptoSaid : Prop := fnExactReadPositionUptoRow.holds Tryd.pinned (OpenSpec.upto fnExactReadPositionSpec)

/-- 'laws.FnExactDecimal', WHERE WHAT IT READS IS OF BULK AT MOST 1048576: true; the input reads as it did. -/
def fnExactDecimalUptoRow : OpenClaim := { program := "ytnanaldolnehiabdoor", sum := "d50ed126cf089aa5c72c258a4a1c0e6fe600205dc61ce9ca39eac8b66a378d0e", func := "loop.example/g00926/laws.FnExactDecimal", spec := "fnExactDecimal", named := ["internal/strconv.uint64pow10", "math/bits.deBruijn32tab", "math/bits.deBruijn64tab"], apart := false, laid := [("math/bits.deBruijn32tab", laid_math_bits_deBruijn32tab), ("math/bits.deBruijn64tab", laid_math_bits_deBruijn64tab), ("internal/strconv.uint64pow10", laid_internal_strconv_uint64pow10)], narrowed := true }
def FnExactDecimalUptoSaid : Prop := fnExactDecimalUptoRow.holds Tryd.pinned (OpenSpec.upto fnExactDecimalSpec)

/-- 'laws.FnExactProblemText', WHERE WHAT IT READS IS OF BULK AT MOST 1048576: true; the input reads as it did. -/
def fnExactProblemTextUptoRow : OpenClaim := { program := "ytnanaldolnehiabdoor", sum := "d50ed126cf089aa5c72c258a4a1c0e6fe600205dc61ce9ca39eac8b66a378d0e", func := "loop.example/g00926/laws.FnExactProblemText", spec := "fnExactProblemText", named := ["internal/strconv.uint64pow10", "math/bits.deBruijn32tab", "math/bits.deBruijn64tab"], apart := false, laid := [("math/bits.deBruijn32tab", laid_math_bits_deBruijn32tab), ("math/bits.deBruijn64tab", laid_math_bits_deBruijn64tab), ("internal/strconv.uint64pow10", laid_internal_strconv_uint64pow10)], narrowed := true }
def FnExactProblemTextUptoSaid : Prop := fnExactProblemTextUptoRow.holds Tryd.pinned (OpenSpec.upto fnExactProblemTextSpec)

/-- 'laws.FnExactReadDecimal', WHERE WHAT IT READS IS OF BULK AT MOST 1048576: true; the input reads as it did. -/
def fnExactReadDecimalUptoRow : OpenClaim := { program := "ytnanaldolnehiabdoor", sum := "d50ed126cf089aa5c72c258a4a1c0e6fe600205dc61ce9ca39eac8b66a378d0e", func := "loop.example/g00926/laws.FnExactReadDecimal", spec := "fnExactReadDecimal", named := ["internal/strconv.uint64pow10", "math/bits.deBruijn32tab", "math/bits.deBruijn64tab"], apart := false, laid := [("math/bits.deBruijn32tab", laid_math_bits_deBruijn32tab), ("math/bits.deBruijn64tab", laid_math_bits_deBruijn64tab), ("internal/strconv.uint64pow10", laid_internal_strconv_uint64pow10)], narrowed := true }
def FnExactReadDecimalUptoSaid : Prop := fnExactReadDecimalUptoRow.holds Tryd.pinned (OpenSpec.upto fnExactReadDecimalSpec)

/-- 'laws.FnExactMovesText', WHERE WHAT IT READS IS OF BULK AT MOST 1048576: true; the input reads as it did. -/
def fnExactMovesTextUptoRow : OpenClaim := { program := "ytnanaldolnehiabdoor", sum := "d50ed126cf089aa5c72c258a4a1c0e6fe600205dc61ce9ca39eac8b66a378d0e", func := "loop.example/g00926/laws.FnExactMovesText", spec := "fnExactMovesText", named := ["internal/strconv.uint64pow10", "math/bits.deBruijn32tab", "math/bits.deBruijn64tab"], apart := false, laid := [("math/bits.deBruijn32tab", laid_math_bits_deBruijn32tab), ("math/bits.deBruijn64tab", laid_math_bits_deBruijn64tab), ("internal/strconv.uint64pow10", laid_internal_strconv_uint64pow10)], narrowed := true }
def FnExactMovesTextUptoSaid : Prop := fnExactMovesTextUptoRow.holds Tryd.pinned (OpenSpec.upto fnExactMovesTextSpec)

/-- 'laws.FnExactFactText', WHERE WHAT IT READS IS OF BULK AT MOST 1048576: true; the input reads as it did. -/
def fnExactFactTextUptoRow : OpenClaim := { program := "ytnanaldolnehiabdoor", sum := "d50ed126cf089aa5c72c258a4a1c0e6fe600205dc61ce9ca39eac8b66a378d0e", func := "loop.example/g00926/laws.FnExactFactText", spec := "fnExactFactText", named := ["internal/strconv.uint64pow10", "math/bits.deBruijn32tab", "math/bits.deBruijn64tab"], apart := false, laid := [("math/bits.deBruijn32tab", laid_math_bits_deBruijn32tab), ("math/bits.deBruijn64tab", laid_math_bits_deBruijn64tab), ("internal/strconv.uint64pow10", laid_internal_strconv_uint64pow10)], narrowed := true }
def FnExactFactTextUptoSaid : Prop := fnExactFactTextUptoRow.holds Tryd.pinned (OpenSpec.upto fnExactFactTextSpec)

/-- 'laws.FnExactRulesText', WHERE WHAT IT READS IS OF BULK AT MOST 1048576: true; the input reads as it did. -/
def fnExactRulesTextUptoRow : OpenClaim := { program := "ytnanaldolnehiabdoor", sum := "d50ed126cf089aa5c72c258a4a1c0e6fe600205dc61ce9ca39eac8b66a378d0e", func := "loop.example/g00926/laws.FnExactRulesText", spec := "fnExactRulesText", named := ["internal/strconv.uint64pow10", "math/bits.deBruijn32tab", "math/bits.deBruijn64tab"], apart := false, laid := [("math/bits.deBruijn32tab", laid_math_bits_deBruijn32tab), ("math/bits.deBruijn64tab", laid_math_bits_deBruijn64tab), ("internal/strconv.uint64pow10", laid_internal_strconv_uint64pow10)], narrowed := true }
def FnExactRulesTextUptoSaid : Prop := fnExactRulesTextUptoRow.holds Tryd.pinned (OpenSpec.upto fnExactRulesTextSpec)

/-- 'laws.FnExactPositionText', WHERE WHAT IT READS IS OF BULK AT MOST 1048576: true; the input reads as it did. -/
def fnExactPositionTextUptoRow : OpenClaim := { program := "ytnanaldolnehiabdoor", sum := "d50ed126cf089aa5c72c258a4a1c0e6fe600205dc61ce9ca39eac8b66a378d0e", func := "loop.example/g00926/laws.FnExactPositionText", spec := "fnExactPositionText", named := ["internal/strconv.uint64pow10", "math/bits.deBruijn32tab", "math/bits.deBruijn64tab"], apart := false, laid := [("math/bits.deBruijn32tab", laid_math_bits_deBruijn32tab), ("math/bits.deBruijn64tab", laid_math_bits_deBruijn64tab), ("internal/strconv.uint64pow10", laid_internal_strconv_uint64pow10)], narrowed := true }
def FnExactPositionTextUptoSaid : Prop := fnExactPositionTextUptoRow.holds Tryd.pinned (OpenSpec.upto fnExactPositionTextSpec)

end Rows
end Go.Proofs.YtnanaldolnehiabDoor
