/-
  No cell of these rows narrows 'for every input' (looked for: loops, veiled, ifaces, maps, wideKeys, modest, calm, conditions, laid).
  DERIVED. THE GIVEN ROWS OF THIS SEAT. 7 by the template 'for every input the law returns true; each argument reads behind the call as it read before'; 0 by the template 'total and deterministic' (their statements: YtalbomeahhggpaaTotals.lean).
  GIVEN WITH THE SEED: the statements are not yours to turn. If you find one false, say at which input.
  Laid BY PROGRAM, IN A SANDBOX (cutbox-rows.mjs): the forced cells as the released guide's own fill.sh prints them over the translation 5b91b4c53343e3df… (all of the seat's roots in one cut). By AI agents, Wed Nov 11 2026. No macro, syntax, notation, axiom, sorry.
-/
import Derived.Test.YtalbomeahhggpaaChecked
import GoSem.Claim
import GoSem.ClaimJoined
import GoSem.ClaimMapViews
import Derived.JoinedTies
import Derived.KernelRfl
namespace Go.Proofs.Ytalbomeahhggpaa
/- THE CELL 'sum', in the pinned program and in every row, IS THE sha256 OF THE DUMP (.gsa) THAT YtalbomeahhggpaaProg.lean LOADS. Nothing in Lean hashes anything: it is a label: what it is worth is what the hold of that sum in a sandbox is worth. -/
noncomputable def Try.pinned : Pinned := { name := "ytalbomeahhggpaa", sum := "5b91b4c53343e3df2a9d35728eb45281912ced963b2aeccf8d0c95f8ca3d5fee", checked := Try.checked }
namespace Rows
def none {H : Type} : Left H := { results := [], args := [] }

/-- 'laws.FnExactConstants': WHATEVER THE INPUT: true; the input reads as it did. -/
def fnExactConstantsSpec : ChangeSpec := { name := "fnExactConstants", fn := fun _ => fun
  | [] => { results := [.lit (.bool true)], args := [] }
  | _ => none }
def fnExactConstantsRow : OpenClaim := { program := "ytalbomeahhggpaa", sum := "5b91b4c53343e3df2a9d35728eb45281912ced963b2aeccf8d0c95f8ca3d5fee", func := "loop.example/g00926/laws.FnExactConstants", spec := "fnExactConstants", apart := false }
def FnExactConstantsSaid : Prop := fnExactConstantsRow.holds Try.pinned (OpenSpec.ofChange fnExactConstantsSpec)

/-- ITS FALSE NEIGHBOUR: 'it returns false'. Refute it at one input. -/
def fnExactConstantsWrong : ChangeSpec := { name := "fnExactConstants", fn := fun _ => fun
  | [] => { results := [.lit (.bool false)], args := [] }
  | _ => none }
def FnExactConstantsWrongFalsely : Prop := fnExactConstantsRow.holds Try.pinned (OpenSpec.ofChange fnExactConstantsWrong)

/-- 'laws.FnExactChecksumOf': WHATEVER THE INPUT: true; the input reads as it did. -/
def fnExactChecksumOfSpec : ChangeSpec := { name := "fnExactChecksumOf", fn := fun _ => fun
  | [d] => { results := [.lit (.bool true)], args := [d] }
  | _ => none }
def fnExactChecksumOfRow : OpenClaim := { program := "ytalbomeahhggpaa", sum := "5b91b4c53343e3df2a9d35728eb45281912ced963b2aeccf8d0c95f8ca3d5fee", func := "loop.example/g00926/laws.FnExactChecksumOf", spec := "fnExactChecksumOf", apart := false }
def FnExactChecksumOfSaid : Prop := fnExactChecksumOfRow.holds Try.pinned (OpenSpec.ofChange fnExactChecksumOfSpec)

/-- ITS FALSE NEIGHBOUR: 'it returns false'. Refute it at one input. -/
def fnExactChecksumOfWrong : ChangeSpec := { name := "fnExactChecksumOf", fn := fun _ => fun
  | [d] => { results := [.lit (.bool false)], args := [d] }
  | _ => none }
def FnExactChecksumOfWrongFalsely : Prop := fnExactChecksumOfRow.holds Try.pinned (OpenSpec.ofChange fnExactChecksumOfWrong)

/-- 'laws.FnExactCodeName': WHATEVER THE INPUT: true; the input reads as it did. -/
def fnExactCodeNameSpec : ChangeSpec := { name := "fnExactCodeName", fn := fun _ => fun
  | [d] => { results := [.lit (.bool true)], args := [d] }
  | _ => none }
def fnExactCodeNameRow : OpenClaim := { program := "ytalbomeahhggpaa", sum := "5b91b4c53343e3df2a9d35728eb45281912ced963b2aeccf8d0c95f8ca3d5fee", func := "loop.example/g00926/laws.FnExactCodeName", spec := "fnExactCodeName", apart := false }
def FnExactCodeNameSaid : Prop := fnExactCodeNameRow.holds Try.pinned (OpenSpec.ofChange fnExactCodeNameSpec)

/-- ITS FALSE NEIGHBOUR: 'it returns false'. Refute it at one input. -/
def fnExactCodeNameWrong : ChangeSpec := { name := "fnExactCodeName", fn := fun _ => fun
  | [d] => { results := [.lit (.bool false)], args := [d] }
  | _ => none }
def FnExactCodeNameWrongFalsely : Prop := fnExactCodeNameRow.holds Try.pinned (OpenSpec.ofChange fnExactCodeNameWrong)

/-- 'laws.FnExactLineFault': WHATEVER THE INPUT: true; the input reads as it did. -/
def fnExactLineFaultSpec : ChangeSpec := { name := "fnExactLineFault", fn := fun _ => fun
  | [d] => { results := [.lit (.bool true)], args := [d] }
  | _ => none }
def fnExactLineFaultRow : OpenClaim := { program := "ytalbomeahhggpaa", sum := "5b91b4c53343e3df2a9d35728eb45281912ced963b2aeccf8d0c95f8ca3d5fee", func := "loop.example/g00926/laws.FnExactLineFault", spec := "fnExactLineFault", apart := false }
def FnExactLineFaultSaid : Prop := fnExactLineFaultRow.holds Try.pinned (OpenSpec.ofChange fnExactLineFaultSpec)

/-- ITS FALSE NEIGHBOUR: 'it returns false'. Refute it at one input. -/
def fnExactLineFaultWrong : ChangeSpec := { name := "fnExactLineFault", fn := fun _ => fun
  | [d] => { results := [.lit (.bool false)], args := [d] }
  | _ => none }
def FnExactLineFaultWrongFalsely : Prop := fnExactLineFaultRow.holds Try.pinned (OpenSpec.ofChange fnExactLineFaultWrong)

/-- 'laws.FnExactEndName': WHATEVER THE INPUT: true; the input reads as it did. -/
def fnExactEndNameSpec : ChangeSpec := { name := "fnExactEndName", fn := fun _ => fun
  | [d] => { results := [.lit (.bool true)], args := [d] }
  | _ => none }
def fnExactEndNameRow : OpenClaim := { program := "ytalbomeahhggpaa", sum := "5b91b4c53343e3df2a9d35728eb45281912ced963b2aeccf8d0c95f8ca3d5fee", func := "loop.example/g00926/laws.FnExactEndName", spec := "fnExactEndName", apart := false }
def FnExactEndNameSaid : Prop := fnExactEndNameRow.holds Try.pinned (OpenSpec.ofChange fnExactEndNameSpec)

/-- ITS FALSE NEIGHBOUR: 'it returns false'. Refute it at one input. -/
def fnExactEndNameWrong : ChangeSpec := { name := "fnExactEndName", fn := fun _ => fun
  | [d] => { results := [.lit (.bool false)], args := [d] }
  | _ => none }
def FnExactEndNameWrongFalsely : Prop := fnExactEndNameRow.holds Try.pinned (OpenSpec.ofChange fnExactEndNameWrong)

/-- 'laws.FnExactSlamName': WHATEVER THE INPUT: true; the input reads as it did. -/
def fnExactSlamNameSpec : ChangeSpec := { name := "fnExactSlamName", fn := fun _ => fun
  | [d] => { results := [.lit (.bool true)], args := [d] }
  | _ => none }
def fnExactSlamNameRow : OpenClaim := { program := "ytalbomeahhggpaa", sum := "5b91b4c53343e3df2a9d35728eb45281912ced963b2aeccf8d0c95f8ca3d5fee", func := "loop.example/g00926/laws.FnExactSlamName", spec := "fnExactSlamName", apart := false }
def FnExactSlamNameSaid : Prop := fnExactSlamNameRow.holds Try.pinned (OpenSpec.ofChange fnExactSlamNameSpec)

/-- ITS FALSE NEIGHBOUR: 'it returns false'. Refute it at one input. -/
def fnExactSlamNameWrong : ChangeSpec := { name := "fnExactSlamName", fn := fun _ => fun
  | [d] => { results := [.lit (.bool false)], args := [d] }
  | _ => none }
def FnExactSlamNameWrongFalsely : Prop := fnExactSlamNameRow.holds Try.pinned (OpenSpec.ofChange fnExactSlamNameWrong)

/-- 'laws.FnExactCaptureName': WHATEVER THE INPUT: true; the input reads as it did. -/
def fnExactCaptureNameSpec : ChangeSpec := { name := "fnExactCaptureName", fn := fun _ => fun
  | [d] => { results := [.lit (.bool true)], args := [d] }
  | _ => none }
def fnExactCaptureNameRow : OpenClaim := { program := "ytalbomeahhggpaa", sum := "5b91b4c53343e3df2a9d35728eb45281912ced963b2aeccf8d0c95f8ca3d5fee", func := "loop.example/g00926/laws.FnExactCaptureName", spec := "fnExactCaptureName", apart := false }
def FnExactCaptureNameSaid : Prop := fnExactCaptureNameRow.holds Try.pinned (OpenSpec.ofChange fnExactCaptureNameSpec)

/-- ITS FALSE NEIGHBOUR: 'it returns false'. Refute it at one input. -/
def fnExactCaptureNameWrong : ChangeSpec := { name := "fnExactCaptureName", fn := fun _ => fun
  | [d] => { results := [.lit (.bool false)], args := [d] }
  | _ => none }
def FnExactCaptureNameWrongFalsely : Prop := fnExactCaptureNameRow.holds Try.pinned (OpenSpec.ofChange fnExactCaptureNameWrong)

/- THE SECOND FORM. 'bulk': how many values and letters a reading holds, each counted each time it is reached (what is shared counts as often as it is met; a slice's spare places count too). A statement '..UptoSaid' is the law's where the arguments, and the package variables that the reading takes, are together of bulk at most 1048576: NARROWER than '..Said'. Prove '..Said' where nothing that the law and all that it calls make is longer than what came in: it says more and counts as full. Else prove '..UptoSaid'. A law counts once. -/
mutual
def uptoBulk {H : Type} : DataW H → Nat
  | .lit (.string bytes) => bytes.length + 1
  | .lit _ => 1
  | .nil => 1
  | .ptr d => uptoBulk d + 1
  | .slice elems spare => uptoBulkAll elems + uptoBulkAll spare + 1
  | .agg parts => uptoBulkAll parts + 1
  | .iface _ d => uptoBulk d + 1
  | .map entries => uptoBulkEntries entries + 1
  | .held _ => 1
def uptoBulkAll {H : Type} : List (DataW H) → Nat
  | [] => 0
  | d :: r => uptoBulk d + uptoBulkAll r
def uptoBulkEntries {H : Type} : List (Lit × DataW H) → Nat
  | [] => 0
  | x :: r => uptoBulkEntry x + uptoBulkEntries r
def uptoBulkEntry {H : Type} : Lit × DataW H → Nat
  | (.string bytes, d) => bytes.length + uptoBulk d + 1
  | (_, d) => uptoBulk d + 1
 end
def uptoSmall : (H : Type) → List (DataW H) → Bool := fun _ ds => decide (uptoBulkAll ds ≤ 1048576)
def OpenSpec.upto (s : _root_.Go.ChangeSpec) : _root_.Go.OpenSpec := { _root_.Go.OpenSpec.ofChange s with cond := some uptoSmall }

/-- 'laws.FnExactConstants', WHERE WHAT IT READS IS OF BULK AT MOST 1048576: true; the input reads as it did. -/
def fnExactConstantsUptoRow : OpenClaim := { program := "ytalbomeahhggpaa", sum := "5b91b4c53343e3df2a9d35728eb45281912ced963b2aeccf8d0c95f8ca3d5fee", func := "loop.example/g00926/laws.FnExactConstants", spec := "fnExactConstants", apart := false, narrowed := true }
def FnExactConstantsUptoSaid : Prop := fnExactConstantsUptoRow.holds Try.pinned (OpenSpec.upto fnExactConstantsSpec)

/-- 'laws.FnExactChecksumOf', WHERE WHAT IT READS IS OF BULK AT MOST 1048576: true; the input reads as it did. -/
def fnExactChecksumOfUptoRow : OpenClaim := { program := "ytalbomeahhggpaa", sum := "5b91b4c53343e3df2a9d35728eb45281912ced963b2aeccf8d0c95f8ca3d5fee", func := "loop.example/g00926/laws.FnExactChecksumOf", spec := "fnExactChecksumOf", apart := false, narrowed := true }
def FnExactChecksumOfUptoSaid : Prop := fnExactChecksumOfUptoRow.holds Try.pinned (OpenSpec.upto fnExactChecksumOfSpec)

/-- 'laws.FnExactCodeName', WHERE WHAT IT READS IS OF BULK AT MOST 1048576: true; the input reads as it did. -/
def fnExactCodeNameUptoRow : OpenClaim := { program := "ytalbomeahhggpaa", sum := "5b91b4c53343e3df2a9d35728eb45281912ced963b2aeccf8d0c95f8ca3d5fee", func := "loop.example/g00926/laws.FnExactCodeName", spec := "fnExactCodeName", apart := false, narrowed := true }
def FnExactCodeNameUptoSaid : Prop := fnExactCodeNameUptoRow.holds Try.pinned (OpenSpec.upto fnExactCodeNameSpec)

/-- 'laws.FnExactLineFault', WHERE WHAT IT READS IS OF BULK AT MOST 1048576: true; the input reads as it did. -/
def fnExactLineFaultUptoRow : OpenClaim := { program := "ytalbomeahhggpaa", sum := "5b91b4c53343e3df2a9d35728eb45281912ced963b2aeccf8d0c95f8ca3d5fee", func := "loop.example/g00926/laws.FnExactLineFault", spec := "fnExactLineFault", apart := false, narrowed := true }
def FnExactLineFaultUptoSaid : Prop := fnExactLineFaultUptoRow.holds Try.pinned (OpenSpec.upto fnExactLineFaultSpec)

/-- 'laws.FnExactEndName', WHERE WHAT IT READS IS OF BULK AT MOST 1048576: true; the input reads as it did. -/
def fnExactEndNameUptoRow : OpenClaim := { program := "ytalbomeahhggpaa", sum := "5b91b4c53343e3df2a9d35728eb45281912ced963b2aeccf8d0c95f8ca3d5fee", func := "loop.example/g00926/laws.FnExactEndName", spec := "fnExactEndName", apart := false, narrowed := true }
def FnExactEndNameUptoSaid : Prop := fnExactEndNameUptoRow.holds Try.pinned (OpenSpec.upto fnExactEndNameSpec)

/-- 'laws.FnExactSlamName', WHERE WHAT IT READS IS OF BULK AT MOST 1048576: true; the input reads as it did. -/
def fnExactSlamNameUptoRow : OpenClaim := { program := "ytalbomeahhggpaa", sum := "5b91b4c53343e3df2a9d35728eb45281912ced963b2aeccf8d0c95f8ca3d5fee", func := "loop.example/g00926/laws.FnExactSlamName", spec := "fnExactSlamName", apart := false, narrowed := true }
def FnExactSlamNameUptoSaid : Prop := fnExactSlamNameUptoRow.holds Try.pinned (OpenSpec.upto fnExactSlamNameSpec)

/-- 'laws.FnExactCaptureName', WHERE WHAT IT READS IS OF BULK AT MOST 1048576: true; the input reads as it did. -/
def fnExactCaptureNameUptoRow : OpenClaim := { program := "ytalbomeahhggpaa", sum := "5b91b4c53343e3df2a9d35728eb45281912ced963b2aeccf8d0c95f8ca3d5fee", func := "loop.example/g00926/laws.FnExactCaptureName", spec := "fnExactCaptureName", apart := false, narrowed := true }
def FnExactCaptureNameUptoSaid : Prop := fnExactCaptureNameUptoRow.holds Try.pinned (OpenSpec.upto fnExactCaptureNameSpec)

end Rows
end Go.Proofs.Ytalbomeahhggpaa
