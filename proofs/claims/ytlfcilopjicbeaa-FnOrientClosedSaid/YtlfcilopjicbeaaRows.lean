/-
  No cell of these rows narrows 'for every input' (looked for: loops, veiled, ifaces, maps, wideKeys, modest, calm, conditions, laid).
  DERIVED. THE GIVEN ROWS OF THIS SEAT. 12 by the template 'for every input the law returns true; each argument reads behind the call as it read before'; 0 by the template 'total and deterministic' (their statements: YtlfcilopjicbeaaTotals.lean).
  GIVEN WITH THE SEED: the statements are not yours to turn. If you find one false, say at which input.
  Laid BY PROGRAM, IN A SANDBOX (cutbox-rows.mjs): the forced cells as the released guide's own fill.sh prints them over the translation 0ec67dde60dfb87d… (all of the seat's roots in one cut). By AI agents, Wed Nov 11 2026. No macro, syntax, notation, axiom, sorry.
-/
import Derived.Test.YtlfcilopjicbeaaChecked
import GoSem.Claim
import GoSem.ClaimJoined
import GoSem.ClaimMapViews
import Derived.JoinedTies
import Derived.KernelRfl
namespace Go.Proofs.Ytlfcilopjicbeaa
/- THE CELL 'sum', in the pinned program and in every row, IS THE sha256 OF THE DUMP (.gsa) THAT YtlfcilopjicbeaaProg.lean LOADS. Nothing in Lean hashes anything: it is a label: what it is worth is what the hold of that sum in a sandbox is worth. -/
noncomputable def Try.pinned : Pinned := { name := "ytlfcilopjicbeaa", sum := "0ec67dde60dfb87d5fe8fdf6a1d05c667890d41dc91d4cc05da8921e0130c59c", checked := Try.checked }
namespace Rows
def none {H : Type} : Left H := { results := [], args := [] }

/-- 'laws.FnExactConstants': WHATEVER THE INPUT: true; the input reads as it did. -/
def fnExactConstantsSpec : ChangeSpec := { name := "fnExactConstants", fn := fun _ => fun
  | [] => { results := [.lit (.bool true)], args := [] }
  | _ => none }
def fnExactConstantsRow : OpenClaim := { program := "ytlfcilopjicbeaa", sum := "0ec67dde60dfb87d5fe8fdf6a1d05c667890d41dc91d4cc05da8921e0130c59c", func := "loop.example/g03313/laws.FnExactConstants", spec := "fnExactConstants", apart := false }
def FnExactConstantsSaid : Prop := fnExactConstantsRow.holds Try.pinned (OpenSpec.ofChange fnExactConstantsSpec)

/-- ITS FALSE NEIGHBOUR: 'it returns false'. Refute it at one input. -/
def fnExactConstantsWrong : ChangeSpec := { name := "fnExactConstants", fn := fun _ => fun
  | [] => { results := [.lit (.bool false)], args := [] }
  | _ => none }
def FnExactConstantsWrongFalsely : Prop := fnExactConstantsRow.holds Try.pinned (OpenSpec.ofChange fnExactConstantsWrong)

/-- 'laws.FnExactPart': WHATEVER THE INPUT: true; the input reads as it did. -/
def fnExactPartSpec : ChangeSpec := { name := "fnExactPart", fn := fun _ => fun
  | [d1, d2] => { results := [.lit (.bool true)], args := [d1, d2] }
  | _ => none }
def fnExactPartRow : OpenClaim := { program := "ytlfcilopjicbeaa", sum := "0ec67dde60dfb87d5fe8fdf6a1d05c667890d41dc91d4cc05da8921e0130c59c", func := "loop.example/g03313/laws.FnExactPart", spec := "fnExactPart", apart := false }
def FnExactPartSaid : Prop := fnExactPartRow.holds Try.pinned (OpenSpec.ofChange fnExactPartSpec)

/-- ITS FALSE NEIGHBOUR: 'it returns false'. Refute it at one input. -/
def fnExactPartWrong : ChangeSpec := { name := "fnExactPart", fn := fun _ => fun
  | [d1, d2] => { results := [.lit (.bool false)], args := [d1, d2] }
  | _ => none }
def FnExactPartWrongFalsely : Prop := fnExactPartRow.holds Try.pinned (OpenSpec.ofChange fnExactPartWrong)

/-- 'laws.FnExactClamp': WHATEVER THE INPUT: true; the input reads as it did. -/
def fnExactClampSpec : ChangeSpec := { name := "fnExactClamp", fn := fun _ => fun
  | [d1, d2, d3] => { results := [.lit (.bool true)], args := [d1, d2, d3] }
  | _ => none }
def fnExactClampRow : OpenClaim := { program := "ytlfcilopjicbeaa", sum := "0ec67dde60dfb87d5fe8fdf6a1d05c667890d41dc91d4cc05da8921e0130c59c", func := "loop.example/g03313/laws.FnExactClamp", spec := "fnExactClamp", apart := false }
def FnExactClampSaid : Prop := fnExactClampRow.holds Try.pinned (OpenSpec.ofChange fnExactClampSpec)

/-- ITS FALSE NEIGHBOUR: 'it returns false'. Refute it at one input. -/
def fnExactClampWrong : ChangeSpec := { name := "fnExactClamp", fn := fun _ => fun
  | [d1, d2, d3] => { results := [.lit (.bool false)], args := [d1, d2, d3] }
  | _ => none }
def FnExactClampWrongFalsely : Prop := fnExactClampRow.holds Try.pinned (OpenSpec.ofChange fnExactClampWrong)

/-- 'laws.FnExactScalePoint': WHATEVER THE INPUT: true; the input reads as it did. -/
def fnExactScalePointSpec : ChangeSpec := { name := "fnExactScalePoint", fn := fun _ => fun
  | [d1, d2, d3] => { results := [.lit (.bool true)], args := [d1, d2, d3] }
  | _ => none }
def fnExactScalePointRow : OpenClaim := { program := "ytlfcilopjicbeaa", sum := "0ec67dde60dfb87d5fe8fdf6a1d05c667890d41dc91d4cc05da8921e0130c59c", func := "loop.example/g03313/laws.FnExactScalePoint", spec := "fnExactScalePoint", apart := false }
def FnExactScalePointSaid : Prop := fnExactScalePointRow.holds Try.pinned (OpenSpec.ofChange fnExactScalePointSpec)

/-- ITS FALSE NEIGHBOUR: 'it returns false'. Refute it at one input. -/
def fnExactScalePointWrong : ChangeSpec := { name := "fnExactScalePoint", fn := fun _ => fun
  | [d1, d2, d3] => { results := [.lit (.bool false)], args := [d1, d2, d3] }
  | _ => none }
def FnExactScalePointWrongFalsely : Prop := fnExactScalePointRow.holds Try.pinned (OpenSpec.ofChange fnExactScalePointWrong)

/-- 'laws.FnExactMakePixel': WHATEVER THE INPUT: true; the input reads as it did. -/
def fnExactMakePixelSpec : ChangeSpec := { name := "fnExactMakePixel", fn := fun _ => fun
  | [d1, d2, d3, d4] => { results := [.lit (.bool true)], args := [d1, d2, d3, d4] }
  | _ => none }
def fnExactMakePixelRow : OpenClaim := { program := "ytlfcilopjicbeaa", sum := "0ec67dde60dfb87d5fe8fdf6a1d05c667890d41dc91d4cc05da8921e0130c59c", func := "loop.example/g03313/laws.FnExactMakePixel", spec := "fnExactMakePixel", apart := false }
def FnExactMakePixelSaid : Prop := fnExactMakePixelRow.holds Try.pinned (OpenSpec.ofChange fnExactMakePixelSpec)

/-- ITS FALSE NEIGHBOUR: 'it returns false'. Refute it at one input. -/
def fnExactMakePixelWrong : ChangeSpec := { name := "fnExactMakePixel", fn := fun _ => fun
  | [d1, d2, d3, d4] => { results := [.lit (.bool false)], args := [d1, d2, d3, d4] }
  | _ => none }
def FnExactMakePixelWrongFalsely : Prop := fnExactMakePixelRow.holds Try.pinned (OpenSpec.ofChange fnExactMakePixelWrong)

/-- 'laws.FnExactRectOk': WHATEVER THE INPUT: true; the input reads as it did. -/
def fnExactRectOkSpec : ChangeSpec := { name := "fnExactRectOk", fn := fun _ => fun
  | [d] => { results := [.lit (.bool true)], args := [d] }
  | _ => none }
def fnExactRectOkRow : OpenClaim := { program := "ytlfcilopjicbeaa", sum := "0ec67dde60dfb87d5fe8fdf6a1d05c667890d41dc91d4cc05da8921e0130c59c", func := "loop.example/g03313/laws.FnExactRectOk", spec := "fnExactRectOk", apart := false }
def FnExactRectOkSaid : Prop := fnExactRectOkRow.holds Try.pinned (OpenSpec.ofChange fnExactRectOkSpec)

/-- ITS FALSE NEIGHBOUR: 'it returns false'. Refute it at one input. -/
def fnExactRectOkWrong : ChangeSpec := { name := "fnExactRectOk", fn := fun _ => fun
  | [d] => { results := [.lit (.bool false)], args := [d] }
  | _ => none }
def FnExactRectOkWrongFalsely : Prop := fnExactRectOkRow.holds Try.pinned (OpenSpec.ofChange fnExactRectOkWrong)

/-- 'laws.FnExactChannelOf': WHATEVER THE INPUT: true; the input reads as it did. -/
def fnExactChannelOfSpec : ChangeSpec := { name := "fnExactChannelOf", fn := fun _ => fun
  | [d1, d2] => { results := [.lit (.bool true)], args := [d1, d2] }
  | _ => none }
def fnExactChannelOfRow : OpenClaim := { program := "ytlfcilopjicbeaa", sum := "0ec67dde60dfb87d5fe8fdf6a1d05c667890d41dc91d4cc05da8921e0130c59c", func := "loop.example/g03313/laws.FnExactChannelOf", spec := "fnExactChannelOf", apart := false }
def FnExactChannelOfSaid : Prop := fnExactChannelOfRow.holds Try.pinned (OpenSpec.ofChange fnExactChannelOfSpec)

/-- ITS FALSE NEIGHBOUR: 'it returns false'. Refute it at one input. -/
def fnExactChannelOfWrong : ChangeSpec := { name := "fnExactChannelOf", fn := fun _ => fun
  | [d1, d2] => { results := [.lit (.bool false)], args := [d1, d2] }
  | _ => none }
def FnExactChannelOfWrongFalsely : Prop := fnExactChannelOfRow.holds Try.pinned (OpenSpec.ofChange fnExactChannelOfWrong)

/-- 'laws.FnExactUndoOrient': WHATEVER THE INPUT: true; the input reads as it did. -/
def fnExactUndoOrientSpec : ChangeSpec := { name := "fnExactUndoOrient", fn := fun _ => fun
  | [d] => { results := [.lit (.bool true)], args := [d] }
  | _ => none }
def fnExactUndoOrientRow : OpenClaim := { program := "ytlfcilopjicbeaa", sum := "0ec67dde60dfb87d5fe8fdf6a1d05c667890d41dc91d4cc05da8921e0130c59c", func := "loop.example/g03313/laws.FnExactUndoOrient", spec := "fnExactUndoOrient", apart := false }
def FnExactUndoOrientSaid : Prop := fnExactUndoOrientRow.holds Try.pinned (OpenSpec.ofChange fnExactUndoOrientSpec)

/-- ITS FALSE NEIGHBOUR: 'it returns false'. Refute it at one input. -/
def fnExactUndoOrientWrong : ChangeSpec := { name := "fnExactUndoOrient", fn := fun _ => fun
  | [d] => { results := [.lit (.bool false)], args := [d] }
  | _ => none }
def FnExactUndoOrientWrongFalsely : Prop := fnExactUndoOrientRow.holds Try.pinned (OpenSpec.ofChange fnExactUndoOrientWrong)

/-- 'laws.FnExactOrientSize': WHATEVER THE INPUT: true; the input reads as it did. -/
def fnExactOrientSizeSpec : ChangeSpec := { name := "fnExactOrientSize", fn := fun _ => fun
  | [d1, d2, d3] => { results := [.lit (.bool true)], args := [d1, d2, d3] }
  | _ => none }
def fnExactOrientSizeRow : OpenClaim := { program := "ytlfcilopjicbeaa", sum := "0ec67dde60dfb87d5fe8fdf6a1d05c667890d41dc91d4cc05da8921e0130c59c", func := "loop.example/g03313/laws.FnExactOrientSize", spec := "fnExactOrientSize", apart := false }
def FnExactOrientSizeSaid : Prop := fnExactOrientSizeRow.holds Try.pinned (OpenSpec.ofChange fnExactOrientSizeSpec)

/-- ITS FALSE NEIGHBOUR: 'it returns false'. Refute it at one input. -/
def fnExactOrientSizeWrong : ChangeSpec := { name := "fnExactOrientSize", fn := fun _ => fun
  | [d1, d2, d3] => { results := [.lit (.bool false)], args := [d1, d2, d3] }
  | _ => none }
def FnExactOrientSizeWrongFalsely : Prop := fnExactOrientSizeRow.holds Try.pinned (OpenSpec.ofChange fnExactOrientSizeWrong)

/-- 'laws.FnExactHasPoint': WHATEVER THE INPUT: true; the input reads as it did. -/
def fnExactHasPointSpec : ChangeSpec := { name := "fnExactHasPoint", fn := fun _ => fun
  | [d1, d2, d3] => { results := [.lit (.bool true)], args := [d1, d2, d3] }
  | _ => none }
def fnExactHasPointRow : OpenClaim := { program := "ytlfcilopjicbeaa", sum := "0ec67dde60dfb87d5fe8fdf6a1d05c667890d41dc91d4cc05da8921e0130c59c", func := "loop.example/g03313/laws.FnExactHasPoint", spec := "fnExactHasPoint", apart := false }
def FnExactHasPointSaid : Prop := fnExactHasPointRow.holds Try.pinned (OpenSpec.ofChange fnExactHasPointSpec)

/-- ITS FALSE NEIGHBOUR: 'it returns false'. Refute it at one input. -/
def fnExactHasPointWrong : ChangeSpec := { name := "fnExactHasPoint", fn := fun _ => fun
  | [d1, d2, d3] => { results := [.lit (.bool false)], args := [d1, d2, d3] }
  | _ => none }
def FnExactHasPointWrongFalsely : Prop := fnExactHasPointRow.holds Try.pinned (OpenSpec.ofChange fnExactHasPointWrong)

/-- 'laws.FnExactThenOrient': WHATEVER THE INPUT: true; the input reads as it did. -/
def fnExactThenOrientSpec : ChangeSpec := { name := "fnExactThenOrient", fn := fun _ => fun
  | [d1, d2] => { results := [.lit (.bool true)], args := [d1, d2] }
  | _ => none }
def fnExactThenOrientRow : OpenClaim := { program := "ytlfcilopjicbeaa", sum := "0ec67dde60dfb87d5fe8fdf6a1d05c667890d41dc91d4cc05da8921e0130c59c", func := "loop.example/g03313/laws.FnExactThenOrient", spec := "fnExactThenOrient", apart := false }
def FnExactThenOrientSaid : Prop := fnExactThenOrientRow.holds Try.pinned (OpenSpec.ofChange fnExactThenOrientSpec)

/-- ITS FALSE NEIGHBOUR: 'it returns false'. Refute it at one input. -/
def fnExactThenOrientWrong : ChangeSpec := { name := "fnExactThenOrient", fn := fun _ => fun
  | [d1, d2] => { results := [.lit (.bool false)], args := [d1, d2] }
  | _ => none }
def FnExactThenOrientWrongFalsely : Prop := fnExactThenOrientRow.holds Try.pinned (OpenSpec.ofChange fnExactThenOrientWrong)

/-- 'laws.FnOrientClosed': WHATEVER THE INPUT: true; the input reads as it did. -/
def fnOrientClosedSpec : ChangeSpec := { name := "fnOrientClosed", fn := fun _ => fun
  | [d] => { results := [.lit (.bool true)], args := [d] }
  | _ => none }
def fnOrientClosedRow : OpenClaim := { program := "ytlfcilopjicbeaa", sum := "0ec67dde60dfb87d5fe8fdf6a1d05c667890d41dc91d4cc05da8921e0130c59c", func := "loop.example/g03313/laws.FnOrientClosed", spec := "fnOrientClosed", apart := false }
def FnOrientClosedSaid : Prop := fnOrientClosedRow.holds Try.pinned (OpenSpec.ofChange fnOrientClosedSpec)

/-- ITS FALSE NEIGHBOUR: 'it returns false'. Refute it at one input. -/
def fnOrientClosedWrong : ChangeSpec := { name := "fnOrientClosed", fn := fun _ => fun
  | [d] => { results := [.lit (.bool false)], args := [d] }
  | _ => none }
def FnOrientClosedWrongFalsely : Prop := fnOrientClosedRow.holds Try.pinned (OpenSpec.ofChange fnOrientClosedWrong)

/- THE SECOND FORM. 'bulk': how many values and letters a reading holds, each counted each time it is reached (what is shared counts as often as it is met; a slice's spare places count too). A statement '..UptoSaid' is the law's where the arguments, and the package variables that the reading takes, are together of bulk at most 1048576: NARROWER than '..Said'. Prove '..Said' where nothing that the law and all that it calls make is longer than what came in: it says more and counts as full. Else prove '..UptoSaid'. A law counts once. -/
mutual
def uptoBulk {H : Type} : DataW H → Nat
  | .lit (.string bytes) => bytes.length + 1
  | .lit _ => 1
  | .nil => 1
  | .ptr d => uptoBulk d + 1
  | .slice elems spare => uptoBulkAll elems + uptoBulkAll spare + 1
  | .agg parts => uptoBulkAll parts + 1
  | .iface _ d => uptoBulk d + 1
  | .map entries => uptoBulkEntries entries + 1
  | .held _ => 1
def uptoBulkAll {H : Type} : List (DataW H) → Nat
  | [] => 0
  | d :: r => uptoBulk d + uptoBulkAll r
def uptoBulkEntries {H : Type} : List (Lit × DataW H) → Nat
  | [] => 0
  | x :: r => uptoBulkEntry x + uptoBulkEntries r
def uptoBulkEntry {H : Type} : Lit × DataW H → Nat
  | (.string bytes, d) => bytes.length + uptoBulk d + 1
  | (_, d) => uptoBulk d + 1
 end
def uptoSmall : (H : Type) → List (DataW H) → Bool := fun _ ds => decide (uptoBulkAll ds ≤ 1048576)
def OpenSpec.upto (s : _root_.Go.ChangeSpec) : _root_.Go.OpenSpec := { _root_.Go.OpenSpec.ofChange s with cond := some uptoSmall }

/-- 'laws.FnExactConstants', WHERE WHAT IT READS IS OF BULK AT MOST 1048576: true; the input reads as it did. -/
def fnExactConstantsUptoRow : OpenClaim := { program := "ytlfcilopjicbeaa", sum := "0ec67dde60dfb87d5fe8fdf6a1d05c667890d41dc91d4cc05da8921e0130c59c", func := "loop.example/g03313/laws.FnExactConstants", spec := "fnExactConstants", apart := false, narrowed := true }
def FnExactConstantsUptoSaid : Prop := fnExactConstantsUptoRow.holds Try.pinned (OpenSpec.upto fnExactConstantsSpec)

/-- 'laws.FnExactPart', WHERE WHAT IT READS IS OF BULK AT MOST 1048576: true; the input reads as it did. -/
def fnExactPartUptoRow : OpenClaim := { program := "ytlfcilopjicbeaa", sum := "0ec67dde60dfb87d5fe8fdf6a1d05c667890d41dc91d4cc05da8921e0130c59c", func := "loop.example/g03313/laws.FnExactPart", spec := "fnExactPart", apart := false, narrowed := true }
def FnExactPartUptoSaid : Prop := fnExactPartUptoRow.holds Try.pinned (OpenSpec.upto fnExactPartSpec)

/-- 'laws.FnExactClamp', WHERE WHAT IT READS IS OF BULK AT MOST 1048576: true; the input reads as it did. -/
def fnExactClampUptoRow : OpenClaim := { program := "ytlfcilopjicbeaa", sum := "0ec67dde60dfb87d5fe8fdf6a1d05c667890d41dc91d4cc05da8921e0130c59c", func := "loop.example/g03313/laws.FnExactClamp", spec := "fnExactClamp", apart := false, narrowed := true }
def FnExactClampUptoSaid : Prop := fnExactClampUptoRow.holds Try.pinned (OpenSpec.upto fnExactClampSpec)

/-- 'laws.FnExactScalePoint', WHERE WHAT IT READS IS OF BULK AT MOST 1048576: true; the input reads as it did. -/
def fnExactScalePointUptoRow : OpenClaim := { program := "ytlfcilopjicbeaa", sum := "0ec67dde60dfb87d5fe8fdf6a1d05c667890d41dc91d4cc05da8921e0130c59c", func := "loop.example/g03313/laws.FnExactScalePoint", spec := "fnExactScalePoint", apart := false, narrowed := true }
def FnExactScalePointUptoSaid : Prop := fnExactScalePointUptoRow.holds Try.pinned (OpenSpec.upto fnExactScalePointSpec)

/-- 'laws.FnExactMakePixel', WHERE WHAT IT READS IS OF BULK AT MOST 1048576: true; the input reads as it did. -/
def fnExactMakePixelUptoRow : OpenClaim := { program := "ytlfcilopjicbeaa", sum := "0ec67dde60dfb87d5fe8fdf6a1d05c667890d41dc91d4cc05da8921e0130c59c", func := "loop.example/g03313/laws.FnExactMakePixel", spec := "fnExactMakePixel", apart := false, narrowed := true }
def FnExactMakePixelUptoSaid : Prop := fnExactMakePixelUptoRow.holds Try.pinned (OpenSpec.upto fnExactMakePixelSpec)

/-- 'laws.FnExactRectOk', WHERE WHAT IT READS IS OF BULK AT MOST 1048576: true; the input reads as it did. -/
def fnExactRectOkUptoRow : OpenClaim := { program := "ytlfcilopjicbeaa", sum := "0ec67dde60dfb87d5fe8fdf6a1d05c667890d41dc91d4cc05da8921e0130c59c", func := "loop.example/g03313/laws.FnExactRectOk", spec := "fnExactRectOk", apart := false, narrowed := true }
def FnExactRectOkUptoSaid : Prop := fnExactRectOkUptoRow.holds Try.pinned (OpenSpec.upto fnExactRectOkSpec)

/-- 'laws.FnExactChannelOf', WHERE WHAT IT READS IS OF BULK AT MOST 1048576: true; the input reads as it did. -/
def fnExactChannelOfUptoRow : OpenClaim := { program := "ytlfcilopjicbeaa", sum := "0ec67dde60dfb87d5fe8fdf6a1d05c667890d41dc91d4cc05da8921e0130c59c", func := "loop.example/g03313/laws.FnExactChannelOf", spec := "fnExactChannelOf", apart := false, narrowed := true }
def FnExactChannelOfUptoSaid : Prop := fnExactChannelOfUptoRow.holds Try.pinned (OpenSpec.upto fnExactChannelOfSpec)

/-- 'laws.FnExactUndoOrient', WHERE WHAT IT READS IS OF BULK AT MOST 1048576: true; the input reads as it did. -/
def fnExactUndoOrientUptoRow : OpenClaim := { program := "ytlfcilopjicbeaa", sum := "0ec67dde60dfb87d5fe8fdf6a1d05c667890d41dc91d4cc05da8921e0130c59c", func := "loop.example/g03313/laws.FnExactUndoOrient", spec := "fnExactUndoOrient", apart := false, narrowed := true }
def FnExactUndoOrientUptoSaid : Prop := fnExactUndoOrientUptoRow.holds Try.pinned (OpenSpec.upto fnExactUndoOrientSpec)

/-- 'laws.FnExactOrientSize', WHERE WHAT IT READS IS OF BULK AT MOST 1048576: true; the input reads as it did. -/
def fnExactOrientSizeUptoRow : OpenClaim := { program := "ytlfcilopjicbeaa", sum := "0ec67dde60dfb87d5fe8fdf6a1d05c667890d41dc91d4cc05da8921e0130c59c", func := "loop.example/g03313/laws.FnExactOrientSize", spec := "fnExactOrientSize", apart := false, narrowed := true }
def FnExactOrientSizeUptoSaid : Prop := fnExactOrientSizeUptoRow.holds Try.pinned (OpenSpec.upto fnExactOrientSizeSpec)

/-- 'laws.FnExactHasPoint', WHERE WHAT IT READS IS OF BULK AT MOST 1048576: true; the input reads as it did. -/
def fnExactHasPointUptoRow : OpenClaim := { program := "ytlfcilopjicbeaa", sum := "0ec67dde60dfb87d5fe8fdf6a1d05c667890d41dc91d4cc05da8921e0130c59c", func := "loop.example/g03313/laws.FnExactHasPoint", spec := "fnExactHasPoint", apart := false, narrowed := true }
def FnExactHasPointUptoSaid : Prop := fnExactHasPointUptoRow.holds Try.pinned (OpenSpec.upto fnExactHasPointSpec)

/-- 'laws.FnExactThenOrient', WHERE WHAT IT READS IS OF BULK AT MOST 1048576: true; the input reads as it did. -/
def fnExactThenOrientUptoRow : OpenClaim := { program := "ytlfcilopjicbeaa", sum := "0ec67dde60dfb87d5fe8fdf6a1d05c667890d41dc91d4cc05da8921e0130c59c", func := "loop.example/g03313/laws.FnExactThenOrient", spec := "fnExactThenOrient", apart := false, narrowed := true }
def FnExactThenOrientUptoSaid : Prop := fnExactThenOrientUptoRow.holds Try.pinned (OpenSpec.upto fnExactThenOrientSpec)

/-- 'laws.FnOrientClosed', WHERE WHAT IT READS IS OF BULK AT MOST 1048576: true; the input reads as it did. -/
def fnOrientClosedUptoRow : OpenClaim := { program := "ytlfcilopjicbeaa", sum := "0ec67dde60dfb87d5fe8fdf6a1d05c667890d41dc91d4cc05da8921e0130c59c", func := "loop.example/g03313/laws.FnOrientClosed", spec := "fnOrientClosed", apart := false, narrowed := true }
def FnOrientClosedUptoSaid : Prop := fnOrientClosedUptoRow.holds Try.pinned (OpenSpec.upto fnOrientClosedSpec)

end Rows
end Go.Proofs.Ytlfcilopjicbeaa
