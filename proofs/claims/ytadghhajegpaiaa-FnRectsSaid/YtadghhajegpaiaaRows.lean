/-
  No cell of these rows narrows 'for every input' (looked for: loops, veiled, ifaces, maps, wideKeys, modest, calm, conditions, laid).
  DERIVED. THE GIVEN ROWS OF THIS SEAT. 12 by the template 'for every input the law returns true; each argument reads behind the call as it read before'; 0 by the template 'total and deterministic' (their statements: YtadghhajegpaiaaTotals.lean).
  GIVEN WITH THE SEED: the statements are not yours to turn. If you find one false, say at which input.
  Laid BY PROGRAM, IN A SANDBOX (cutbox-rows.mjs): the forced cells as the released guide's own fill.sh prints them over the translation 70d58daa7568a837… (all of the seat's roots in one cut). By AI agents, Wed Nov 11 2026. No macro, syntax, notation, axiom, sorry.
-/
import Derived.Test.YtadghhajegpaiaaChecked
import GoSem.Claim
import GoSem.ClaimJoined
import GoSem.ClaimMapViews
import Derived.JoinedTies
import Derived.KernelRfl
namespace Go.Proofs.Ytadghhajegpaiaa
/- THE CELL 'sum', in the pinned program and in every row, IS THE sha256 OF THE DUMP (.gsa) THAT YtadghhajegpaiaaProg.lean LOADS. Nothing in Lean hashes anything: it is a label: what it is worth is what the hold of that sum in a sandbox is worth. -/
noncomputable def Try.pinned : Pinned := { name := "ytadghhajegpaiaa", sum := "70d58daa7568a8376f96ced79050fcb7f376fe8f62adc4c1762faa99420606b2", checked := Try.checked }
namespace Rows
def none {H : Type} : Left H := { results := [], args := [] }

/-- 'laws.FnExactFade': WHATEVER THE INPUT: true; the input reads as it did. -/
def fnExactFadeSpec : ChangeSpec := { name := "fnExactFade", fn := fun _ => fun
  | [d1, d2] => { results := [.lit (.bool true)], args := [d1, d2] }
  | _ => none }
def fnExactFadeRow : OpenClaim := { program := "ytadghhajegpaiaa", sum := "70d58daa7568a8376f96ced79050fcb7f376fe8f62adc4c1762faa99420606b2", func := "loop.example/g03313/laws.FnExactFade", spec := "fnExactFade", apart := false }
def FnExactFadeSaid : Prop := fnExactFadeRow.holds Try.pinned (OpenSpec.ofChange fnExactFadeSpec)

/-- ITS FALSE NEIGHBOUR: 'it returns false'. Refute it at one input. -/
def fnExactFadeWrong : ChangeSpec := { name := "fnExactFade", fn := fun _ => fun
  | [d1, d2] => { results := [.lit (.bool false)], args := [d1, d2] }
  | _ => none }
def FnExactFadeWrongFalsely : Prop := fnExactFadeRow.holds Try.pinned (OpenSpec.ofChange fnExactFadeWrong)

/-- 'laws.FnExactCovers': WHATEVER THE INPUT: true; the input reads as it did. -/
def fnExactCoversSpec : ChangeSpec := { name := "fnExactCovers", fn := fun _ => fun
  | [d1, d2] => { results := [.lit (.bool true)], args := [d1, d2] }
  | _ => none }
def fnExactCoversRow : OpenClaim := { program := "ytadghhajegpaiaa", sum := "70d58daa7568a8376f96ced79050fcb7f376fe8f62adc4c1762faa99420606b2", func := "loop.example/g03313/laws.FnExactCovers", spec := "fnExactCovers", apart := false }
def FnExactCoversSaid : Prop := fnExactCoversRow.holds Try.pinned (OpenSpec.ofChange fnExactCoversSpec)

/-- ITS FALSE NEIGHBOUR: 'it returns false'. Refute it at one input. -/
def fnExactCoversWrong : ChangeSpec := { name := "fnExactCovers", fn := fun _ => fun
  | [d1, d2] => { results := [.lit (.bool false)], args := [d1, d2] }
  | _ => none }
def FnExactCoversWrongFalsely : Prop := fnExactCoversRow.holds Try.pinned (OpenSpec.ofChange fnExactCoversWrong)

/-- 'laws.FnExactOver': WHATEVER THE INPUT: true; the input reads as it did. -/
def fnExactOverSpec : ChangeSpec := { name := "fnExactOver", fn := fun _ => fun
  | [d1, d2] => { results := [.lit (.bool true)], args := [d1, d2] }
  | _ => none }
def fnExactOverRow : OpenClaim := { program := "ytadghhajegpaiaa", sum := "70d58daa7568a8376f96ced79050fcb7f376fe8f62adc4c1762faa99420606b2", func := "loop.example/g03313/laws.FnExactOver", spec := "fnExactOver", apart := false }
def FnExactOverSaid : Prop := fnExactOverRow.holds Try.pinned (OpenSpec.ofChange fnExactOverSpec)

/-- ITS FALSE NEIGHBOUR: 'it returns false'. Refute it at one input. -/
def fnExactOverWrong : ChangeSpec := { name := "fnExactOver", fn := fun _ => fun
  | [d1, d2] => { results := [.lit (.bool false)], args := [d1, d2] }
  | _ => none }
def FnExactOverWrongFalsely : Prop := fnExactOverRow.holds Try.pinned (OpenSpec.ofChange fnExactOverWrong)

/-- 'laws.FnExactMoved': WHATEVER THE INPUT: true; the input reads as it did. -/
def fnExactMovedSpec : ChangeSpec := { name := "fnExactMoved", fn := fun _ => fun
  | [d1, d2, d3] => { results := [.lit (.bool true)], args := [d1, d2, d3] }
  | _ => none }
def fnExactMovedRow : OpenClaim := { program := "ytadghhajegpaiaa", sum := "70d58daa7568a8376f96ced79050fcb7f376fe8f62adc4c1762faa99420606b2", func := "loop.example/g03313/laws.FnExactMoved", spec := "fnExactMoved", apart := false }
def FnExactMovedSaid : Prop := fnExactMovedRow.holds Try.pinned (OpenSpec.ofChange fnExactMovedSpec)

/-- ITS FALSE NEIGHBOUR: 'it returns false'. Refute it at one input. -/
def fnExactMovedWrong : ChangeSpec := { name := "fnExactMoved", fn := fun _ => fun
  | [d1, d2, d3] => { results := [.lit (.bool false)], args := [d1, d2, d3] }
  | _ => none }
def FnExactMovedWrongFalsely : Prop := fnExactMovedRow.holds Try.pinned (OpenSpec.ofChange fnExactMovedWrong)

/-- 'laws.FnExactIntersect': WHATEVER THE INPUT: true; the input reads as it did. -/
def fnExactIntersectSpec : ChangeSpec := { name := "fnExactIntersect", fn := fun _ => fun
  | [d1, d2] => { results := [.lit (.bool true)], args := [d1, d2] }
  | _ => none }
def fnExactIntersectRow : OpenClaim := { program := "ytadghhajegpaiaa", sum := "70d58daa7568a8376f96ced79050fcb7f376fe8f62adc4c1762faa99420606b2", func := "loop.example/g03313/laws.FnExactIntersect", spec := "fnExactIntersect", apart := false }
def FnExactIntersectSaid : Prop := fnExactIntersectRow.holds Try.pinned (OpenSpec.ofChange fnExactIntersectSpec)

/-- ITS FALSE NEIGHBOUR: 'it returns false'. Refute it at one input. -/
def fnExactIntersectWrong : ChangeSpec := { name := "fnExactIntersect", fn := fun _ => fun
  | [d1, d2] => { results := [.lit (.bool false)], args := [d1, d2] }
  | _ => none }
def FnExactIntersectWrongFalsely : Prop := fnExactIntersectRow.holds Try.pinned (OpenSpec.ofChange fnExactIntersectWrong)

/-- 'laws.FnExactBounds': WHATEVER THE INPUT: true; the input reads as it did. -/
def fnExactBoundsSpec : ChangeSpec := { name := "fnExactBounds", fn := fun _ => fun
  | [d1, d2] => { results := [.lit (.bool true)], args := [d1, d2] }
  | _ => none }
def fnExactBoundsRow : OpenClaim := { program := "ytadghhajegpaiaa", sum := "70d58daa7568a8376f96ced79050fcb7f376fe8f62adc4c1762faa99420606b2", func := "loop.example/g03313/laws.FnExactBounds", spec := "fnExactBounds", apart := false }
def FnExactBoundsSaid : Prop := fnExactBoundsRow.holds Try.pinned (OpenSpec.ofChange fnExactBoundsSpec)

/-- ITS FALSE NEIGHBOUR: 'it returns false'. Refute it at one input. -/
def fnExactBoundsWrong : ChangeSpec := { name := "fnExactBounds", fn := fun _ => fun
  | [d1, d2] => { results := [.lit (.bool false)], args := [d1, d2] }
  | _ => none }
def FnExactBoundsWrongFalsely : Prop := fnExactBoundsRow.holds Try.pinned (OpenSpec.ofChange fnExactBoundsWrong)

/-- 'laws.FnRects': WHATEVER THE INPUT: true; the input reads as it did. -/
def fnRectsSpec : ChangeSpec := { name := "fnRects", fn := fun _ => fun
  | [d] => { results := [.lit (.bool true)], args := [d] }
  | _ => none }
def fnRectsRow : OpenClaim := { program := "ytadghhajegpaiaa", sum := "70d58daa7568a8376f96ced79050fcb7f376fe8f62adc4c1762faa99420606b2", func := "loop.example/g03313/laws.FnRects", spec := "fnRects", apart := false }
def FnRectsSaid : Prop := fnRectsRow.holds Try.pinned (OpenSpec.ofChange fnRectsSpec)

/-- ITS FALSE NEIGHBOUR: 'it returns false'. Refute it at one input. -/
def fnRectsWrong : ChangeSpec := { name := "fnRects", fn := fun _ => fun
  | [d] => { results := [.lit (.bool false)], args := [d] }
  | _ => none }
def FnRectsWrongFalsely : Prop := fnRectsRow.holds Try.pinned (OpenSpec.ofChange fnRectsWrong)

/-- 'laws.FnBlending': WHATEVER THE INPUT: true; the input reads as it did. -/
def fnBlendingSpec : ChangeSpec := { name := "fnBlending", fn := fun _ => fun
  | [d] => { results := [.lit (.bool true)], args := [d] }
  | _ => none }
def fnBlendingRow : OpenClaim := { program := "ytadghhajegpaiaa", sum := "70d58daa7568a8376f96ced79050fcb7f376fe8f62adc4c1762faa99420606b2", func := "loop.example/g03313/laws.FnBlending", spec := "fnBlending", apart := false }
def FnBlendingSaid : Prop := fnBlendingRow.holds Try.pinned (OpenSpec.ofChange fnBlendingSpec)

/-- ITS FALSE NEIGHBOUR: 'it returns false'. Refute it at one input. -/
def fnBlendingWrong : ChangeSpec := { name := "fnBlending", fn := fun _ => fun
  | [d] => { results := [.lit (.bool false)], args := [d] }
  | _ => none }
def FnBlendingWrongFalsely : Prop := fnBlendingRow.holds Try.pinned (OpenSpec.ofChange fnBlendingWrong)

/-- 'laws.FnExactBlend': WHATEVER THE INPUT: true; the input reads as it did. -/
def fnExactBlendSpec : ChangeSpec := { name := "fnExactBlend", fn := fun _ => fun
  | [d1, d2] => { results := [.lit (.bool true)], args := [d1, d2] }
  | _ => none }
def fnExactBlendRow : OpenClaim := { program := "ytadghhajegpaiaa", sum := "70d58daa7568a8376f96ced79050fcb7f376fe8f62adc4c1762faa99420606b2", func := "loop.example/g03313/laws.FnExactBlend", spec := "fnExactBlend", apart := false }
def FnExactBlendSaid : Prop := fnExactBlendRow.holds Try.pinned (OpenSpec.ofChange fnExactBlendSpec)

/-- ITS FALSE NEIGHBOUR: 'it returns false'. Refute it at one input. -/
def fnExactBlendWrong : ChangeSpec := { name := "fnExactBlend", fn := fun _ => fun
  | [d1, d2] => { results := [.lit (.bool false)], args := [d1, d2] }
  | _ => none }
def FnExactBlendWrongFalsely : Prop := fnExactBlendRow.holds Try.pinned (OpenSpec.ofChange fnExactBlendWrong)

/-- 'laws.FnExactOrientPoint': WHATEVER THE INPUT: true; the input reads as it did. -/
def fnExactOrientPointSpec : ChangeSpec := { name := "fnExactOrientPoint", fn := fun _ => fun
  | [d1, d2, d3, d4, d5] => { results := [.lit (.bool true)], args := [d1, d2, d3, d4, d5] }
  | _ => none }
def fnExactOrientPointRow : OpenClaim := { program := "ytadghhajegpaiaa", sum := "70d58daa7568a8376f96ced79050fcb7f376fe8f62adc4c1762faa99420606b2", func := "loop.example/g03313/laws.FnExactOrientPoint", spec := "fnExactOrientPoint", apart := false }
def FnExactOrientPointSaid : Prop := fnExactOrientPointRow.holds Try.pinned (OpenSpec.ofChange fnExactOrientPointSpec)

/-- ITS FALSE NEIGHBOUR: 'it returns false'. Refute it at one input. -/
def fnExactOrientPointWrong : ChangeSpec := { name := "fnExactOrientPoint", fn := fun _ => fun
  | [d1, d2, d3, d4, d5] => { results := [.lit (.bool false)], args := [d1, d2, d3, d4, d5] }
  | _ => none }
def FnExactOrientPointWrongFalsely : Prop := fnExactOrientPointRow.holds Try.pinned (OpenSpec.ofChange fnExactOrientPointWrong)

/-- 'laws.FnClamped': WHATEVER THE INPUT: true; the input reads as it did. -/
def fnClampedSpec : ChangeSpec := { name := "fnClamped", fn := fun _ => fun
  | [d] => { results := [.lit (.bool true)], args := [d] }
  | _ => none }
def fnClampedRow : OpenClaim := { program := "ytadghhajegpaiaa", sum := "70d58daa7568a8376f96ced79050fcb7f376fe8f62adc4c1762faa99420606b2", func := "loop.example/g03313/laws.FnClamped", spec := "fnClamped", apart := false }
def FnClampedSaid : Prop := fnClampedRow.holds Try.pinned (OpenSpec.ofChange fnClampedSpec)

/-- ITS FALSE NEIGHBOUR: 'it returns false'. Refute it at one input. -/
def fnClampedWrong : ChangeSpec := { name := "fnClamped", fn := fun _ => fun
  | [d] => { results := [.lit (.bool false)], args := [d] }
  | _ => none }
def FnClampedWrongFalsely : Prop := fnClampedRow.holds Try.pinned (OpenSpec.ofChange fnClampedWrong)

/-- 'laws.FnExactIdentityColor': WHATEVER THE INPUT: true; the input reads as it did. -/
def fnExactIdentityColorSpec : ChangeSpec := { name := "fnExactIdentityColor", fn := fun _ => fun
  | [] => { results := [.lit (.bool true)], args := [] }
  | _ => none }
def fnExactIdentityColorRow : OpenClaim := { program := "ytadghhajegpaiaa", sum := "70d58daa7568a8376f96ced79050fcb7f376fe8f62adc4c1762faa99420606b2", func := "loop.example/g03313/laws.FnExactIdentityColor", spec := "fnExactIdentityColor", apart := false }
def FnExactIdentityColorSaid : Prop := fnExactIdentityColorRow.holds Try.pinned (OpenSpec.ofChange fnExactIdentityColorSpec)

/-- ITS FALSE NEIGHBOUR: 'it returns false'. Refute it at one input. -/
def fnExactIdentityColorWrong : ChangeSpec := { name := "fnExactIdentityColor", fn := fun _ => fun
  | [] => { results := [.lit (.bool false)], args := [] }
  | _ => none }
def FnExactIdentityColorWrongFalsely : Prop := fnExactIdentityColorRow.holds Try.pinned (OpenSpec.ofChange fnExactIdentityColorWrong)

/- THE SECOND FORM. 'bulk': how many values and letters a reading holds, each counted each time it is reached (what is shared counts as often as it is met; a slice's spare places count too). A statement '..UptoSaid' is the law's where the arguments, and the package variables that the reading takes, are together of bulk at most 1048576: NARROWER than '..Said'. Prove '..Said' where nothing that the law and all that it calls make is longer than what came in: it says more and counts as full. Else prove '..UptoSaid'. A law counts once. -/
mutual
def uptoBulk {H : Type} : DataW H → Nat
  | .lit (.string bytes) => bytes.length + 1
  | .lit _ => 1
  | .nil => 1
  | .ptr d => uptoBulk d + 1
  | .slice elems spare => uptoBulkAll elems + uptoBulkAll spare + 1
  | .agg parts => uptoBulkAll parts + 1
  | .iface _ d => uptoBulk d + 1
  | .map entries => uptoBulkEntries entries + 1
  | .held _ => 1
def uptoBulkAll {H : Type} : List (DataW H) → Nat
  | [] => 0
  | d :: r => uptoBulk d + uptoBulkAll r
def uptoBulkEntries {H : Type} : List (Lit × DataW H) → Nat
  | [] => 0
  | x :: r => uptoBulkEntry x + uptoBulkEntries r
def uptoBulkEntry {H : Type} : Lit × DataW H → Nat
  | (.string bytes, d) => bytes.length + uptoBulk d + 1
  | (_, d) => uptoBulk d + 1
 end
def uptoSmall : (H : Type) → List (DataW H) → Bool := fun _ ds => decide (uptoBulkAll ds ≤ 1048576)
def OpenSpec.upto (s : _root_.Go.ChangeSpec) : _root_.Go.OpenSpec := { _root_.Go.OpenSpec.ofChange s with cond := some uptoSmall }

/-- 'laws.FnExactFade', WHERE WHAT IT READS IS OF BULK AT MOST 1048576: true; the input reads as it did. -/
def fnExactFadeUptoRow : OpenClaim := { program := "ytadghhajegpaiaa", sum := "70d58daa7568a8376f96ced79050fcb7f376fe8f62adc4c1762faa99420606b2", func := "loop.example/g03313/laws.FnExactFade", spec := "fnExactFade", apart := false, narrowed := true }
def FnExactFadeUptoSaid : Prop := fnExactFadeUptoRow.holds Try.pinned (OpenSpec.upto fnExactFadeSpec)

/-- 'laws.FnExactCovers', WHERE WHAT IT READS IS OF BULK AT MOST 1048576: true; the input reads as it did. -/
def fnExactCoversUptoRow : OpenClaim := { program := "ytadghhajegpaiaa", sum := "70d58daa7568a8376f96ced79050fcb7f376fe8f62adc4c1762faa99420606b2", func := "loop.example/g03313/laws.FnExactCovers", spec := "fnExactCovers", apart := false, narrowed := true }
def FnExactCoversUptoSaid : Prop := fnExactCoversUptoRow.holds Try.pinned (OpenSpec.upto fnExactCoversSpec)

/-- 'laws.FnExactOver', WHERE WHAT IT READS IS OF BULK AT MOST 1048576: true; the input reads as it did. -/
def fnExactOverUptoRow : OpenClaim := { program := "ytadghhajegpaiaa", sum := "70d58daa7568a8376f96ced79050fcb7f376fe8f62adc4c1762faa99420606b2", func := "loop.example/g03313/laws.FnExactOver", spec := "fnExactOver", apart := false, narrowed := true }
def FnExactOverUptoSaid : Prop := fnExactOverUptoRow.holds Try.pinned (OpenSpec.upto fnExactOverSpec)

/-- 'laws.FnExactMoved', WHERE WHAT IT READS IS OF BULK AT MOST 1048576: true; the input reads as it did. -/
def fnExactMovedUptoRow : OpenClaim := { program := "ytadghhajegpaiaa", sum := "70d58daa7568a8376f96ced79050fcb7f376fe8f62adc4c1762faa99420606b2", func := "loop.example/g03313/laws.FnExactMoved", spec := "fnExactMoved", apart := false, narrowed := true }
def FnExactMovedUptoSaid : Prop := fnExactMovedUptoRow.holds Try.pinned (OpenSpec.upto fnExactMovedSpec)

/-- 'laws.FnExactIntersect', WHERE WHAT IT READS IS OF BULK AT MOST 1048576: true; the input reads as it did. -/
def fnExactIntersectUptoRow : OpenClaim := { program := "ytadghhajegpaiaa", sum := "70d58daa7568a8376f96ced79050fcb7f376fe8f62adc4c1762faa99420606b2", func := "loop.example/g03313/laws.FnExactIntersect", spec := "fnExactIntersect", apart := false, narrowed := true }
def FnExactIntersectUptoSaid : Prop := fnExactIntersectUptoRow.holds Try.pinned (OpenSpec.upto fnExactIntersectSpec)

/-- 'laws.FnExactBounds', WHERE WHAT IT READS IS OF BULK AT MOST 1048576: true; the input reads as it did. -/
def fnExactBoundsUptoRow : OpenClaim := { program := "ytadghhajegpaiaa", sum := "70d58daa7568a8376f96ced79050fcb7f376fe8f62adc4c1762faa99420606b2", func := "loop.example/g03313/laws.FnExactBounds", spec := "fnExactBounds", apart := false, narrowed := true }
def FnExactBoundsUptoSaid : Prop := fnExactBoundsUptoRow.holds Try.pinned (OpenSpec.upto fnExactBoundsSpec)

/-- 'laws.FnRects', WHERE WHAT IT READS IS OF BULK AT MOST 1048576: true; the input reads as it did. -/
def fnRectsUptoRow : OpenClaim := { program := "ytadghhajegpaiaa", sum := "70d58daa7568a8376f96ced79050fcb7f376fe8f62adc4c1762faa99420606b2", func := "loop.example/g03313/laws.FnRects", spec := "fnRects", apart := false, narrowed := true }
def FnRectsUptoSaid : Prop := fnRectsUptoRow.holds Try.pinned (OpenSpec.upto fnRectsSpec)

/-- 'laws.FnBlending', WHERE WHAT IT READS IS OF BULK AT MOST 1048576: true; the input reads as it did. -/
def fnBlendingUptoRow : OpenClaim := { program := "ytadghhajegpaiaa", sum := "70d58daa7568a8376f96ced79050fcb7f376fe8f62adc4c1762faa99420606b2", func := "loop.example/g03313/laws.FnBlending", spec := "fnBlending", apart := false, narrowed := true }
def FnBlendingUptoSaid : Prop := fnBlendingUptoRow.holds Try.pinned (OpenSpec.upto fnBlendingSpec)

/-- 'laws.FnExactBlend', WHERE WHAT IT READS IS OF BULK AT MOST 1048576: true; the input reads as it did. -/
def fnExactBlendUptoRow : OpenClaim := { program := "ytadghhajegpaiaa", sum := "70d58daa7568a8376f96ced79050fcb7f376fe8f62adc4c1762faa99420606b2", func := "loop.example/g03313/laws.FnExactBlend", spec := "fnExactBlend", apart := false, narrowed := true }
def FnExactBlendUptoSaid : Prop := fnExactBlendUptoRow.holds Try.pinned (OpenSpec.upto fnExactBlendSpec)

/-- 'laws.FnExactOrientPoint', WHERE WHAT IT READS IS OF BULK AT MOST 1048576: true; the input reads as it did. -/
def fnExactOrientPointUptoRow : OpenClaim := { program := "ytadghhajegpaiaa", sum := "70d58daa7568a8376f96ced79050fcb7f376fe8f62adc4c1762faa99420606b2", func := "loop.example/g03313/laws.FnExactOrientPoint", spec := "fnExactOrientPoint", apart := false, narrowed := true }
def FnExactOrientPointUptoSaid : Prop := fnExactOrientPointUptoRow.holds Try.pinned (OpenSpec.upto fnExactOrientPointSpec)

/-- 'laws.FnClamped', WHERE WHAT IT READS IS OF BULK AT MOST 1048576: true; the input reads as it did. -/
def fnClampedUptoRow : OpenClaim := { program := "ytadghhajegpaiaa", sum := "70d58daa7568a8376f96ced79050fcb7f376fe8f62adc4c1762faa99420606b2", func := "loop.example/g03313/laws.FnClamped", spec := "fnClamped", apart := false, narrowed := true }
def FnClampedUptoSaid : Prop := fnClampedUptoRow.holds Try.pinned (OpenSpec.upto fnClampedSpec)

/-- 'laws.FnExactIdentityColor', WHERE WHAT IT READS IS OF BULK AT MOST 1048576: true; the input reads as it did. -/
def fnExactIdentityColorUptoRow : OpenClaim := { program := "ytadghhajegpaiaa", sum := "70d58daa7568a8376f96ced79050fcb7f376fe8f62adc4c1762faa99420606b2", func := "loop.example/g03313/laws.FnExactIdentityColor", spec := "fnExactIdentityColor", apart := false, narrowed := true }
def FnExactIdentityColorUptoSaid : Prop := fnExactIdentityColorUptoRow.holds Try.pinned (OpenSpec.upto fnExactIdentityColorSpec)

end Rows
end Go.Proofs.Ytadghhajegpaiaa
