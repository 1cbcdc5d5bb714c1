/-
  No cell of these rows narrows 'for every input' (looked for: loops, veiled, ifaces, maps, wideKeys, modest, calm, conditions, laid).
  DERIVED. THE GIVEN ROWS OF THIS SEAT. 11 by the template 'for every input the law returns true; each argument reads behind the call as it read before'; 0 by the template 'total and deterministic' (their statements: YtbgemonpkncldaaTotals.lean).
  GIVEN WITH THE SEED: the statements are not yours to turn. If you find one false, say at which input.
  Laid BY PROGRAM, IN A SANDBOX (cutbox-rows.mjs): the forced cells as the released guide's own fill.sh prints them over the translation cadd7e3187d01b67… (all of the seat's roots in one cut). By AI agents, Wed Nov 11 2026. No macro, syntax, notation, axiom, sorry.
-/
import Derived.Test.YtbgemonpkncldaaChecked
import GoSem.Claim
import GoSem.ClaimJoined
import GoSem.ClaimMapViews
import Derived.JoinedTies
import Derived.KernelRfl
namespace Go.Proofs.Ytbgemonpkncldaa
/- THE CELL 'sum', in the pinned program and in every row, IS THE sha256 OF THE DUMP (.gsa) THAT YtbgemonpkncldaaProg.lean LOADS. Nothing in Lean hashes anything: it is a label: what it is worth is what the hold of that sum in a sandbox is worth. -/
noncomputable def Try.pinned : Pinned := { name := "ytbgemonpkncldaa", sum := "cadd7e3187d01b673f6c0ab7dd71fe231d1e3b83d2755946eb891e75b21777b2", checked := Try.checked }
namespace Rows
def none {H : Type} : Left H := { results := [], args := [] }

/-- 'laws.FnExactImageOk': WHATEVER THE INPUT: true; the input reads as it did. -/
def fnExactImageOkSpec : ChangeSpec := { name := "fnExactImageOk", fn := fun _ => fun
  | [d] => { results := [.lit (.bool true)], args := [d] }
  | _ => none }
def fnExactImageOkRow : OpenClaim := { program := "ytbgemonpkncldaa", sum := "cadd7e3187d01b673f6c0ab7dd71fe231d1e3b83d2755946eb891e75b21777b2", func := "loop.example/g03313/laws.FnExactImageOk", spec := "fnExactImageOk", apart := false }
def FnExactImageOkSaid : Prop := fnExactImageOkRow.holds Try.pinned (OpenSpec.ofChange fnExactImageOkSpec)

/-- ITS FALSE NEIGHBOUR: 'it returns false'. Refute it at one input. -/
def fnExactImageOkWrong : ChangeSpec := { name := "fnExactImageOk", fn := fun _ => fun
  | [d] => { results := [.lit (.bool false)], args := [d] }
  | _ => none }
def FnExactImageOkWrongFalsely : Prop := fnExactImageOkRow.holds Try.pinned (OpenSpec.ofChange fnExactImageOkWrong)

/-- 'laws.FnExactSameImage': WHATEVER THE INPUT: true; the input reads as it did. -/
def fnExactSameImageSpec : ChangeSpec := { name := "fnExactSameImage", fn := fun _ => fun
  | [d1, d2] => { results := [.lit (.bool true)], args := [d1, d2] }
  | _ => none }
def fnExactSameImageRow : OpenClaim := { program := "ytbgemonpkncldaa", sum := "cadd7e3187d01b673f6c0ab7dd71fe231d1e3b83d2755946eb891e75b21777b2", func := "loop.example/g03313/laws.FnExactSameImage", spec := "fnExactSameImage", apart := false }
def FnExactSameImageSaid : Prop := fnExactSameImageRow.holds Try.pinned (OpenSpec.ofChange fnExactSameImageSpec)

/-- ITS FALSE NEIGHBOUR: 'it returns false'. Refute it at one input. -/
def fnExactSameImageWrong : ChangeSpec := { name := "fnExactSameImage", fn := fun _ => fun
  | [d1, d2] => { results := [.lit (.bool false)], args := [d1, d2] }
  | _ => none }
def FnExactSameImageWrongFalsely : Prop := fnExactSameImageRow.holds Try.pinned (OpenSpec.ofChange fnExactSameImageWrong)

/-- 'laws.FnExactPixelOf': WHATEVER THE INPUT: true; the input reads as it did. -/
def fnExactPixelOfSpec : ChangeSpec := { name := "fnExactPixelOf", fn := fun _ => fun
  | [d1, d2, d3] => { results := [.lit (.bool true)], args := [d1, d2, d3] }
  | _ => none }
def fnExactPixelOfRow : OpenClaim := { program := "ytbgemonpkncldaa", sum := "cadd7e3187d01b673f6c0ab7dd71fe231d1e3b83d2755946eb891e75b21777b2", func := "loop.example/g03313/laws.FnExactPixelOf", spec := "fnExactPixelOf", apart := false }
def FnExactPixelOfSaid : Prop := fnExactPixelOfRow.holds Try.pinned (OpenSpec.ofChange fnExactPixelOfSpec)

/-- ITS FALSE NEIGHBOUR: 'it returns false'. Refute it at one input. -/
def fnExactPixelOfWrong : ChangeSpec := { name := "fnExactPixelOf", fn := fun _ => fun
  | [d1, d2, d3] => { results := [.lit (.bool false)], args := [d1, d2, d3] }
  | _ => none }
def FnExactPixelOfWrongFalsely : Prop := fnExactPixelOfRow.holds Try.pinned (OpenSpec.ofChange fnExactPixelOfWrong)

/-- 'laws.FnExactNewImage': WHATEVER THE INPUT: true; the input reads as it did. -/
def fnExactNewImageSpec : ChangeSpec := { name := "fnExactNewImage", fn := fun _ => fun
  | [d1, d2, d3] => { results := [.lit (.bool true)], args := [d1, d2, d3] }
  | _ => none }
def fnExactNewImageRow : OpenClaim := { program := "ytbgemonpkncldaa", sum := "cadd7e3187d01b673f6c0ab7dd71fe231d1e3b83d2755946eb891e75b21777b2", func := "loop.example/g03313/laws.FnExactNewImage", spec := "fnExactNewImage", apart := false }
def FnExactNewImageSaid : Prop := fnExactNewImageRow.holds Try.pinned (OpenSpec.ofChange fnExactNewImageSpec)

/-- ITS FALSE NEIGHBOUR: 'it returns false'. Refute it at one input. -/
def fnExactNewImageWrong : ChangeSpec := { name := "fnExactNewImage", fn := fun _ => fun
  | [d1, d2, d3] => { results := [.lit (.bool false)], args := [d1, d2, d3] }
  | _ => none }
def FnExactNewImageWrongFalsely : Prop := fnExactNewImageRow.holds Try.pinned (OpenSpec.ofChange fnExactNewImageWrong)

/-- 'laws.FnExactTileImage': WHATEVER THE INPUT: true; the input reads as it did. -/
def fnExactTileImageSpec : ChangeSpec := { name := "fnExactTileImage", fn := fun _ => fun
  | [d1, d2, d3] => { results := [.lit (.bool true)], args := [d1, d2, d3] }
  | _ => none }
def fnExactTileImageRow : OpenClaim := { program := "ytbgemonpkncldaa", sum := "cadd7e3187d01b673f6c0ab7dd71fe231d1e3b83d2755946eb891e75b21777b2", func := "loop.example/g03313/laws.FnExactTileImage", spec := "fnExactTileImage", unfollowed := true, recurses := true, apart := false }
def FnExactTileImageSaid : Prop := fnExactTileImageRow.holds Try.pinned (OpenSpec.ofChange fnExactTileImageSpec)

/-- ITS FALSE NEIGHBOUR: 'it returns false'. Refute it at one input. -/
def fnExactTileImageWrong : ChangeSpec := { name := "fnExactTileImage", fn := fun _ => fun
  | [d1, d2, d3] => { results := [.lit (.bool false)], args := [d1, d2, d3] }
  | _ => none }
def FnExactTileImageWrongFalsely : Prop := fnExactTileImageRow.holds Try.pinned (OpenSpec.ofChange fnExactTileImageWrong)

/-- 'laws.FnExactScaled': WHATEVER THE INPUT: true; the input reads as it did. -/
def fnExactScaledSpec : ChangeSpec := { name := "fnExactScaled", fn := fun _ => fun
  | [d1, d2, d3] => { results := [.lit (.bool true)], args := [d1, d2, d3] }
  | _ => none }
def fnExactScaledRow : OpenClaim := { program := "ytbgemonpkncldaa", sum := "cadd7e3187d01b673f6c0ab7dd71fe231d1e3b83d2755946eb891e75b21777b2", func := "loop.example/g03313/laws.FnExactScaled", spec := "fnExactScaled", unfollowed := true, recurses := true, apart := false }
def FnExactScaledSaid : Prop := fnExactScaledRow.holds Try.pinned (OpenSpec.ofChange fnExactScaledSpec)

/-- ITS FALSE NEIGHBOUR: 'it returns false'. Refute it at one input. -/
def fnExactScaledWrong : ChangeSpec := { name := "fnExactScaled", fn := fun _ => fun
  | [d1, d2, d3] => { results := [.lit (.bool false)], args := [d1, d2, d3] }
  | _ => none }
def FnExactScaledWrongFalsely : Prop := fnExactScaledRow.holds Try.pinned (OpenSpec.ofChange fnExactScaledWrong)

/-- 'laws.FnExactCropImage': WHATEVER THE INPUT: true; the input reads as it did. -/
def fnExactCropImageSpec : ChangeSpec := { name := "fnExactCropImage", fn := fun _ => fun
  | [d1, d2] => { results := [.lit (.bool true)], args := [d1, d2] }
  | _ => none }
def fnExactCropImageRow : OpenClaim := { program := "ytbgemonpkncldaa", sum := "cadd7e3187d01b673f6c0ab7dd71fe231d1e3b83d2755946eb891e75b21777b2", func := "loop.example/g03313/laws.FnExactCropImage", spec := "fnExactCropImage", unfollowed := true, recurses := true, apart := false }
def FnExactCropImageSaid : Prop := fnExactCropImageRow.holds Try.pinned (OpenSpec.ofChange fnExactCropImageSpec)

/-- ITS FALSE NEIGHBOUR: 'it returns false'. Refute it at one input. -/
def fnExactCropImageWrong : ChangeSpec := { name := "fnExactCropImage", fn := fun _ => fun
  | [d1, d2] => { results := [.lit (.bool false)], args := [d1, d2] }
  | _ => none }
def FnExactCropImageWrongFalsely : Prop := fnExactCropImageRow.holds Try.pinned (OpenSpec.ofChange fnExactCropImageWrong)

/-- 'laws.FnScaling': WHATEVER THE INPUT: true; the input reads as it did. -/
def fnScalingSpec : ChangeSpec := { name := "fnScaling", fn := fun _ => fun
  | [d] => { results := [.lit (.bool true)], args := [d] }
  | _ => none }
def fnScalingRow : OpenClaim := { program := "ytbgemonpkncldaa", sum := "cadd7e3187d01b673f6c0ab7dd71fe231d1e3b83d2755946eb891e75b21777b2", func := "loop.example/g03313/laws.FnScaling", spec := "fnScaling", unfollowed := true, recurses := true, apart := false }
def FnScalingSaid : Prop := fnScalingRow.holds Try.pinned (OpenSpec.ofChange fnScalingSpec)

/-- ITS FALSE NEIGHBOUR: 'it returns false'. Refute it at one input. -/
def fnScalingWrong : ChangeSpec := { name := "fnScaling", fn := fun _ => fun
  | [d] => { results := [.lit (.bool false)], args := [d] }
  | _ => none }
def FnScalingWrongFalsely : Prop := fnScalingRow.holds Try.pinned (OpenSpec.ofChange fnScalingWrong)

/-- 'laws.FnExactOriented': WHATEVER THE INPUT: true; the input reads as it did. -/
def fnExactOrientedSpec : ChangeSpec := { name := "fnExactOriented", fn := fun _ => fun
  | [d1, d2] => { results := [.lit (.bool true)], args := [d1, d2] }
  | _ => none }
def fnExactOrientedRow : OpenClaim := { program := "ytbgemonpkncldaa", sum := "cadd7e3187d01b673f6c0ab7dd71fe231d1e3b83d2755946eb891e75b21777b2", func := "loop.example/g03313/laws.FnExactOriented", spec := "fnExactOriented", apart := false }
def FnExactOrientedSaid : Prop := fnExactOrientedRow.holds Try.pinned (OpenSpec.ofChange fnExactOrientedSpec)

/-- ITS FALSE NEIGHBOUR: 'it returns false'. Refute it at one input. -/
def fnExactOrientedWrong : ChangeSpec := { name := "fnExactOriented", fn := fun _ => fun
  | [d1, d2] => { results := [.lit (.bool false)], args := [d1, d2] }
  | _ => none }
def FnExactOrientedWrongFalsely : Prop := fnExactOrientedRow.holds Try.pinned (OpenSpec.ofChange fnExactOrientedWrong)

/-- 'laws.FnExactFillRect': WHATEVER THE INPUT: true; the input reads as it did. -/
def fnExactFillRectSpec : ChangeSpec := { name := "fnExactFillRect", fn := fun _ => fun
  | [d1, d2, d3] => { results := [.lit (.bool true)], args := [d1, d2, d3] }
  | _ => none }
def fnExactFillRectRow : OpenClaim := { program := "ytbgemonpkncldaa", sum := "cadd7e3187d01b673f6c0ab7dd71fe231d1e3b83d2755946eb891e75b21777b2", func := "loop.example/g03313/laws.FnExactFillRect", spec := "fnExactFillRect", apart := false }
def FnExactFillRectSaid : Prop := fnExactFillRectRow.holds Try.pinned (OpenSpec.ofChange fnExactFillRectSpec)

/-- ITS FALSE NEIGHBOUR: 'it returns false'. Refute it at one input. -/
def fnExactFillRectWrong : ChangeSpec := { name := "fnExactFillRect", fn := fun _ => fun
  | [d1, d2, d3] => { results := [.lit (.bool false)], args := [d1, d2, d3] }
  | _ => none }
def FnExactFillRectWrongFalsely : Prop := fnExactFillRectRow.holds Try.pinned (OpenSpec.ofChange fnExactFillRectWrong)

/-- 'laws.FnOrientGroup': WHATEVER THE INPUT: true; the input reads as it did. -/
def fnOrientGroupSpec : ChangeSpec := { name := "fnOrientGroup", fn := fun _ => fun
  | [d] => { results := [.lit (.bool true)], args := [d] }
  | _ => none }
def fnOrientGroupRow : OpenClaim := { program := "ytbgemonpkncldaa", sum := "cadd7e3187d01b673f6c0ab7dd71fe231d1e3b83d2755946eb891e75b21777b2", func := "loop.example/g03313/laws.FnOrientGroup", spec := "fnOrientGroup", apart := false }
def FnOrientGroupSaid : Prop := fnOrientGroupRow.holds Try.pinned (OpenSpec.ofChange fnOrientGroupSpec)

/-- ITS FALSE NEIGHBOUR: 'it returns false'. Refute it at one input. -/
def fnOrientGroupWrong : ChangeSpec := { name := "fnOrientGroup", fn := fun _ => fun
  | [d] => { results := [.lit (.bool false)], args := [d] }
  | _ => none }
def FnOrientGroupWrongFalsely : Prop := fnOrientGroupRow.holds Try.pinned (OpenSpec.ofChange fnOrientGroupWrong)

/- THE SECOND FORM. 'bulk': how many values and letters a reading holds, each counted each time it is reached (what is shared counts as often as it is met; a slice's spare places count too). A statement '..UptoSaid' is the law's where the arguments, and the package variables that the reading takes, are together of bulk at most 1048576: NARROWER than '..Said'. Prove '..Said' where nothing that the law and all that it calls make is longer than what came in: it says more and counts as full. Else prove '..UptoSaid'. A law counts once. -/
mutual
def uptoBulk {H : Type} : DataW H → Nat
  | .lit (.string bytes) => bytes.length + 1
  | .lit _ => 1
  | .nil => 1
  | .ptr d => uptoBulk d + 1
  | .slice elems spare => uptoBulkAll elems + uptoBulkAll spare + 1
  | .agg parts => uptoBulkAll parts + 1
  | .iface _ d => uptoBulk d + 1
  | .map entries => uptoBulkEntries entries + 1
  | .held _ => 1
def uptoBulkAll {H : Type} : List (DataW H) → Nat
  | [] => 0
  | d :: r => uptoBulk d + uptoBulkAll r
def uptoBulkEntries {H : Type} : List (Lit × DataW H) → Nat
  | [] => 0
  | x :: r => uptoBulkEntry x + uptoBulkEntries r
def uptoBulkEntry {H : Type} : Lit × DataW H → Nat
  | (.string bytes, d) => bytes.length + uptoBulk d + 1
  | (_, d) => uptoBulk d + 1
 end
def uptoSmall : (H : Type) → List (DataW H) → Bool := fun _ ds => decide (uptoBulkAll ds ≤ 1048576)
def OpenSpec.upto (s : _root_.Go.ChangeSpec) : _root_.Go.OpenSpec := { _root_.Go.OpenSpec.ofChange s with cond := some uptoSmall }

/-- 'laws.FnExactImageOk', WHERE WHAT IT READS IS OF BULK AT MOST 1048576: true; the input reads as it did. -/
def fnExactImageOkUptoRow : OpenClaim := { program := "ytbgemonpkncldaa", sum := "cadd7e3187d01b673f6c0ab7dd71fe231d1e3b83d2755946eb891e75b21777b2", func := "loop.example/g03313/laws.FnExactImageOk", spec := "fnExactImageOk", apart := false, narrowed := true }
def FnExactImageOkUptoSaid : Prop := fnExactImageOkUptoRow.holds Try.pinned (OpenSpec.upto fnExactImageOkSpec)

/-- 'laws.FnExactSameImage', WHERE WHAT IT READS IS OF BULK AT MOST 1048576: true; the input reads as it did. -/
def fnExactSameImageUptoRow : OpenClaim := { program := "ytbgemonpkncldaa", sum := "cadd7e3187d01b673f6c0ab7dd71fe231d1e3b83d2755946eb891e75b21777b2", func := "loop.example/g03313/laws.FnExactSameImage", spec := "fnExactSameImage", apart := false, narrowed := true }
def FnExactSameImageUptoSaid : Prop := fnExactSameImageUptoRow.holds Try.pinned (OpenSpec.upto fnExactSameImageSpec)

/-- 'laws.FnExactPixelOf', WHERE WHAT IT READS IS OF BULK AT MOST 1048576: true; the input reads as it did. -/
def fnExactPixelOfUptoRow : OpenClaim := { program := "ytbgemonpkncldaa", sum := "cadd7e3187d01b673f6c0ab7dd71fe231d1e3b83d2755946eb891e75b21777b2", func := "loop.example/g03313/laws.FnExactPixelOf", spec := "fnExactPixelOf", apart := false, narrowed := true }
def FnExactPixelOfUptoSaid : Prop := fnExactPixelOfUptoRow.holds Try.pinned (OpenSpec.upto fnExactPixelOfSpec)

/-- 'laws.FnExactNewImage', WHERE WHAT IT READS IS OF BULK AT MOST 1048576: true; the input reads as it did. -/
def fnExactNewImageUptoRow : OpenClaim := { program := "ytbgemonpkncldaa", sum := "cadd7e3187d01b673f6c0ab7dd71fe231d1e3b83d2755946eb891e75b21777b2", func := "loop.example/g03313/laws.FnExactNewImage", spec := "fnExactNewImage", apart := false, narrowed := true }
def FnExactNewImageUptoSaid : Prop := fnExactNewImageUptoRow.holds Try.pinned (OpenSpec.upto fnExactNewImageSpec)

/-- 'laws.FnExactTileImage', WHERE WHAT IT READS IS OF BULK AT MOST 1048576: true; the input reads as it did. -/
def fnExactTileImageUptoRow : OpenClaim := { program := "ytbgemonpkncldaa", sum := "cadd7e3187d01b673f6c0ab7dd71fe231d1e3b83d2755946eb891e75b21777b2", func := "loop.example/g03313/laws.FnExactTileImage", spec := "fnExactTileImage", unfollowed := true, recurses := true, apart := false, narrowed := true }
def FnExactTileImageUptoSaid : Prop := fnExactTileImageUptoRow.holds Try.pinned (OpenSpec.upto fnExactTileImageSpec)

/-- 'laws.FnExactScaled', WHERE WHAT IT READS IS OF BULK AT MOST 1048576: true; the input reads as it did. -/
def fnExactScaledUptoRow : OpenClaim := { program := "ytbgemonpkncldaa", sum := "cadd7e3187d01b673f6c0ab7dd71fe231d1e3b83d2755946eb891e75b21777b2", func := "loop.example/g03313/laws.FnExactScaled", spec := "fnExactScaled", unfollowed := true, recurses := true, apart := false, narrowed := true }
def FnExactScaledUptoSaid : Prop := fnExactScaledUptoRow.holds Try.pinned (OpenSpec.upto fnExactScaledSpec)

/-- 'laws.FnExactCropImage', WHERE WHAT IT READS IS OF BULK AT MOST 1048576: true; the input reads as it did. -/
def fnExactCropImageUptoRow : OpenClaim := { program := "ytbgemonpkncldaa", sum := "cadd7e3187d01b673f6c0ab7dd71fe231d1e3b83d2755946eb891e75b21777b2", func := "loop.example/g03313/laws.FnExactCropImage", spec := "fnExactCropImage", unfollowed := true, recurses := true, apart := false, narrowed := true }
def FnExactCropImageUptoSaid : Prop := fnExactCropImageUptoRow.holds Try.pinned (OpenSpec.upto fnExactCropImageSpec)

/-- 'laws.FnScaling', WHERE WHAT IT READS IS OF BULK AT MOST 1048576: true; the input reads as it did. -/
def fnScalingUptoRow : OpenClaim := { program := "ytbgemonpkncldaa", sum := "cadd7e3187d01b673f6c0ab7dd71fe231d1e3b83d2755946eb891e75b21777b2", func := "loop.example/g03313/laws.FnScaling", spec := "fnScaling", unfollowed := true, recurses := true, apart := false, narrowed := true }
def FnScalingUptoSaid : Prop := fnScalingUptoRow.holds Try.pinned (OpenSpec.upto fnScalingSpec)

/-- 'laws.FnExactOriented', WHERE WHAT IT READS IS OF BULK AT MOST 1048576: true; the input reads as it did. -/
def fnExactOrientedUptoRow : OpenClaim := { program := "ytbgemonpkncldaa", sum := "cadd7e3187d01b673f6c0ab7dd71fe231d1e3b83d2755946eb891e75b21777b2", func := "loop.example/g03313/laws.FnExactOriented", spec := "fnExactOriented", apart := false, narrowed := true }
def FnExactOrientedUptoSaid : Prop := fnExactOrientedUptoRow.holds Try.pinned (OpenSpec.upto fnExactOrientedSpec)

/-- 'laws.FnExactFillRect', WHERE WHAT IT READS IS OF BULK AT MOST 1048576: true; the input reads as it did. -/
def fnExactFillRectUptoRow : OpenClaim := { program := "ytbgemonpkncldaa", sum := "cadd7e3187d01b673f6c0ab7dd71fe231d1e3b83d2755946eb891e75b21777b2", func := "loop.example/g03313/laws.FnExactFillRect", spec := "fnExactFillRect", apart := false, narrowed := true }
def FnExactFillRectUptoSaid : Prop := fnExactFillRectUptoRow.holds Try.pinned (OpenSpec.upto fnExactFillRectSpec)

/-- 'laws.FnOrientGroup', WHERE WHAT IT READS IS OF BULK AT MOST 1048576: true; the input reads as it did. -/
def fnOrientGroupUptoRow : OpenClaim := { program := "ytbgemonpkncldaa", sum := "cadd7e3187d01b673f6c0ab7dd71fe231d1e3b83d2755946eb891e75b21777b2", func := "loop.example/g03313/laws.FnOrientGroup", spec := "fnOrientGroup", apart := false, narrowed := true }
def FnOrientGroupUptoSaid : Prop := fnOrientGroupUptoRow.holds Try.pinned (OpenSpec.upto fnOrientGroupSpec)

end Rows
end Go.Proofs.Ytbgemonpkncldaa
