/-
  No cell of these rows narrows 'for every input' (looked for: loops, veiled, ifaces, maps, wideKeys, modest, calm, conditions, laid).
  DERIVED. THE GIVEN ROWS OF THIS SEAT. 10 by the template 'for every input the law returns true; each argument reads behind the call as it read before'; 0 by the template 'total and deterministic' (their statements: YtlnailpefdlnnaaTotals.lean).
  GIVEN WITH THE SEED: the statements are not yours to turn. If you find one false, say at which input.
  Laid BY PROGRAM, IN A SANDBOX (cutbox-rows.mjs): the forced cells as the released guide's own fill.sh prints them over the translation 64f26487e303c16d… (all of the seat's roots in one cut). By AI agents, Wed Nov 11 2026. No macro, syntax, notation, axiom, sorry.
-/
import Derived.Test.YtlnailpefdlnnaaChecked
import GoSem.Claim
import GoSem.ClaimJoined
import GoSem.ClaimMapViews
import Derived.JoinedTies
import Derived.KernelRfl
namespace Go.Proofs.Ytlnailpefdlnnaa
/- THE CELL 'sum', in the pinned program and in every row, IS THE sha256 OF THE DUMP (.gsa) THAT YtlnailpefdlnnaaProg.lean LOADS. Nothing in Lean hashes anything: it is a label: what it is worth is what the hold of that sum in a sandbox is worth. -/
noncomputable def Try.pinned : Pinned := { name := "ytlnailpefdlnnaa", sum := "64f26487e303c16ddcad2fc4699f0a45fe43cb08e76463c116b5f150e08c3a15", checked := Try.checked }
namespace Rows
def none {H : Type} : Left H := { results := [], args := [] }

/-- 'laws.FnExactRegionOk': WHATEVER THE INPUT: true; the input reads as it did. -/
def fnExactRegionOkSpec : ChangeSpec := { name := "fnExactRegionOk", fn := fun _ => fun
  | [d] => { results := [.lit (.bool true)], args := [d] }
  | _ => none }
def fnExactRegionOkRow : OpenClaim := { program := "ytlnailpefdlnnaa", sum := "64f26487e303c16ddcad2fc4699f0a45fe43cb08e76463c116b5f150e08c3a15", func := "loop.example/g03313/laws.FnExactRegionOk", spec := "fnExactRegionOk", apart := false }
def FnExactRegionOkSaid : Prop := fnExactRegionOkRow.holds Try.pinned (OpenSpec.ofChange fnExactRegionOkSpec)

/-- ITS FALSE NEIGHBOUR: 'it returns false'. Refute it at one input. -/
def fnExactRegionOkWrong : ChangeSpec := { name := "fnExactRegionOk", fn := fun _ => fun
  | [d] => { results := [.lit (.bool false)], args := [d] }
  | _ => none }
def FnExactRegionOkWrongFalsely : Prop := fnExactRegionOkRow.holds Try.pinned (OpenSpec.ofChange fnExactRegionOkWrong)

/-- 'laws.FnExactRegionOf': WHATEVER THE INPUT: true; the input reads as it did. -/
def fnExactRegionOfSpec : ChangeSpec := { name := "fnExactRegionOf", fn := fun _ => fun
  | [d] => { results := [.lit (.bool true)], args := [d] }
  | _ => none }
def fnExactRegionOfRow : OpenClaim := { program := "ytlnailpefdlnnaa", sum := "64f26487e303c16ddcad2fc4699f0a45fe43cb08e76463c116b5f150e08c3a15", func := "loop.example/g03313/laws.FnExactRegionOf", spec := "fnExactRegionOf", apart := false }
def FnExactRegionOfSaid : Prop := fnExactRegionOfRow.holds Try.pinned (OpenSpec.ofChange fnExactRegionOfSpec)

/-- ITS FALSE NEIGHBOUR: 'it returns false'. Refute it at one input. -/
def fnExactRegionOfWrong : ChangeSpec := { name := "fnExactRegionOf", fn := fun _ => fun
  | [d] => { results := [.lit (.bool false)], args := [d] }
  | _ => none }
def FnExactRegionOfWrongFalsely : Prop := fnExactRegionOfRow.holds Try.pinned (OpenSpec.ofChange fnExactRegionOfWrong)

/-- 'laws.FnExactInRegion': WHATEVER THE INPUT: true; the input reads as it did. -/
def fnExactInRegionSpec : ChangeSpec := { name := "fnExactInRegion", fn := fun _ => fun
  | [d1, d2, d3] => { results := [.lit (.bool true)], args := [d1, d2, d3] }
  | _ => none }
def fnExactInRegionRow : OpenClaim := { program := "ytlnailpefdlnnaa", sum := "64f26487e303c16ddcad2fc4699f0a45fe43cb08e76463c116b5f150e08c3a15", func := "loop.example/g03313/laws.FnExactInRegion", spec := "fnExactInRegion", apart := false }
def FnExactInRegionSaid : Prop := fnExactInRegionRow.holds Try.pinned (OpenSpec.ofChange fnExactInRegionSpec)

/-- ITS FALSE NEIGHBOUR: 'it returns false'. Refute it at one input. -/
def fnExactInRegionWrong : ChangeSpec := { name := "fnExactInRegion", fn := fun _ => fun
  | [d1, d2, d3] => { results := [.lit (.bool false)], args := [d1, d2, d3] }
  | _ => none }
def FnExactInRegionWrongFalsely : Prop := fnExactInRegionRow.holds Try.pinned (OpenSpec.ofChange fnExactInRegionWrong)

/-- 'laws.FnExactAreaOf': WHATEVER THE INPUT: true; the input reads as it did. -/
def fnExactAreaOfSpec : ChangeSpec := { name := "fnExactAreaOf", fn := fun _ => fun
  | [d] => { results := [.lit (.bool true)], args := [d] }
  | _ => none }
def fnExactAreaOfRow : OpenClaim := { program := "ytlnailpefdlnnaa", sum := "64f26487e303c16ddcad2fc4699f0a45fe43cb08e76463c116b5f150e08c3a15", func := "loop.example/g03313/laws.FnExactAreaOf", spec := "fnExactAreaOf", apart := false }
def FnExactAreaOfSaid : Prop := fnExactAreaOfRow.holds Try.pinned (OpenSpec.ofChange fnExactAreaOfSpec)

/-- ITS FALSE NEIGHBOUR: 'it returns false'. Refute it at one input. -/
def fnExactAreaOfWrong : ChangeSpec := { name := "fnExactAreaOf", fn := fun _ => fun
  | [d] => { results := [.lit (.bool false)], args := [d] }
  | _ => none }
def FnExactAreaOfWrongFalsely : Prop := fnExactAreaOfRow.holds Try.pinned (OpenSpec.ofChange fnExactAreaOfWrong)

/-- 'laws.FnExactBoundsOf': WHATEVER THE INPUT: true; the input reads as it did. -/
def fnExactBoundsOfSpec : ChangeSpec := { name := "fnExactBoundsOf", fn := fun _ => fun
  | [d] => { results := [.lit (.bool true)], args := [d] }
  | _ => none }
def fnExactBoundsOfRow : OpenClaim := { program := "ytlnailpefdlnnaa", sum := "64f26487e303c16ddcad2fc4699f0a45fe43cb08e76463c116b5f150e08c3a15", func := "loop.example/g03313/laws.FnExactBoundsOf", spec := "fnExactBoundsOf", apart := false }
def FnExactBoundsOfSaid : Prop := fnExactBoundsOfRow.holds Try.pinned (OpenSpec.ofChange fnExactBoundsOfSpec)

/-- ITS FALSE NEIGHBOUR: 'it returns false'. Refute it at one input. -/
def fnExactBoundsOfWrong : ChangeSpec := { name := "fnExactBoundsOf", fn := fun _ => fun
  | [d] => { results := [.lit (.bool false)], args := [d] }
  | _ => none }
def FnExactBoundsOfWrongFalsely : Prop := fnExactBoundsOfRow.holds Try.pinned (OpenSpec.ofChange fnExactBoundsOfWrong)

/-- 'laws.FnExactUnionOf': WHATEVER THE INPUT: true; the input reads as it did. -/
def fnExactUnionOfSpec : ChangeSpec := { name := "fnExactUnionOf", fn := fun _ => fun
  | [d1, d2] => { results := [.lit (.bool true)], args := [d1, d2] }
  | _ => none }
def fnExactUnionOfRow : OpenClaim := { program := "ytlnailpefdlnnaa", sum := "64f26487e303c16ddcad2fc4699f0a45fe43cb08e76463c116b5f150e08c3a15", func := "loop.example/g03313/laws.FnExactUnionOf", spec := "fnExactUnionOf", apart := false }
def FnExactUnionOfSaid : Prop := fnExactUnionOfRow.holds Try.pinned (OpenSpec.ofChange fnExactUnionOfSpec)

/-- ITS FALSE NEIGHBOUR: 'it returns false'. Refute it at one input. -/
def fnExactUnionOfWrong : ChangeSpec := { name := "fnExactUnionOf", fn := fun _ => fun
  | [d1, d2] => { results := [.lit (.bool false)], args := [d1, d2] }
  | _ => none }
def FnExactUnionOfWrongFalsely : Prop := fnExactUnionOfRow.holds Try.pinned (OpenSpec.ofChange fnExactUnionOfWrong)

/-- 'laws.FnExactCommonOf': WHATEVER THE INPUT: true; the input reads as it did. -/
def fnExactCommonOfSpec : ChangeSpec := { name := "fnExactCommonOf", fn := fun _ => fun
  | [d1, d2] => { results := [.lit (.bool true)], args := [d1, d2] }
  | _ => none }
def fnExactCommonOfRow : OpenClaim := { program := "ytlnailpefdlnnaa", sum := "64f26487e303c16ddcad2fc4699f0a45fe43cb08e76463c116b5f150e08c3a15", func := "loop.example/g03313/laws.FnExactCommonOf", spec := "fnExactCommonOf", apart := false }
def FnExactCommonOfSaid : Prop := fnExactCommonOfRow.holds Try.pinned (OpenSpec.ofChange fnExactCommonOfSpec)

/-- ITS FALSE NEIGHBOUR: 'it returns false'. Refute it at one input. -/
def fnExactCommonOfWrong : ChangeSpec := { name := "fnExactCommonOf", fn := fun _ => fun
  | [d1, d2] => { results := [.lit (.bool false)], args := [d1, d2] }
  | _ => none }
def FnExactCommonOfWrongFalsely : Prop := fnExactCommonOfRow.holds Try.pinned (OpenSpec.ofChange fnExactCommonOfWrong)

/-- 'laws.FnExactWithoutOf': WHATEVER THE INPUT: true; the input reads as it did. -/
def fnExactWithoutOfSpec : ChangeSpec := { name := "fnExactWithoutOf", fn := fun _ => fun
  | [d1, d2] => { results := [.lit (.bool true)], args := [d1, d2] }
  | _ => none }
def fnExactWithoutOfRow : OpenClaim := { program := "ytlnailpefdlnnaa", sum := "64f26487e303c16ddcad2fc4699f0a45fe43cb08e76463c116b5f150e08c3a15", func := "loop.example/g03313/laws.FnExactWithoutOf", spec := "fnExactWithoutOf", apart := false }
def FnExactWithoutOfSaid : Prop := fnExactWithoutOfRow.holds Try.pinned (OpenSpec.ofChange fnExactWithoutOfSpec)

/-- ITS FALSE NEIGHBOUR: 'it returns false'. Refute it at one input. -/
def fnExactWithoutOfWrong : ChangeSpec := { name := "fnExactWithoutOf", fn := fun _ => fun
  | [d1, d2] => { results := [.lit (.bool false)], args := [d1, d2] }
  | _ => none }
def FnExactWithoutOfWrongFalsely : Prop := fnExactWithoutOfRow.holds Try.pinned (OpenSpec.ofChange fnExactWithoutOfWrong)

/-- 'laws.FnRegionSets': WHATEVER THE INPUT: true; the input reads as it did. -/
def fnRegionSetsSpec : ChangeSpec := { name := "fnRegionSets", fn := fun _ => fun
  | [d] => { results := [.lit (.bool true)], args := [d] }
  | _ => none }
def fnRegionSetsRow : OpenClaim := { program := "ytlnailpefdlnnaa", sum := "64f26487e303c16ddcad2fc4699f0a45fe43cb08e76463c116b5f150e08c3a15", func := "loop.example/g03313/laws.FnRegionSets", spec := "fnRegionSets", apart := false }
def FnRegionSetsSaid : Prop := fnRegionSetsRow.holds Try.pinned (OpenSpec.ofChange fnRegionSetsSpec)

/-- ITS FALSE NEIGHBOUR: 'it returns false'. Refute it at one input. -/
def fnRegionSetsWrong : ChangeSpec := { name := "fnRegionSets", fn := fun _ => fun
  | [d] => { results := [.lit (.bool false)], args := [d] }
  | _ => none }
def FnRegionSetsWrongFalsely : Prop := fnRegionSetsRow.holds Try.pinned (OpenSpec.ofChange fnRegionSetsWrong)

/-- 'laws.FnRegionForms': WHATEVER THE INPUT: true; the input reads as it did. -/
def fnRegionFormsSpec : ChangeSpec := { name := "fnRegionForms", fn := fun _ => fun
  | [d] => { results := [.lit (.bool true)], args := [d] }
  | _ => none }
def fnRegionFormsRow : OpenClaim := { program := "ytlnailpefdlnnaa", sum := "64f26487e303c16ddcad2fc4699f0a45fe43cb08e76463c116b5f150e08c3a15", func := "loop.example/g03313/laws.FnRegionForms", spec := "fnRegionForms", apart := false }
def FnRegionFormsSaid : Prop := fnRegionFormsRow.holds Try.pinned (OpenSpec.ofChange fnRegionFormsSpec)

/-- ITS FALSE NEIGHBOUR: 'it returns false'. Refute it at one input. -/
def fnRegionFormsWrong : ChangeSpec := { name := "fnRegionForms", fn := fun _ => fun
  | [d] => { results := [.lit (.bool false)], args := [d] }
  | _ => none }
def FnRegionFormsWrongFalsely : Prop := fnRegionFormsRow.holds Try.pinned (OpenSpec.ofChange fnRegionFormsWrong)

/- THE SECOND FORM. 'bulk': how many values and letters a reading holds, each counted each time it is reached (what is shared counts as often as it is met; a slice's spare places count too). A statement '..UptoSaid' is the law's where the arguments, and the package variables that the reading takes, are together of bulk at most 1048576: NARROWER than '..Said'. Prove '..Said' where nothing that the law and all that it calls make is longer than what came in: it says more and counts as full. Else prove '..UptoSaid'. A law counts once. -/
mutual
def uptoBulk {H : Type} : DataW H → Nat
  | .lit (.string bytes) => bytes.length + 1
  | .lit _ => 1
  | .nil => 1
  | .ptr d => uptoBulk d + 1
  | .slice elems spare => uptoBulkAll elems + uptoBulkAll spare + 1
  | .agg parts => uptoBulkAll parts + 1
  | .iface _ d => uptoBulk d + 1
  | .map entries => uptoBulkEntries entries + 1
  | .held _ => 1
def uptoBulkAll {H : Type} : List (DataW H) → Nat
  | [] => 0
  | d :: r => uptoBulk d + uptoBulkAll r
def uptoBulkEntries {H : Type} : List (Lit × DataW H) → Nat
  | [] => 0
  | x :: r => uptoBulkEntry x + uptoBulkEntries r
def uptoBulkEntry {H : Type} : Lit × DataW H → Nat
  | (.string bytes, d) => bytes.length + uptoBulk d + 1
  | (_, d) => uptoBulk d + 1
 end
def uptoSmall : (H : Type) → List (DataW H) → Bool := fun _ ds => decide (uptoBulkAll ds ≤ 1048576)
def OpenSpec.upto (s : _root_.Go.ChangeSpec) : _root_.Go.OpenSpec := { _root_.Go.OpenSpec.ofChange s with cond := some uptoSmall }

/-- 'laws.FnExactRegionOk', WHERE WHAT IT READS IS OF BULK AT MOST 1048576: true; the input reads as it did. -/
def fnExactRegionOkUptoRow : OpenClaim := { program := "ytlnailpefdlnnaa", sum := "64f26487e303c16ddcad2fc4699f0a45fe43cb08e76463c116b5f150e08c3a15", func := "loop.example/g03313/laws.FnExactRegionOk", spec := "fnExactRegionOk", apart := false, narrowed := true }
def FnExactRegionOkUptoSaid : Prop := fnExactRegionOkUptoRow.holds Try.pinned (OpenSpec.upto fnExactRegionOkSpec)

/-- 'laws.FnExactRegionOf', WHERE WHAT IT READS IS OF BULK AT MOST 1048576: true; the input reads as it did. -/
def fnExactRegionOfUptoRow : OpenClaim := { program := "ytlnailpefdlnnaa", sum := "64f26487e303c16ddcad2fc4699f0a45fe43cb08e76463c116b5f150e08c3a15", func := "loop.example/g03313/laws.FnExactRegionOf", spec := "fnExactRegionOf", apart := false, narrowed := true }
def FnExactRegionOfUptoSaid : Prop := fnExactRegionOfUptoRow.holds Try.pinned (OpenSpec.upto fnExactRegionOfSpec)

/-- 'laws.FnExactInRegion', WHERE WHAT IT READS IS OF BULK AT MOST 1048576: true; the input reads as it did. -/
def fnExactInRegionUptoRow : OpenClaim := { program := "ytlnailpefdlnnaa", sum := "64f26487e303c16ddcad2fc4699f0a45fe43cb08e76463c116b5f150e08c3a15", func := "loop.example/g03313/laws.FnExactInRegion", spec := "fnExactInRegion", apart := false, narrowed := true }
def FnExactInRegionUptoSaid : Prop := fnExactInRegionUptoRow.holds Try.pinned (OpenSpec.upto fnExactInRegionSpec)

/-- 'laws.FnExactAreaOf', WHERE WHAT IT READS IS OF BULK AT MOST 1048576: true; the input reads as it did. -/
def fnExactAreaOfUptoRow : OpenClaim := { program := "ytlnailpefdlnnaa", sum := "64f26487e303c16ddcad2fc4699f0a45fe43cb08e76463c116b5f150e08c3a15", func := "loop.example/g03313/laws.FnExactAreaOf", spec := "fnExactAreaOf", apart := false, narrowed := true }
def FnExactAreaOfUptoSaid : Prop := fnExactAreaOfUptoRow.holds Try.pinned (OpenSpec.upto fnExactAreaOfSpec)

/-- 'laws.FnExactBoundsOf', WHERE WHAT IT READS IS OF BULK AT MOST 1048576: true; the input reads as it did. -/
def fnExactBoundsOfUptoRow : OpenClaim := { program := "ytlnailpefdlnnaa", sum := "64f26487e303c16ddcad2fc4699f0a45fe43cb08e76463c116b5f150e08c3a15", func := "loop.example/g03313/laws.FnExactBoundsOf", spec := "fnExactBoundsOf", apart := false, narrowed := true }
def FnExactBoundsOfUptoSaid : Prop := fnExactBoundsOfUptoRow.holds Try.pinned (OpenSpec.upto fnExactBoundsOfSpec)

/-- 'laws.FnExactUnionOf', WHERE WHAT IT READS IS OF BULK AT MOST 1048576: true; the input reads as it did. -/
def fnExactUnionOfUptoRow : OpenClaim := { program := "ytlnailpefdlnnaa", sum := "64f26487e303c16ddcad2fc4699f0a45fe43cb08e76463c116b5f150e08c3a15", func := "loop.example/g03313/laws.FnExactUnionOf", spec := "fnExactUnionOf", apart := false, narrowed := true }
def FnExactUnionOfUptoSaid : Prop := fnExactUnionOfUptoRow.holds Try.pinned (OpenSpec.upto fnExactUnionOfSpec)

/-- 'laws.FnExactCommonOf', WHERE WHAT IT READS IS OF BULK AT MOST 1048576: true; the input reads as it did. -/
def fnExactCommonOfUptoRow : OpenClaim := { program := "ytlnailpefdlnnaa", sum := "64f26487e303c16ddcad2fc4699f0a45fe43cb08e76463c116b5f150e08c3a15", func := "loop.example/g03313/laws.FnExactCommonOf", spec := "fnExactCommonOf", apart := false, narrowed := true }
def FnExactCommonOfUptoSaid : Prop := fnExactCommonOfUptoRow.holds Try.pinned (OpenSpec.upto fnExactCommonOfSpec)

/-- 'laws.FnExactWithoutOf', WHERE WHAT IT READS IS OF BULK AT MOST 1048576: true; the input reads as it did. -/
def fnExactWithoutOfUptoRow : OpenClaim := { program := "ytlnailpefdlnnaa", sum := "64f26487e303c16ddcad2fc4699f0a45fe43cb08e76463c116b5f150e08c3a15", func := "loop.example/g03313/laws.FnExactWithoutOf", spec := "fnExactWithoutOf", apart := false, narrowed := true }
def FnExactWithoutOfUptoSaid : Prop := fnExactWithoutOfUptoRow.holds Try.pinned (OpenSpec.upto fnExactWithoutOfSpec)

/-- 'laws.FnRegionSets', WHERE WHAT IT READS IS OF BULK AT MOST 1048576: true; the input reads as it did. -/
def fnRegionSetsUptoRow : OpenClaim := { program := "ytlnailpefdlnnaa", sum := "64f26487e303c16ddcad2fc4699f0a45fe43cb08e76463c116b5f150e08c3a15", func := "loop.example/g03313/laws.FnRegionSets", spec := "fnRegionSets", apart := false, narrowed := true }
def FnRegionSetsUptoSaid : Prop := fnRegionSetsUptoRow.holds Try.pinned (OpenSpec.upto fnRegionSetsSpec)

/-- 'laws.FnRegionForms', WHERE WHAT IT READS IS OF BULK AT MOST 1048576: true; the input reads as it did. -/
def fnRegionFormsUptoRow : OpenClaim := { program := "ytlnailpefdlnnaa", sum := "64f26487e303c16ddcad2fc4699f0a45fe43cb08e76463c116b5f150e08c3a15", func := "loop.example/g03313/laws.FnRegionForms", spec := "fnRegionForms", apart := false, narrowed := true }
def FnRegionFormsUptoSaid : Prop := fnRegionFormsUptoRow.holds Try.pinned (OpenSpec.upto fnRegionFormsSpec)

end Rows
end Go.Proofs.Ytlnailpefdlnnaa
