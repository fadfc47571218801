/-
  NARROWER THAN 'FOR EVERY INPUT', by the rows' own cells (each row's printed sentence says how): FnExactExprValid: loops · FnExactExprUses: loops · FnExactExprDepth: loops · FnExactExprSize: loops.
  DERIVED. THE GIVEN ROWS OF THIS SEAT. 9 by the template 'for every input the law returns true; each argument reads behind the call as it read before'; 0 by the template 'total and deterministic' (their statements: YtjohbglkocgdjaaTotals.lean).
  GIVEN WITH THE SEED: the statements are not yours to turn. If you find one false, say at which input.
  Laid BY PROGRAM, IN A SANDBOX (cutbox-rows.mjs): the forced cells as the released guide's own fill.sh prints them over the translation 1cb65b5422d18ba8… (all of the seat's roots in one cut). By AI agents, Wed Nov 11 2026. No macro, syntax, notation, axiom, sorry.
-/
import Derived.Test.YtjohbglkocgdjaaChecked
import GoSem.Claim
import GoSem.ClaimJoined
import GoSem.ClaimMapViews
import Derived.JoinedTies
import Derived.KernelRfl
namespace Go.Proofs.Ytjohbglkocgdjaa
/- THE CELL 'sum', in the pinned program and in every row, IS THE sha256 OF THE DUMP (.gsa) THAT YtjohbglkocgdjaaProg.lean LOADS. Nothing in Lean hashes anything: it is a label: what it is worth is what the hold of that sum in a sandbox is worth. -/
noncomputable def Try.pinned : Pinned := { name := "ytjohbglkocgdjaa", sum := "1cb65b5422d18ba809310fd2cf2dd1c8e3cea018931df20c02a99cde33c2bf10", checked := Try.checked }
namespace Rows
def none {H : Type} : Left H := { results := [], args := [] }

/-- 'laws.FnExactExprValid': WHATEVER THE INPUT: true; the input reads as it did. -/
def fnExactExprValidSpec : ChangeSpec := { name := "fnExactExprValid", fn := fun _ => fun
  | [d] => { results := [.lit (.bool true)], args := [d] }
  | _ => none }
def fnExactExprValidRow : OpenClaim := { program := "ytjohbglkocgdjaa", sum := "1cb65b5422d18ba809310fd2cf2dd1c8e3cea018931df20c02a99cde33c2bf10", func := "loop.example/cothreads/laws.FnExactExprValid", spec := "fnExactExprValid", recurses := true, loops := true, apart := false }
def FnExactExprValidSaid : Prop := fnExactExprValidRow.holds Try.pinned (OpenSpec.ofChange fnExactExprValidSpec)

/-- ITS FALSE NEIGHBOUR: 'it returns false'. Refute it at one input. -/
def fnExactExprValidWrong : ChangeSpec := { name := "fnExactExprValid", fn := fun _ => fun
  | [d] => { results := [.lit (.bool false)], args := [d] }
  | _ => none }
def FnExactExprValidWrongFalsely : Prop := fnExactExprValidRow.holds Try.pinned (OpenSpec.ofChange fnExactExprValidWrong)

/-- 'laws.FnExactExprUses': WHATEVER THE INPUT: true; the input reads as it did. -/
def fnExactExprUsesSpec : ChangeSpec := { name := "fnExactExprUses", fn := fun _ => fun
  | [d1, d2] => { results := [.lit (.bool true)], args := [d1, d2] }
  | _ => none }
def fnExactExprUsesRow : OpenClaim := { program := "ytjohbglkocgdjaa", sum := "1cb65b5422d18ba809310fd2cf2dd1c8e3cea018931df20c02a99cde33c2bf10", func := "loop.example/cothreads/laws.FnExactExprUses", spec := "fnExactExprUses", recurses := true, loops := true, apart := false }
def FnExactExprUsesSaid : Prop := fnExactExprUsesRow.holds Try.pinned (OpenSpec.ofChange fnExactExprUsesSpec)

/-- ITS FALSE NEIGHBOUR: 'it returns false'. Refute it at one input. -/
def fnExactExprUsesWrong : ChangeSpec := { name := "fnExactExprUses", fn := fun _ => fun
  | [d1, d2] => { results := [.lit (.bool false)], args := [d1, d2] }
  | _ => none }
def FnExactExprUsesWrongFalsely : Prop := fnExactExprUsesRow.holds Try.pinned (OpenSpec.ofChange fnExactExprUsesWrong)

/-- 'laws.FnExactExprDepth': WHATEVER THE INPUT: true; the input reads as it did. -/
def fnExactExprDepthSpec : ChangeSpec := { name := "fnExactExprDepth", fn := fun _ => fun
  | [d] => { results := [.lit (.bool true)], args := [d] }
  | _ => none }
def fnExactExprDepthRow : OpenClaim := { program := "ytjohbglkocgdjaa", sum := "1cb65b5422d18ba809310fd2cf2dd1c8e3cea018931df20c02a99cde33c2bf10", func := "loop.example/cothreads/laws.FnExactExprDepth", spec := "fnExactExprDepth", recurses := true, loops := true, apart := false }
def FnExactExprDepthSaid : Prop := fnExactExprDepthRow.holds Try.pinned (OpenSpec.ofChange fnExactExprDepthSpec)

/-- ITS FALSE NEIGHBOUR: 'it returns false'. Refute it at one input. -/
def fnExactExprDepthWrong : ChangeSpec := { name := "fnExactExprDepth", fn := fun _ => fun
  | [d] => { results := [.lit (.bool false)], args := [d] }
  | _ => none }
def FnExactExprDepthWrongFalsely : Prop := fnExactExprDepthRow.holds Try.pinned (OpenSpec.ofChange fnExactExprDepthWrong)

/-- 'laws.FnExactExprSize': WHATEVER THE INPUT: true; the input reads as it did. -/
def fnExactExprSizeSpec : ChangeSpec := { name := "fnExactExprSize", fn := fun _ => fun
  | [d] => { results := [.lit (.bool true)], args := [d] }
  | _ => none }
def fnExactExprSizeRow : OpenClaim := { program := "ytjohbglkocgdjaa", sum := "1cb65b5422d18ba809310fd2cf2dd1c8e3cea018931df20c02a99cde33c2bf10", func := "loop.example/cothreads/laws.FnExactExprSize", spec := "fnExactExprSize", recurses := true, loops := true, apart := false }
def FnExactExprSizeSaid : Prop := fnExactExprSizeRow.holds Try.pinned (OpenSpec.ofChange fnExactExprSizeSpec)

/-- ITS FALSE NEIGHBOUR: 'it returns false'. Refute it at one input. -/
def fnExactExprSizeWrong : ChangeSpec := { name := "fnExactExprSize", fn := fun _ => fun
  | [d] => { results := [.lit (.bool false)], args := [d] }
  | _ => none }
def FnExactExprSizeWrongFalsely : Prop := fnExactExprSizeRow.holds Try.pinned (OpenSpec.ofChange fnExactExprSizeWrong)

/-- 'laws.FnDepth': WHATEVER THE INPUT: true; the input reads as it did. -/
def fnDepthSpec : ChangeSpec := { name := "fnDepth", fn := fun _ => fun
  | [d] => { results := [.lit (.bool true)], args := [d] }
  | _ => none }
def fnDepthRow : OpenClaim := { program := "ytjohbglkocgdjaa", sum := "1cb65b5422d18ba809310fd2cf2dd1c8e3cea018931df20c02a99cde33c2bf10", func := "loop.example/cothreads/laws.FnDepth", spec := "fnDepth", recurses := true, apart := false }
def FnDepthSaid : Prop := fnDepthRow.holds Try.pinned (OpenSpec.ofChange fnDepthSpec)

/-- ITS FALSE NEIGHBOUR: 'it returns false'. Refute it at one input. -/
def fnDepthWrong : ChangeSpec := { name := "fnDepth", fn := fun _ => fun
  | [d] => { results := [.lit (.bool false)], args := [d] }
  | _ => none }
def FnDepthWrongFalsely : Prop := fnDepthRow.holds Try.pinned (OpenSpec.ofChange fnDepthWrong)

/-- 'laws.FnSizeParts': WHATEVER THE INPUT: true; the input reads as it did. -/
def fnSizePartsSpec : ChangeSpec := { name := "fnSizeParts", fn := fun _ => fun
  | [d] => { results := [.lit (.bool true)], args := [d] }
  | _ => none }
def fnSizePartsRow : OpenClaim := { program := "ytjohbglkocgdjaa", sum := "1cb65b5422d18ba809310fd2cf2dd1c8e3cea018931df20c02a99cde33c2bf10", func := "loop.example/cothreads/laws.FnSizeParts", spec := "fnSizeParts", recurses := true, apart := false }
def FnSizePartsSaid : Prop := fnSizePartsRow.holds Try.pinned (OpenSpec.ofChange fnSizePartsSpec)

/-- ITS FALSE NEIGHBOUR: 'it returns false'. Refute it at one input. -/
def fnSizePartsWrong : ChangeSpec := { name := "fnSizeParts", fn := fun _ => fun
  | [d] => { results := [.lit (.bool false)], args := [d] }
  | _ => none }
def FnSizePartsWrongFalsely : Prop := fnSizePartsRow.holds Try.pinned (OpenSpec.ofChange fnSizePartsWrong)

/-- 'laws.FnSize': WHATEVER THE INPUT: true; the input reads as it did. -/
def fnSizeSpec : ChangeSpec := { name := "fnSize", fn := fun _ => fun
  | [d] => { results := [.lit (.bool true)], args := [d] }
  | _ => none }
def fnSizeRow : OpenClaim := { program := "ytjohbglkocgdjaa", sum := "1cb65b5422d18ba809310fd2cf2dd1c8e3cea018931df20c02a99cde33c2bf10", func := "loop.example/cothreads/laws.FnSize", spec := "fnSize", recurses := true, apart := false }
def FnSizeSaid : Prop := fnSizeRow.holds Try.pinned (OpenSpec.ofChange fnSizeSpec)

/-- ITS FALSE NEIGHBOUR: 'it returns false'. Refute it at one input. -/
def fnSizeWrong : ChangeSpec := { name := "fnSize", fn := fun _ => fun
  | [d] => { results := [.lit (.bool false)], args := [d] }
  | _ => none }
def FnSizeWrongFalsely : Prop := fnSizeRow.holds Try.pinned (OpenSpec.ofChange fnSizeWrong)

/-- 'laws.FnFoldParts': WHATEVER THE INPUT: true; the input reads as it did. -/
def fnFoldPartsSpec : ChangeSpec := { name := "fnFoldParts", fn := fun _ => fun
  | [d] => { results := [.lit (.bool true)], args := [d] }
  | _ => none }
def fnFoldPartsRow : OpenClaim := { program := "ytjohbglkocgdjaa", sum := "1cb65b5422d18ba809310fd2cf2dd1c8e3cea018931df20c02a99cde33c2bf10", func := "loop.example/cothreads/laws.FnFoldParts", spec := "fnFoldParts", recurses := true, apart := false }
def FnFoldPartsSaid : Prop := fnFoldPartsRow.holds Try.pinned (OpenSpec.ofChange fnFoldPartsSpec)

/-- ITS FALSE NEIGHBOUR: 'it returns false'. Refute it at one input. -/
def fnFoldPartsWrong : ChangeSpec := { name := "fnFoldParts", fn := fun _ => fun
  | [d] => { results := [.lit (.bool false)], args := [d] }
  | _ => none }
def FnFoldPartsWrongFalsely : Prop := fnFoldPartsRow.holds Try.pinned (OpenSpec.ofChange fnFoldPartsWrong)

/-- 'laws.FnFoldTwice': WHATEVER THE INPUT: true; the input reads as it did. -/
def fnFoldTwiceSpec : ChangeSpec := { name := "fnFoldTwice", fn := fun _ => fun
  | [d] => { results := [.lit (.bool true)], args := [d] }
  | _ => none }
def fnFoldTwiceRow : OpenClaim := { program := "ytjohbglkocgdjaa", sum := "1cb65b5422d18ba809310fd2cf2dd1c8e3cea018931df20c02a99cde33c2bf10", func := "loop.example/cothreads/laws.FnFoldTwice", spec := "fnFoldTwice", recurses := true, apart := false }
def FnFoldTwiceSaid : Prop := fnFoldTwiceRow.holds Try.pinned (OpenSpec.ofChange fnFoldTwiceSpec)

/-- ITS FALSE NEIGHBOUR: 'it returns false'. Refute it at one input. -/
def fnFoldTwiceWrong : ChangeSpec := { name := "fnFoldTwice", fn := fun _ => fun
  | [d] => { results := [.lit (.bool false)], args := [d] }
  | _ => none }
def FnFoldTwiceWrongFalsely : Prop := fnFoldTwiceRow.holds Try.pinned (OpenSpec.ofChange fnFoldTwiceWrong)

/- THE SECOND FORM. 'bulk': how many values and letters a reading holds, each counted each time it is reached (what is shared counts as often as it is met; a slice's spare places count too). A statement '..UptoSaid' is the law's where the arguments, and the package variables that the reading takes, are together of bulk at most 1048576: NARROWER than '..Said'. Prove '..Said' where nothing that the law and all that it calls make is longer than what came in: it says more and counts as full. Else prove '..UptoSaid'. A law counts once. -/
mutual
def uptoBulk {H : Type} : DataW H → Nat
  | .lit (.string bytes) => bytes.length + 1
  | .lit _ => 1
  | .nil => 1
  | .ptr d => uptoBulk d + 1
  | .slice elems spare => uptoBulkAll elems + uptoBulkAll spare + 1
  | .agg parts => uptoBulkAll parts + 1
  | .iface _ d => uptoBulk d + 1
  | .map entries => uptoBulkEntries entries + 1
  | .held _ => 1
def uptoBulkAll {H : Type} : List (DataW H) → Nat
  | [] => 0
  | d :: r => uptoBulk d + uptoBulkAll r
def uptoBulkEntries {H : Type} : List (Lit × DataW H) → Nat
  | [] => 0
  | x :: r => uptoBulkEntry x + uptoBulkEntries r
def uptoBulkEntry {H : Type} : Lit × DataW H → Nat
  | (.string bytes, d) => bytes.length + uptoBulk d + 1
  | (_, d) => uptoBulk d + 1
 end
def uptoSmall : (H : Type) → List (DataW H) → Bool := fun _ ds => decide (uptoBulkAll ds ≤ 1048576)
def OpenSpec.upto (s : _root_.Go.ChangeSpec) : _root_.Go.OpenSpec := { _root_.Go.OpenSpec.ofChange s with cond := some uptoSmall }

/-- 'laws.FnExactExprValid', WHERE WHAT IT READS IS OF BULK AT MOST 1048576: true; the input reads as it did. -/
def fnExactExprValidUptoRow : OpenClaim := { program := "ytjohbglkocgdjaa", sum := "1cb65b5422d18ba809310fd2cf2dd1c8e3cea018931df20c02a99cde33c2bf10", func := "loop.example/cothreads/laws.FnExactExprValid", spec := "fnExactExprValid", recurses := true, loops := true, apart := false, narrowed := true }
def FnExactExprValidUptoSaid : Prop := fnExactExprValidUptoRow.holds Try.pinned (OpenSpec.upto fnExactExprValidSpec)

/-- 'laws.FnExactExprUses', WHERE WHAT IT READS IS OF BULK AT MOST 1048576: true; the input reads as it did. -/
def fnExactExprUsesUptoRow : OpenClaim := { program := "ytjohbglkocgdjaa", sum := "1cb65b5422d18ba809310fd2cf2dd1c8e3cea018931df20c02a99cde33c2bf10", func := "loop.example/cothreads/laws.FnExactExprUses", spec := "fnExactExprUses", recurses := true, loops := true, apart := false, narrowed := true }
def FnExactExprUsesUptoSaid : Prop := fnExactExprUsesUptoRow.holds Try.pinned (OpenSpec.upto fnExactExprUsesSpec)

/-- 'laws.FnExactExprDepth', WHERE WHAT IT READS IS OF BULK AT MOST 1048576: true; the input reads as it did. -/
def fnExactExprDepthUptoRow : OpenClaim := { program := "ytjohbglkocgdjaa", sum := "1cb65b5422d18ba809310fd2cf2dd1c8e3cea018931df20c02a99cde33c2bf10", func := "loop.example/cothreads/laws.FnExactExprDepth", spec := "fnExactExprDepth", recurses := true, loops := true, apart := false, narrowed := true }
def FnExactExprDepthUptoSaid : Prop := fnExactExprDepthUptoRow.holds Try.pinned (OpenSpec.upto fnExactExprDepthSpec)

/-- 'laws.FnExactExprSize', WHERE WHAT IT READS IS OF BULK AT MOST 1048576: true; the input reads as it did. -/
def fnExactExprSizeUptoRow : OpenClaim := { program := "ytjohbglkocgdjaa", sum := "1cb65b5422d18ba809310fd2cf2dd1c8e3cea018931df20c02a99cde33c2bf10", func := "loop.example/cothreads/laws.FnExactExprSize", spec := "fnExactExprSize", recurses := true, loops := true, apart := false, narrowed := true }
def FnExactExprSizeUptoSaid : Prop := fnExactExprSizeUptoRow.holds Try.pinned (OpenSpec.upto fnExactExprSizeSpec)

/-- 'laws.FnDepth', WHERE WHAT IT READS IS OF BULK AT MOST 1048576: true; the input reads as it did. -/
def fnDepthUptoRow : OpenClaim := { program := "ytjohbglkocgdjaa", sum := "1cb65b5422d18ba809310fd2cf2dd1c8e3cea018931df20c02a99cde33c2bf10", func := "loop.example/cothreads/laws.FnDepth", spec := "fnDepth", recurses := true, apart := false, narrowed := true }
def FnDepthUptoSaid : Prop := fnDepthUptoRow.holds Try.pinned (OpenSpec.upto fnDepthSpec)

/-- 'laws.FnSizeParts', WHERE WHAT IT READS IS OF BULK AT MOST 1048576: true; the input reads as it did. -/
def fnSizePartsUptoRow : OpenClaim := { program := "ytjohbglkocgdjaa", sum := "1cb65b5422d18ba809310fd2cf2dd1c8e3cea018931df20c02a99cde33c2bf10", func := "loop.example/cothreads/laws.FnSizeParts", spec := "fnSizeParts", recurses := true, apart := false, narrowed := true }
def FnSizePartsUptoSaid : Prop := fnSizePartsUptoRow.holds Try.pinned (OpenSpec.upto fnSizePartsSpec)

/-- 'laws.FnSize', WHERE WHAT IT READS IS OF BULK AT MOST 1048576: true; the input reads as it did. -/
def fnSizeUptoRow : OpenClaim := { program := "ytjohbglkocgdjaa", sum := "1cb65b5422d18ba809310fd2cf2dd1c8e3cea018931df20c02a99cde33c2bf10", func := "loop.example/cothreads/laws.FnSize", spec := "fnSize", recurses := true, apart := false, narrowed := true }
def FnSizeUptoSaid : Prop := fnSizeUptoRow.holds Try.pinned (OpenSpec.upto fnSizeSpec)

/-- 'laws.FnFoldParts', WHERE WHAT IT READS IS OF BULK AT MOST 1048576: true; the input reads as it did. -/
def fnFoldPartsUptoRow : OpenClaim := { program := "ytjohbglkocgdjaa", sum := "1cb65b5422d18ba809310fd2cf2dd1c8e3cea018931df20c02a99cde33c2bf10", func := "loop.example/cothreads/laws.FnFoldParts", spec := "fnFoldParts", recurses := true, apart := false, narrowed := true }
def FnFoldPartsUptoSaid : Prop := fnFoldPartsUptoRow.holds Try.pinned (OpenSpec.upto fnFoldPartsSpec)

/-- 'laws.FnFoldTwice', WHERE WHAT IT READS IS OF BULK AT MOST 1048576: true; the input reads as it did. -/
def fnFoldTwiceUptoRow : OpenClaim := { program := "ytjohbglkocgdjaa", sum := "1cb65b5422d18ba809310fd2cf2dd1c8e3cea018931df20c02a99cde33c2bf10", func := "loop.example/cothreads/laws.FnFoldTwice", spec := "fnFoldTwice", recurses := true, apart := false, narrowed := true }
def FnFoldTwiceUptoSaid : Prop := fnFoldTwiceUptoRow.holds Try.pinned (OpenSpec.upto fnFoldTwiceSpec)

end Rows
end Go.Proofs.Ytjohbglkocgdjaa
