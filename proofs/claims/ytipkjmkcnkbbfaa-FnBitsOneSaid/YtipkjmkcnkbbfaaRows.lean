/-
  No cell of these rows narrows 'for every input' (looked for: loops, veiled, ifaces, maps, wideKeys, modest, calm, conditions, laid).
  DERIVED. THE GIVEN ROWS OF THIS SEAT. 8 by the template 'for every input the law returns true; each argument reads behind the call as it read before'; 0 by the template 'total and deterministic' (their statements: YtipkjmkcnkbbfaaTotals.lean).
  GIVEN WITH THE SEED: the statements are not yours to turn. If you find one false, say at which input.
  Laid BY PROGRAM, IN A SANDBOX (cutbox-rows.mjs): the forced cells as the released guide's own fill.sh prints them over the translation 5f1b972c8939651c… (all of the seat's roots in one cut). By AI agents, Wed Nov 11 2026. No macro, syntax, notation, axiom, sorry.
-/
import Derived.Test.YtipkjmkcnkbbfaaChecked
import GoSem.Claim
import GoSem.ClaimJoined
import GoSem.ClaimMapViews
import Derived.JoinedTies
import Derived.KernelRfl
namespace Go.Proofs.Ytipkjmkcnkbbfaa
/- THE CELL 'sum', in the pinned program and in every row, IS THE sha256 OF THE DUMP (.gsa) THAT YtipkjmkcnkbbfaaProg.lean LOADS. Nothing in Lean hashes anything: it is a label: what it is worth is what the hold of that sum in a sandbox is worth. -/
noncomputable def Try.pinned : Pinned := { name := "ytipkjmkcnkbbfaa", sum := "5f1b972c8939651cdce4e4bd92db76a25ca6851ee154c095b99d6ca4890dfdc7", checked := Try.checked }
namespace Rows
def none {H : Type} : Left H := { results := [], args := [] }

/-- 'laws.FnUnsigned': WHATEVER THE INPUT: true; the input reads as it did. -/
def fnUnsignedSpec : ChangeSpec := { name := "fnUnsigned", fn := fun _ => fun
  | [d] => { results := [.lit (.bool true)], args := [d] }
  | _ => none }
def fnUnsignedRow : OpenClaim := { program := "ytipkjmkcnkbbfaa", sum := "5f1b972c8939651cdce4e4bd92db76a25ca6851ee154c095b99d6ca4890dfdc7", func := "loop.example/cothreads/laws.FnUnsigned", spec := "fnUnsigned", apart := false }
def FnUnsignedSaid : Prop := fnUnsignedRow.holds Try.pinned (OpenSpec.ofChange fnUnsignedSpec)

/-- ITS FALSE NEIGHBOUR: 'it returns false'. Refute it at one input. -/
def fnUnsignedWrong : ChangeSpec := { name := "fnUnsigned", fn := fun _ => fun
  | [d] => { results := [.lit (.bool false)], args := [d] }
  | _ => none }
def FnUnsignedWrongFalsely : Prop := fnUnsignedRow.holds Try.pinned (OpenSpec.ofChange fnUnsignedWrong)

/-- 'laws.FnUnsignedNext': WHATEVER THE INPUT: true; the input reads as it did. -/
def fnUnsignedNextSpec : ChangeSpec := { name := "fnUnsignedNext", fn := fun _ => fun
  | [d] => { results := [.lit (.bool true)], args := [d] }
  | _ => none }
def fnUnsignedNextRow : OpenClaim := { program := "ytipkjmkcnkbbfaa", sum := "5f1b972c8939651cdce4e4bd92db76a25ca6851ee154c095b99d6ca4890dfdc7", func := "loop.example/cothreads/laws.FnUnsignedNext", spec := "fnUnsignedNext", apart := false }
def FnUnsignedNextSaid : Prop := fnUnsignedNextRow.holds Try.pinned (OpenSpec.ofChange fnUnsignedNextSpec)

/-- ITS FALSE NEIGHBOUR: 'it returns false'. Refute it at one input. -/
def fnUnsignedNextWrong : ChangeSpec := { name := "fnUnsignedNext", fn := fun _ => fun
  | [d] => { results := [.lit (.bool false)], args := [d] }
  | _ => none }
def FnUnsignedNextWrongFalsely : Prop := fnUnsignedNextRow.holds Try.pinned (OpenSpec.ofChange fnUnsignedNextWrong)

/-- 'laws.FnBitsCut': WHATEVER THE INPUT: true; the input reads as it did. -/
def fnBitsCutSpec : ChangeSpec := { name := "fnBitsCut", fn := fun _ => fun
  | [d] => { results := [.lit (.bool true)], args := [d] }
  | _ => none }
def fnBitsCutRow : OpenClaim := { program := "ytipkjmkcnkbbfaa", sum := "5f1b972c8939651cdce4e4bd92db76a25ca6851ee154c095b99d6ca4890dfdc7", func := "loop.example/cothreads/laws.FnBitsCut", spec := "fnBitsCut", apart := false }
def FnBitsCutSaid : Prop := fnBitsCutRow.holds Try.pinned (OpenSpec.ofChange fnBitsCutSpec)

/-- ITS FALSE NEIGHBOUR: 'it returns false'. Refute it at one input. -/
def fnBitsCutWrong : ChangeSpec := { name := "fnBitsCut", fn := fun _ => fun
  | [d] => { results := [.lit (.bool false)], args := [d] }
  | _ => none }
def FnBitsCutWrongFalsely : Prop := fnBitsCutRow.holds Try.pinned (OpenSpec.ofChange fnBitsCutWrong)

/-- 'laws.FnBitsNone': WHATEVER THE INPUT: true; the input reads as it did. -/
def fnBitsNoneSpec : ChangeSpec := { name := "fnBitsNone", fn := fun _ => fun
  | [d] => { results := [.lit (.bool true)], args := [d] }
  | _ => none }
def fnBitsNoneRow : OpenClaim := { program := "ytipkjmkcnkbbfaa", sum := "5f1b972c8939651cdce4e4bd92db76a25ca6851ee154c095b99d6ca4890dfdc7", func := "loop.example/cothreads/laws.FnBitsNone", spec := "fnBitsNone", apart := false }
def FnBitsNoneSaid : Prop := fnBitsNoneRow.holds Try.pinned (OpenSpec.ofChange fnBitsNoneSpec)

/-- ITS FALSE NEIGHBOUR: 'it returns false'. Refute it at one input. -/
def fnBitsNoneWrong : ChangeSpec := { name := "fnBitsNone", fn := fun _ => fun
  | [d] => { results := [.lit (.bool false)], args := [d] }
  | _ => none }
def FnBitsNoneWrongFalsely : Prop := fnBitsNoneRow.holds Try.pinned (OpenSpec.ofChange fnBitsNoneWrong)

/-- 'laws.FnBitsJoin': WHATEVER THE INPUT: true; the input reads as it did. -/
def fnBitsJoinSpec : ChangeSpec := { name := "fnBitsJoin", fn := fun _ => fun
  | [d1, d2] => { results := [.lit (.bool true)], args := [d1, d2] }
  | _ => none }
def fnBitsJoinRow : OpenClaim := { program := "ytipkjmkcnkbbfaa", sum := "5f1b972c8939651cdce4e4bd92db76a25ca6851ee154c095b99d6ca4890dfdc7", func := "loop.example/cothreads/laws.FnBitsJoin", spec := "fnBitsJoin", apart := false }
def FnBitsJoinSaid : Prop := fnBitsJoinRow.holds Try.pinned (OpenSpec.ofChange fnBitsJoinSpec)

/-- ITS FALSE NEIGHBOUR: 'it returns false'. Refute it at one input. -/
def fnBitsJoinWrong : ChangeSpec := { name := "fnBitsJoin", fn := fun _ => fun
  | [d1, d2] => { results := [.lit (.bool false)], args := [d1, d2] }
  | _ => none }
def FnBitsJoinWrongFalsely : Prop := fnBitsJoinRow.holds Try.pinned (OpenSpec.ofChange fnBitsJoinWrong)

/-- 'laws.FnBitsOne': WHATEVER THE INPUT: true; the input reads as it did. -/
def fnBitsOneSpec : ChangeSpec := { name := "fnBitsOne", fn := fun _ => fun
  | [d] => { results := [.lit (.bool true)], args := [d] }
  | _ => none }
def fnBitsOneRow : OpenClaim := { program := "ytipkjmkcnkbbfaa", sum := "5f1b972c8939651cdce4e4bd92db76a25ca6851ee154c095b99d6ca4890dfdc7", func := "loop.example/cothreads/laws.FnBitsOne", spec := "fnBitsOne", apart := false }
def FnBitsOneSaid : Prop := fnBitsOneRow.holds Try.pinned (OpenSpec.ofChange fnBitsOneSpec)

/-- ITS FALSE NEIGHBOUR: 'it returns false'. Refute it at one input. -/
def fnBitsOneWrong : ChangeSpec := { name := "fnBitsOne", fn := fun _ => fun
  | [d] => { results := [.lit (.bool false)], args := [d] }
  | _ => none }
def FnBitsOneWrongFalsely : Prop := fnBitsOneRow.holds Try.pinned (OpenSpec.ofChange fnBitsOneWrong)

/-- 'laws.FnSignBit': WHATEVER THE INPUT: true; the input reads as it did. -/
def fnSignBitSpec : ChangeSpec := { name := "fnSignBit", fn := fun _ => fun
  | [d] => { results := [.lit (.bool true)], args := [d] }
  | _ => none }
def fnSignBitRow : OpenClaim := { program := "ytipkjmkcnkbbfaa", sum := "5f1b972c8939651cdce4e4bd92db76a25ca6851ee154c095b99d6ca4890dfdc7", func := "loop.example/cothreads/laws.FnSignBit", spec := "fnSignBit", apart := false }
def FnSignBitSaid : Prop := fnSignBitRow.holds Try.pinned (OpenSpec.ofChange fnSignBitSpec)

/-- ITS FALSE NEIGHBOUR: 'it returns false'. Refute it at one input. -/
def fnSignBitWrong : ChangeSpec := { name := "fnSignBit", fn := fun _ => fun
  | [d] => { results := [.lit (.bool false)], args := [d] }
  | _ => none }
def FnSignBitWrongFalsely : Prop := fnSignBitRow.holds Try.pinned (OpenSpec.ofChange fnSignBitWrong)

/-- 'laws.FnSign': WHATEVER THE INPUT: true; the input reads as it did. -/
def fnSignSpec : ChangeSpec := { name := "fnSign", fn := fun _ => fun
  | [d] => { results := [.lit (.bool true)], args := [d] }
  | _ => none }
def fnSignRow : OpenClaim := { program := "ytipkjmkcnkbbfaa", sum := "5f1b972c8939651cdce4e4bd92db76a25ca6851ee154c095b99d6ca4890dfdc7", func := "loop.example/cothreads/laws.FnSign", spec := "fnSign", apart := false }
def FnSignSaid : Prop := fnSignRow.holds Try.pinned (OpenSpec.ofChange fnSignSpec)

/-- ITS FALSE NEIGHBOUR: 'it returns false'. Refute it at one input. -/
def fnSignWrong : ChangeSpec := { name := "fnSign", fn := fun _ => fun
  | [d] => { results := [.lit (.bool false)], args := [d] }
  | _ => none }
def FnSignWrongFalsely : Prop := fnSignRow.holds Try.pinned (OpenSpec.ofChange fnSignWrong)

/- THE SECOND FORM. 'bulk': how many values and letters a reading holds, each counted each time it is reached (what is shared counts as often as it is met; a slice's spare places count too). A statement '..UptoSaid' is the law's where the arguments, and the package variables that the reading takes, are together of bulk at most 1048576: NARROWER than '..Said'. Prove '..Said' where nothing that the law and all that it calls make is longer than what came in: it says more and counts as full. Else prove '..UptoSaid'. A law counts once. -/
mutual
def uptoBulk {H : Type} : DataW H → Nat
  | .lit (.string bytes) => bytes.length + 1
  | .lit _ => 1
  | .nil => 1
  | .ptr d => uptoBulk d + 1
  | .slice elems spare => uptoBulkAll elems + uptoBulkAll spare + 1
  | .agg parts => uptoBulkAll parts + 1
  | .iface _ d => uptoBulk d + 1
  | .map entries => uptoBulkEntries entries + 1
  | .held _ => 1
def uptoBulkAll {H : Type} : List (DataW H) → Nat
  | [] => 0
  | d :: r => uptoBulk d + uptoBulkAll r
def uptoBulkEntries {H : Type} : List (Lit × DataW H) → Nat
  | [] => 0
  | x :: r => uptoBulkEntry x + uptoBulkEntries r
def uptoBulkEntry {H : Type} : Lit × DataW H → Nat
  | (.string bytes, d) => bytes.length + uptoBulk d + 1
  | (_, d) => uptoBulk d + 1
 end
def uptoSmall : (H : Type) → List (DataW H) → Bool := fun _ ds => decide (uptoBulkAll ds ≤ 1048576)
def OpenSpec.upto (s : _root_.Go.ChangeSpec) : _root_.Go.OpenSpec := { _root_.Go.OpenSpec.ofChange s with cond := some uptoSmall }

/-- 'laws.FnUnsigned', WHERE WHAT IT READS IS OF BULK AT MOST 1048576: true; the input reads as it did. -/
def fnUnsignedUptoRow : OpenClaim := { program := "ytipkjmkcnkbbfaa", sum := "5f1b972c8939651cdce4e4bd92db76a25ca6851ee154c095b99d6ca4890dfdc7", func := "loop.example/cothreads/laws.FnUnsigned", spec := "fnUnsigned", apart := false, narrowed := true }
def FnUnsignedUptoSaid : Prop := fnUnsignedUptoRow.holds Try.pinned (OpenSpec.upto fnUnsignedSpec)

/-- 'laws.FnUnsignedNext', WHERE WHAT IT READS IS OF BULK AT MOST 1048576: true; the input reads as it did. -/
def fnUnsignedNextUptoRow : OpenClaim := { program := "ytipkjmkcnkbbfaa", sum := "5f1b972c8939651cdce4e4bd92db76a25ca6851ee154c095b99d6ca4890dfdc7", func := "loop.example/cothreads/laws.FnUnsignedNext", spec := "fnUnsignedNext", apart := false, narrowed := true }
def FnUnsignedNextUptoSaid : Prop := fnUnsignedNextUptoRow.holds Try.pinned (OpenSpec.upto fnUnsignedNextSpec)

/-- 'laws.FnBitsCut', WHERE WHAT IT READS IS OF BULK AT MOST 1048576: true; the input reads as it did. -/
def fnBitsCutUptoRow : OpenClaim := { program := "ytipkjmkcnkbbfaa", sum := "5f1b972c8939651cdce4e4bd92db76a25ca6851ee154c095b99d6ca4890dfdc7", func := "loop.example/cothreads/laws.FnBitsCut", spec := "fnBitsCut", apart := false, narrowed := true }
def FnBitsCutUptoSaid : Prop := fnBitsCutUptoRow.holds Try.pinned (OpenSpec.upto fnBitsCutSpec)

/-- 'laws.FnBitsNone', WHERE WHAT IT READS IS OF BULK AT MOST 1048576: true; the input reads as it did. -/
def fnBitsNoneUptoRow : OpenClaim := { program := "ytipkjmkcnkbbfaa", sum := "5f1b972c8939651cdce4e4bd92db76a25ca6851ee154c095b99d6ca4890dfdc7", func := "loop.example/cothreads/laws.FnBitsNone", spec := "fnBitsNone", apart := false, narrowed := true }
def FnBitsNoneUptoSaid : Prop := fnBitsNoneUptoRow.holds Try.pinned (OpenSpec.upto fnBitsNoneSpec)

/-- 'laws.FnBitsJoin', WHERE WHAT IT READS IS OF BULK AT MOST 1048576: true; the input reads as it did. -/
def fnBitsJoinUptoRow : OpenClaim := { program := "ytipkjmkcnkbbfaa", sum := "5f1b972c8939651cdce4e4bd92db76a25ca6851ee154c095b99d6ca4890dfdc7", func := "loop.example/cothreads/laws.FnBitsJoin", spec := "fnBitsJoin", apart := false, narrowed := true }
def FnBitsJoinUptoSaid : Prop := fnBitsJoinUptoRow.holds Try.pinned (OpenSpec.upto fnBitsJoinSpec)

/-- 'laws.FnBitsOne', WHERE WHAT IT READS IS OF BULK AT MOST 1048576: true; the input reads as it did. -/
def fnBitsOneUptoRow : OpenClaim := { program := "ytipkjmkcnkbbfaa", sum := "5f1b972c8939651cdce4e4bd92db76a25ca6851ee154c095b99d6ca4890dfdc7", func := "loop.example/cothreads/laws.FnBitsOne", spec := "fnBitsOne", apart := false, narrowed := true }
def FnBitsOneUptoSaid : Prop := fnBitsOneUptoRow.holds Try.pinned (OpenSpec.upto fnBitsOneSpec)

/-- 'laws.FnSignBit', WHERE WHAT IT READS IS OF BULK AT MOST 1048576: true; the input reads as it did. -/
def fnSignBitUptoRow : OpenClaim := { program := "ytipkjmkcnkbbfaa", sum := "5f1b972c8939651cdce4e4bd92db76a25ca6851ee154c095b99d6ca4890dfdc7", func := "loop.example/cothreads/laws.FnSignBit", spec := "fnSignBit", apart := false, narrowed := true }
def FnSignBitUptoSaid : Prop := fnSignBitUptoRow.holds Try.pinned (OpenSpec.upto fnSignBitSpec)

/-- 'laws.FnSign', WHERE WHAT IT READS IS OF BULK AT MOST 1048576: true; the input reads as it did. -/
def fnSignUptoRow : OpenClaim := { program := "ytipkjmkcnkbbfaa", sum := "5f1b972c8939651cdce4e4bd92db76a25ca6851ee154c095b99d6ca4890dfdc7", func := "loop.example/cothreads/laws.FnSign", spec := "fnSign", apart := false, narrowed := true }
def FnSignUptoSaid : Prop := fnSignUptoRow.holds Try.pinned (OpenSpec.upto fnSignSpec)

end Rows
end Go.Proofs.Ytipkjmkcnkbbfaa
