/-
  No cell of these rows narrows 'for every input' (looked for: loops, veiled, ifaces, maps, wideKeys, modest, calm, conditions, laid).
  DERIVED. THE GIVEN ROWS OF THIS SEAT. 14 by the template 'for every input the law returns true; each argument reads behind the call as it read before'; 0 by the template 'total and deterministic' (their statements: YtpkleanhcnlkjaaTotals.lean).
  GIVEN WITH THE SEED: the statements are not yours to turn. If you find one false, say at which input.
  Laid BY PROGRAM, IN A SANDBOX (cutbox-rows.mjs): the forced cells as the released guide's own fill.sh prints them over the translation 8fc12318bbe8af07… (all of the seat's roots in one cut). By AI agents, Wed Nov 11 2026. No macro, syntax, notation, axiom, sorry.
-/
import Derived.Test.YtpkleanhcnlkjaaChecked
import GoSem.Claim
import GoSem.ClaimJoined
import GoSem.ClaimMapViews
import Derived.JoinedTies
import Derived.KernelRfl
namespace Go.Proofs.Ytpkleanhcnlkjaa
/- THE CELL 'sum', in the pinned program and in every row, IS THE sha256 OF THE DUMP (.gsa) THAT YtpkleanhcnlkjaaProg.lean LOADS. Nothing in Lean hashes anything: it is a label: what it is worth is what the hold of that sum in a sandbox is worth. -/
noncomputable def Try.pinned : Pinned := { name := "ytpkleanhcnlkjaa", sum := "8fc12318bbe8af072f905dab72626575bb270bb929b8360a94c3e0199e16e5cd", checked := Try.checked }
namespace Rows
def none {H : Type} : Left H := { results := [], args := [] }

/-- 'laws.FnExactApply': WHATEVER THE INPUT: true; the input reads as it did. -/
def fnExactApplySpec : ChangeSpec := { name := "fnExactApply", fn := fun _ => fun
  | [d1, d2, d3] => { results := [.lit (.bool true)], args := [d1, d2, d3] }
  | _ => none }
def fnExactApplyRow : OpenClaim := { program := "ytpkleanhcnlkjaa", sum := "8fc12318bbe8af072f905dab72626575bb270bb929b8360a94c3e0199e16e5cd", func := "loop.example/cothreads/laws.FnExactApply", spec := "fnExactApply", apart := false }
def FnExactApplySaid : Prop := fnExactApplyRow.holds Try.pinned (OpenSpec.ofChange fnExactApplySpec)

/-- ITS FALSE NEIGHBOUR: 'it returns false'. Refute it at one input. -/
def fnExactApplyWrong : ChangeSpec := { name := "fnExactApply", fn := fun _ => fun
  | [d1, d2, d3] => { results := [.lit (.bool false)], args := [d1, d2, d3] }
  | _ => none }
def FnExactApplyWrongFalsely : Prop := fnExactApplyRow.holds Try.pinned (OpenSpec.ofChange fnExactApplyWrong)

/-- 'laws.FnApplyAround': WHATEVER THE INPUT: true; the input reads as it did. -/
def fnApplyAroundSpec : ChangeSpec := { name := "fnApplyAround", fn := fun _ => fun
  | [d] => { results := [.lit (.bool true)], args := [d] }
  | _ => none }
def fnApplyAroundRow : OpenClaim := { program := "ytpkleanhcnlkjaa", sum := "8fc12318bbe8af072f905dab72626575bb270bb929b8360a94c3e0199e16e5cd", func := "loop.example/cothreads/laws.FnApplyAround", spec := "fnApplyAround", apart := false }
def FnApplyAroundSaid : Prop := fnApplyAroundRow.holds Try.pinned (OpenSpec.ofChange fnApplyAroundSpec)

/-- ITS FALSE NEIGHBOUR: 'it returns false'. Refute it at one input. -/
def fnApplyAroundWrong : ChangeSpec := { name := "fnApplyAround", fn := fun _ => fun
  | [d] => { results := [.lit (.bool false)], args := [d] }
  | _ => none }
def FnApplyAroundWrongFalsely : Prop := fnApplyAroundRow.holds Try.pinned (OpenSpec.ofChange fnApplyAroundWrong)

/-- 'laws.FnApplyBits': WHATEVER THE INPUT: true; the input reads as it did. -/
def fnApplyBitsSpec : ChangeSpec := { name := "fnApplyBits", fn := fun _ => fun
  | [d] => { results := [.lit (.bool true)], args := [d] }
  | _ => none }
def fnApplyBitsRow : OpenClaim := { program := "ytpkleanhcnlkjaa", sum := "8fc12318bbe8af072f905dab72626575bb270bb929b8360a94c3e0199e16e5cd", func := "loop.example/cothreads/laws.FnApplyBits", spec := "fnApplyBits", apart := false }
def FnApplyBitsSaid : Prop := fnApplyBitsRow.holds Try.pinned (OpenSpec.ofChange fnApplyBitsSpec)

/-- ITS FALSE NEIGHBOUR: 'it returns false'. Refute it at one input. -/
def fnApplyBitsWrong : ChangeSpec := { name := "fnApplyBits", fn := fun _ => fun
  | [d] => { results := [.lit (.bool false)], args := [d] }
  | _ => none }
def FnApplyBitsWrongFalsely : Prop := fnApplyBitsRow.holds Try.pinned (OpenSpec.ofChange fnApplyBitsWrong)

/-- 'laws.FnApplyDivide': WHATEVER THE INPUT: true; the input reads as it did. -/
def fnApplyDivideSpec : ChangeSpec := { name := "fnApplyDivide", fn := fun _ => fun
  | [d] => { results := [.lit (.bool true)], args := [d] }
  | _ => none }
def fnApplyDivideRow : OpenClaim := { program := "ytpkleanhcnlkjaa", sum := "8fc12318bbe8af072f905dab72626575bb270bb929b8360a94c3e0199e16e5cd", func := "loop.example/cothreads/laws.FnApplyDivide", spec := "fnApplyDivide", apart := false }
def FnApplyDivideSaid : Prop := fnApplyDivideRow.holds Try.pinned (OpenSpec.ofChange fnApplyDivideSpec)

/-- ITS FALSE NEIGHBOUR: 'it returns false'. Refute it at one input. -/
def fnApplyDivideWrong : ChangeSpec := { name := "fnApplyDivide", fn := fun _ => fun
  | [d] => { results := [.lit (.bool false)], args := [d] }
  | _ => none }
def FnApplyDivideWrongFalsely : Prop := fnApplyDivideRow.holds Try.pinned (OpenSpec.ofChange fnApplyDivideWrong)

/-- 'laws.FnApplyLess': WHATEVER THE INPUT: true; the input reads as it did. -/
def fnApplyLessSpec : ChangeSpec := { name := "fnApplyLess", fn := fun _ => fun
  | [d] => { results := [.lit (.bool true)], args := [d] }
  | _ => none }
def fnApplyLessRow : OpenClaim := { program := "ytpkleanhcnlkjaa", sum := "8fc12318bbe8af072f905dab72626575bb270bb929b8360a94c3e0199e16e5cd", func := "loop.example/cothreads/laws.FnApplyLess", spec := "fnApplyLess", apart := false }
def FnApplyLessSaid : Prop := fnApplyLessRow.holds Try.pinned (OpenSpec.ofChange fnApplyLessSpec)

/-- ITS FALSE NEIGHBOUR: 'it returns false'. Refute it at one input. -/
def fnApplyLessWrong : ChangeSpec := { name := "fnApplyLess", fn := fun _ => fun
  | [d] => { results := [.lit (.bool false)], args := [d] }
  | _ => none }
def FnApplyLessWrongFalsely : Prop := fnApplyLessRow.holds Try.pinned (OpenSpec.ofChange fnApplyLessWrong)

/-- 'laws.FnApplyNone': WHATEVER THE INPUT: true; the input reads as it did. -/
def fnApplyNoneSpec : ChangeSpec := { name := "fnApplyNone", fn := fun _ => fun
  | [d] => { results := [.lit (.bool true)], args := [d] }
  | _ => none }
def fnApplyNoneRow : OpenClaim := { program := "ytpkleanhcnlkjaa", sum := "8fc12318bbe8af072f905dab72626575bb270bb929b8360a94c3e0199e16e5cd", func := "loop.example/cothreads/laws.FnApplyNone", spec := "fnApplyNone", apart := false }
def FnApplyNoneSaid : Prop := fnApplyNoneRow.holds Try.pinned (OpenSpec.ofChange fnApplyNoneSpec)

/-- ITS FALSE NEIGHBOUR: 'it returns false'. Refute it at one input. -/
def fnApplyNoneWrong : ChangeSpec := { name := "fnApplyNone", fn := fun _ => fun
  | [d] => { results := [.lit (.bool false)], args := [d] }
  | _ => none }
def FnApplyNoneWrongFalsely : Prop := fnApplyNoneRow.holds Try.pinned (OpenSpec.ofChange fnApplyNoneWrong)

/-- 'laws.FnApplyOver': WHATEVER THE INPUT: true; the input reads as it did. -/
def fnApplyOverSpec : ChangeSpec := { name := "fnApplyOver", fn := fun _ => fun
  | [d] => { results := [.lit (.bool true)], args := [d] }
  | _ => none }
def fnApplyOverRow : OpenClaim := { program := "ytpkleanhcnlkjaa", sum := "8fc12318bbe8af072f905dab72626575bb270bb929b8360a94c3e0199e16e5cd", func := "loop.example/cothreads/laws.FnApplyOver", spec := "fnApplyOver", apart := false }
def FnApplyOverSaid : Prop := fnApplyOverRow.holds Try.pinned (OpenSpec.ofChange fnApplyOverSpec)

/-- ITS FALSE NEIGHBOUR: 'it returns false'. Refute it at one input. -/
def fnApplyOverWrong : ChangeSpec := { name := "fnApplyOver", fn := fun _ => fun
  | [d] => { results := [.lit (.bool false)], args := [d] }
  | _ => none }
def FnApplyOverWrongFalsely : Prop := fnApplyOverRow.holds Try.pinned (OpenSpec.ofChange fnApplyOverWrong)

/-- 'laws.FnApplyRest': WHATEVER THE INPUT: true; the input reads as it did. -/
def fnApplyRestSpec : ChangeSpec := { name := "fnApplyRest", fn := fun _ => fun
  | [d] => { results := [.lit (.bool true)], args := [d] }
  | _ => none }
def fnApplyRestRow : OpenClaim := { program := "ytpkleanhcnlkjaa", sum := "8fc12318bbe8af072f905dab72626575bb270bb929b8360a94c3e0199e16e5cd", func := "loop.example/cothreads/laws.FnApplyRest", spec := "fnApplyRest", apart := false }
def FnApplyRestSaid : Prop := fnApplyRestRow.holds Try.pinned (OpenSpec.ofChange fnApplyRestSpec)

/-- ITS FALSE NEIGHBOUR: 'it returns false'. Refute it at one input. -/
def fnApplyRestWrong : ChangeSpec := { name := "fnApplyRest", fn := fun _ => fun
  | [d] => { results := [.lit (.bool false)], args := [d] }
  | _ => none }
def FnApplyRestWrongFalsely : Prop := fnApplyRestRow.holds Try.pinned (OpenSpec.ofChange fnApplyRestWrong)

/-- 'laws.FnApplySwap': WHATEVER THE INPUT: true; the input reads as it did. -/
def fnApplySwapSpec : ChangeSpec := { name := "fnApplySwap", fn := fun _ => fun
  | [d] => { results := [.lit (.bool true)], args := [d] }
  | _ => none }
def fnApplySwapRow : OpenClaim := { program := "ytpkleanhcnlkjaa", sum := "8fc12318bbe8af072f905dab72626575bb270bb929b8360a94c3e0199e16e5cd", func := "loop.example/cothreads/laws.FnApplySwap", spec := "fnApplySwap", apart := false }
def FnApplySwapSaid : Prop := fnApplySwapRow.holds Try.pinned (OpenSpec.ofChange fnApplySwapSpec)

/-- ITS FALSE NEIGHBOUR: 'it returns false'. Refute it at one input. -/
def fnApplySwapWrong : ChangeSpec := { name := "fnApplySwap", fn := fun _ => fun
  | [d] => { results := [.lit (.bool false)], args := [d] }
  | _ => none }
def FnApplySwapWrongFalsely : Prop := fnApplySwapRow.holds Try.pinned (OpenSpec.ofChange fnApplySwapWrong)

/-- 'laws.FnApplyThree': WHATEVER THE INPUT: true; the input reads as it did. -/
def fnApplyThreeSpec : ChangeSpec := { name := "fnApplyThree", fn := fun _ => fun
  | [d] => { results := [.lit (.bool true)], args := [d] }
  | _ => none }
def fnApplyThreeRow : OpenClaim := { program := "ytpkleanhcnlkjaa", sum := "8fc12318bbe8af072f905dab72626575bb270bb929b8360a94c3e0199e16e5cd", func := "loop.example/cothreads/laws.FnApplyThree", spec := "fnApplyThree", apart := false }
def FnApplyThreeSaid : Prop := fnApplyThreeRow.holds Try.pinned (OpenSpec.ofChange fnApplyThreeSpec)

/-- ITS FALSE NEIGHBOUR: 'it returns false'. Refute it at one input. -/
def fnApplyThreeWrong : ChangeSpec := { name := "fnApplyThree", fn := fun _ => fun
  | [d] => { results := [.lit (.bool false)], args := [d] }
  | _ => none }
def FnApplyThreeWrongFalsely : Prop := fnApplyThreeRow.holds Try.pinned (OpenSpec.ofChange fnApplyThreeWrong)

/-- 'laws.FnApplyWord': WHATEVER THE INPUT: true; the input reads as it did. -/
def fnApplyWordSpec : ChangeSpec := { name := "fnApplyWord", fn := fun _ => fun
  | [d] => { results := [.lit (.bool true)], args := [d] }
  | _ => none }
def fnApplyWordRow : OpenClaim := { program := "ytpkleanhcnlkjaa", sum := "8fc12318bbe8af072f905dab72626575bb270bb929b8360a94c3e0199e16e5cd", func := "loop.example/cothreads/laws.FnApplyWord", spec := "fnApplyWord", apart := false }
def FnApplyWordSaid : Prop := fnApplyWordRow.holds Try.pinned (OpenSpec.ofChange fnApplyWordSpec)

/-- ITS FALSE NEIGHBOUR: 'it returns false'. Refute it at one input. -/
def fnApplyWordWrong : ChangeSpec := { name := "fnApplyWord", fn := fun _ => fun
  | [d] => { results := [.lit (.bool false)], args := [d] }
  | _ => none }
def FnApplyWordWrongFalsely : Prop := fnApplyWordRow.holds Try.pinned (OpenSpec.ofChange fnApplyWordWrong)

/-- 'laws.FnApplyZero': WHATEVER THE INPUT: true; the input reads as it did. -/
def fnApplyZeroSpec : ChangeSpec := { name := "fnApplyZero", fn := fun _ => fun
  | [d] => { results := [.lit (.bool true)], args := [d] }
  | _ => none }
def fnApplyZeroRow : OpenClaim := { program := "ytpkleanhcnlkjaa", sum := "8fc12318bbe8af072f905dab72626575bb270bb929b8360a94c3e0199e16e5cd", func := "loop.example/cothreads/laws.FnApplyZero", spec := "fnApplyZero", apart := false }
def FnApplyZeroSaid : Prop := fnApplyZeroRow.holds Try.pinned (OpenSpec.ofChange fnApplyZeroSpec)

/-- ITS FALSE NEIGHBOUR: 'it returns false'. Refute it at one input. -/
def fnApplyZeroWrong : ChangeSpec := { name := "fnApplyZero", fn := fun _ => fun
  | [d] => { results := [.lit (.bool false)], args := [d] }
  | _ => none }
def FnApplyZeroWrongFalsely : Prop := fnApplyZeroRow.holds Try.pinned (OpenSpec.ofChange fnApplyZeroWrong)

/-- 'laws.FnApplyRight': WHATEVER THE INPUT: true; the input reads as it did. -/
def fnApplyRightSpec : ChangeSpec := { name := "fnApplyRight", fn := fun _ => fun
  | [d] => { results := [.lit (.bool true)], args := [d] }
  | _ => none }
def fnApplyRightRow : OpenClaim := { program := "ytpkleanhcnlkjaa", sum := "8fc12318bbe8af072f905dab72626575bb270bb929b8360a94c3e0199e16e5cd", func := "loop.example/cothreads/laws.FnApplyRight", spec := "fnApplyRight", apart := false }
def FnApplyRightSaid : Prop := fnApplyRightRow.holds Try.pinned (OpenSpec.ofChange fnApplyRightSpec)

/-- ITS FALSE NEIGHBOUR: 'it returns false'. Refute it at one input. -/
def fnApplyRightWrong : ChangeSpec := { name := "fnApplyRight", fn := fun _ => fun
  | [d] => { results := [.lit (.bool false)], args := [d] }
  | _ => none }
def FnApplyRightWrongFalsely : Prop := fnApplyRightRow.holds Try.pinned (OpenSpec.ofChange fnApplyRightWrong)

/-- 'laws.FnApplyShift': WHATEVER THE INPUT: true; the input reads as it did. -/
def fnApplyShiftSpec : ChangeSpec := { name := "fnApplyShift", fn := fun _ => fun
  | [d] => { results := [.lit (.bool true)], args := [d] }
  | _ => none }
def fnApplyShiftRow : OpenClaim := { program := "ytpkleanhcnlkjaa", sum := "8fc12318bbe8af072f905dab72626575bb270bb929b8360a94c3e0199e16e5cd", func := "loop.example/cothreads/laws.FnApplyShift", spec := "fnApplyShift", apart := false }
def FnApplyShiftSaid : Prop := fnApplyShiftRow.holds Try.pinned (OpenSpec.ofChange fnApplyShiftSpec)

/-- ITS FALSE NEIGHBOUR: 'it returns false'. Refute it at one input. -/
def fnApplyShiftWrong : ChangeSpec := { name := "fnApplyShift", fn := fun _ => fun
  | [d] => { results := [.lit (.bool false)], args := [d] }
  | _ => none }
def FnApplyShiftWrongFalsely : Prop := fnApplyShiftRow.holds Try.pinned (OpenSpec.ofChange fnApplyShiftWrong)

/- THE SECOND FORM. 'bulk': how many values and letters a reading holds, each counted each time it is reached (what is shared counts as often as it is met; a slice's spare places count too). A statement '..UptoSaid' is the law's where the arguments, and the package variables that the reading takes, are together of bulk at most 1048576: NARROWER than '..Said'. Prove '..Said' where nothing that the law and all that it calls make is longer than what came in: it says more and counts as full. Else prove '..UptoSaid'. A law counts once. -/
mutual
def uptoBulk {H : Type} : DataW H → Nat
  | .lit (.string bytes) => bytes.length + 1
  | .lit _ => 1
  | .nil => 1
  | .ptr d => uptoBulk d + 1
  | .slice elems spare => uptoBulkAll elems + uptoBulkAll spare + 1
  | .agg parts => uptoBulkAll parts + 1
  | .iface _ d => uptoBulk d + 1
  | .map entries => uptoBulkEntries entries + 1
  | .held _ => 1
def uptoBulkAll {H : Type} : List (DataW H) → Nat
  | [] => 0
  | d :: r => uptoBulk d + uptoBulkAll r
def uptoBulkEntries {H : Type} : List (Lit × DataW H) → Nat
  | [] => 0
  | x :: r => uptoBulkEntry x + uptoBulkEntries r
def uptoBulkEntry {H : Type} : Lit × DataW H → Nat
  | (.string bytes, d) => bytes.length + uptoBulk d + 1
  | (_, d) => uptoBulk d + 1
 end
def uptoSmall : (H : Type) → List (DataW H) → Bool := fun _ ds => decide (uptoBulkAll ds ≤ 1048576)
def OpenSpec.upto (s : _root_.Go.ChangeSpec) : _root_.Go.OpenSpec := { _root_.Go.OpenSpec.ofChange s with cond := some uptoSmall }

/-- 'laws.FnExactApply', WHERE WHAT IT READS IS OF BULK AT MOST 1048576: true; the input reads as it did. -/
def fnExactApplyUptoRow : OpenClaim := { program := "ytpkleanhcnlkjaa", sum := "8fc12318bbe8af072f905dab72626575bb270bb929b8360a94c3e0199e16e5cd", func := "loop.example/cothreads/laws.FnExactApply", spec := "fnExactApply", apart := false, narrowed := true }
def FnExactApplyUptoSaid : Prop := fnExactApplyUptoRow.holds Try.pinned (OpenSpec.upto fnExactApplySpec)

/-- 'laws.FnApplyAround', WHERE WHAT IT READS IS OF BULK AT MOST 1048576: true; the input reads as it did. -/
def fnApplyAroundUptoRow : OpenClaim := { program := "ytpkleanhcnlkjaa", sum := "8fc12318bbe8af072f905dab72626575bb270bb929b8360a94c3e0199e16e5cd", func := "loop.example/cothreads/laws.FnApplyAround", spec := "fnApplyAround", apart := false, narrowed := true }
def FnApplyAroundUptoSaid : Prop := fnApplyAroundUptoRow.holds Try.pinned (OpenSpec.upto fnApplyAroundSpec)

/-- 'laws.FnApplyBits', WHERE WHAT IT READS IS OF BULK AT MOST 1048576: true; the input reads as it did. -/
def fnApplyBitsUptoRow : OpenClaim := { program := "ytpkleanhcnlkjaa", sum := "8fc12318bbe8af072f905dab72626575bb270bb929b8360a94c3e0199e16e5cd", func := "loop.example/cothreads/laws.FnApplyBits", spec := "fnApplyBits", apart := false, narrowed := true }
def FnApplyBitsUptoSaid : Prop := fnApplyBitsUptoRow.holds Try.pinned (OpenSpec.upto fnApplyBitsSpec)

/-- 'laws.FnApplyDivide', WHERE WHAT IT READS IS OF BULK AT MOST 1048576: true; the input reads as it did. -/
def fnApplyDivideUptoRow : OpenClaim := { program := "ytpkleanhcnlkjaa", sum := "8fc12318bbe8af072f905dab72626575bb270bb929b8360a94c3e0199e16e5cd", func := "loop.example/cothreads/laws.FnApplyDivide", spec := "fnApplyDivide", apart := false, narrowed := true }
def FnApplyDivideUptoSaid : Prop := fnApplyDivideUptoRow.holds Try.pinned (OpenSpec.upto fnApplyDivideSpec)

/-- 'laws.FnApplyLess', WHERE WHAT IT READS IS OF BULK AT MOST 1048576: true; the input reads as it did. -/
def fnApplyLessUptoRow : OpenClaim := { program := "ytpkleanhcnlkjaa", sum := "8fc12318bbe8af072f905dab72626575bb270bb929b8360a94c3e0199e16e5cd", func := "loop.example/cothreads/laws.FnApplyLess", spec := "fnApplyLess", apart := false, narrowed := true }
def FnApplyLessUptoSaid : Prop := fnApplyLessUptoRow.holds Try.pinned (OpenSpec.upto fnApplyLessSpec)

/-- 'laws.FnApplyNone', WHERE WHAT IT READS IS OF BULK AT MOST 1048576: true; the input reads as it did. -/
def fnApplyNoneUptoRow : OpenClaim := { program := "ytpkleanhcnlkjaa", sum := "8fc12318bbe8af072f905dab72626575bb270bb929b8360a94c3e0199e16e5cd", func := "loop.example/cothreads/laws.FnApplyNone", spec := "fnApplyNone", apart := false, narrowed := true }
def FnApplyNoneUptoSaid : Prop := fnApplyNoneUptoRow.holds Try.pinned (OpenSpec.upto fnApplyNoneSpec)

/-- 'laws.FnApplyOver', WHERE WHAT IT READS IS OF BULK AT MOST 1048576: true; the input reads as it did. -/
def fnApplyOverUptoRow : OpenClaim := { program := "ytpkleanhcnlkjaa", sum := "8fc12318bbe8af072f905dab72626575bb270bb929b8360a94c3e0199e16e5cd", func := "loop.example/cothreads/laws.FnApplyOver", spec := "fnApplyOver", apart := false, narrowed := true }
def FnApplyOverUptoSaid : Prop := fnApplyOverUptoRow.holds Try.pinned (OpenSpec.upto fnApplyOverSpec)

/-- 'laws.FnApplyRest', WHERE WHAT IT READS IS OF BULK AT MOST 1048576: true; the input reads as it did. -/
def fnApplyRestUptoRow : OpenClaim := { program := "ytpkleanhcnlkjaa", sum := "8fc12318bbe8af072f905dab72626575bb270bb929b8360a94c3e0199e16e5cd", func := "loop.example/cothreads/laws.FnApplyRest", spec := "fnApplyRest", apart := false, narrowed := true }
def FnApplyRestUptoSaid : Prop := fnApplyRestUptoRow.holds Try.pinned (OpenSpec.upto fnApplyRestSpec)

/-- 'laws.FnApplySwap', WHERE WHAT IT READS IS OF BULK AT MOST 1048576: true; the input reads as it did. -/
def fnApplySwapUptoRow : OpenClaim := { program := "ytpkleanhcnlkjaa", sum := "8fc12318bbe8af072f905dab72626575bb270bb929b8360a94c3e0199e16e5cd", func := "loop.example/cothreads/laws.FnApplySwap", spec := "fnApplySwap", apart := false, narrowed := true }
def FnApplySwapUptoSaid : Prop := fnApplySwapUptoRow.holds Try.pinned (OpenSpec.upto fnApplySwapSpec)

/-- 'laws.FnApplyThree', WHERE WHAT IT READS IS OF BULK AT MOST 1048576: true; the input reads as it did. -/
def fnApplyThreeUptoRow : OpenClaim := { program := "ytpkleanhcnlkjaa", sum := "8fc12318bbe8af072f905dab72626575bb270bb929b8360a94c3e0199e16e5cd", func := "loop.example/cothreads/laws.FnApplyThree", spec := "fnApplyThree", apart := false, narrowed := true }
def FnApplyThreeUptoSaid : Prop := fnApplyThreeUptoRow.holds Try.pinned (OpenSpec.upto fnApplyThreeSpec)

/-- 'laws.FnApplyWord', WHERE WHAT IT READS IS OF BULK AT MOST 1048576: true; the input reads as it did. -/
def fnApplyWordUptoRow : OpenClaim := { program := "ytpkleanhcnlkjaa", sum := "8fc12318bbe8af072f905dab72626575bb270bb929b8360a94c3e0199e16e5cd", func := "loop.example/cothreads/laws.FnApplyWord", spec := "fnApplyWord", apart := false, narrowed := true }
def FnApplyWordUptoSaid : Prop := fnApplyWordUptoRow.holds Try.pinned (OpenSpec.upto fnApplyWordSpec)

/-- 'laws.FnApplyZero', WHERE WHAT IT READS IS OF BULK AT MOST 1048576: true; the input reads as it did. -/
def fnApplyZeroUptoRow : OpenClaim := { program := "ytpkleanhcnlkjaa", sum := "8fc12318bbe8af072f905dab72626575bb270bb929b8360a94c3e0199e16e5cd", func := "loop.example/cothreads/laws.FnApplyZero", spec := "fnApplyZero", apart := false, narrowed := true }
def FnApplyZeroUptoSaid : Prop := fnApplyZeroUptoRow.holds Try.pinned (OpenSpec.upto fnApplyZeroSpec)

/-- 'laws.FnApplyRight', WHERE WHAT IT READS IS OF BULK AT MOST 1048576: true; the input reads as it did. -/
def fnApplyRightUptoRow : OpenClaim := { program := "ytpkleanhcnlkjaa", sum := "8fc12318bbe8af072f905dab72626575bb270bb929b8360a94c3e0199e16e5cd", func := "loop.example/cothreads/laws.FnApplyRight", spec := "fnApplyRight", apart := false, narrowed := true }
def FnApplyRightUptoSaid : Prop := fnApplyRightUptoRow.holds Try.pinned (OpenSpec.upto fnApplyRightSpec)

/-- 'laws.FnApplyShift', WHERE WHAT IT READS IS OF BULK AT MOST 1048576: true; the input reads as it did. -/
def fnApplyShiftUptoRow : OpenClaim := { program := "ytpkleanhcnlkjaa", sum := "8fc12318bbe8af072f905dab72626575bb270bb929b8360a94c3e0199e16e5cd", func := "loop.example/cothreads/laws.FnApplyShift", spec := "fnApplyShift", apart := false, narrowed := true }
def FnApplyShiftUptoSaid : Prop := fnApplyShiftUptoRow.holds Try.pinned (OpenSpec.upto fnApplyShiftSpec)

end Rows
end Go.Proofs.Ytpkleanhcnlkjaa
