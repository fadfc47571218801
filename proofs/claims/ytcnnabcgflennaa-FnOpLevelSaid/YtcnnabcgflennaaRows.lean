/-
  No cell of these rows narrows 'for every input' (looked for: loops, veiled, ifaces, maps, wideKeys, modest, calm, conditions, laid).
  DERIVED. THE GIVEN ROWS OF THIS SEAT. 12 by the template 'for every input the law returns true; each argument reads behind the call as it read before'; 0 by the template 'total and deterministic' (their statements: YtcnnabcgflennaaTotals.lean).
  GIVEN WITH THE SEED: the statements are not yours to turn. If you find one false, say at which input.
  Laid BY PROGRAM, IN A SANDBOX (cutbox-rows.mjs): the forced cells as the released guide's own fill.sh prints them over the translation 87e856e67c7459da… (all of the seat's roots in one cut). By AI agents, Wed Nov 11 2026. No macro, syntax, notation, axiom, sorry.
-/
import Derived.Test.YtcnnabcgflennaaChecked
import GoSem.Claim
import GoSem.ClaimJoined
import GoSem.ClaimMapViews
import Derived.JoinedTies
import Derived.KernelRfl
namespace Go.Proofs.Ytcnnabcgflennaa
/- THE CELL 'sum', in the pinned program and in every row, IS THE sha256 OF THE DUMP (.gsa) THAT YtcnnabcgflennaaProg.lean LOADS. Nothing in Lean hashes anything: it is a label: what it is worth is what the hold of that sum in a sandbox is worth. -/
noncomputable def Try.pinned : Pinned := { name := "ytcnnabcgflennaa", sum := "87e856e67c7459da307d34046e4d7514880cba700314f3d7bb3c7d0ad08e1e7b", checked := Try.checked }
namespace Rows
def none {H : Type} : Left H := { results := [], args := [] }

/-- 'laws.FnExactConstants': WHATEVER THE INPUT: true; the input reads as it did. -/
def fnExactConstantsSpec : ChangeSpec := { name := "fnExactConstants", fn := fun _ => fun
  | [] => { results := [.lit (.bool true)], args := [] }
  | _ => none }
def fnExactConstantsRow : OpenClaim := { program := "ytcnnabcgflennaa", sum := "87e856e67c7459da307d34046e4d7514880cba700314f3d7bb3c7d0ad08e1e7b", func := "loop.example/cothreads/laws.FnExactConstants", spec := "fnExactConstants", apart := false }
def FnExactConstantsSaid : Prop := fnExactConstantsRow.holds Try.pinned (OpenSpec.ofChange fnExactConstantsSpec)

/-- ITS FALSE NEIGHBOUR: 'it returns false'. Refute it at one input. -/
def fnExactConstantsWrong : ChangeSpec := { name := "fnExactConstants", fn := fun _ => fun
  | [] => { results := [.lit (.bool false)], args := [] }
  | _ => none }
def FnExactConstantsWrongFalsely : Prop := fnExactConstantsRow.holds Try.pinned (OpenSpec.ofChange fnExactConstantsWrong)

/-- 'laws.FnExactOpValid': WHATEVER THE INPUT: true; the input reads as it did. -/
def fnExactOpValidSpec : ChangeSpec := { name := "fnExactOpValid", fn := fun _ => fun
  | [d] => { results := [.lit (.bool true)], args := [d] }
  | _ => none }
def fnExactOpValidRow : OpenClaim := { program := "ytcnnabcgflennaa", sum := "87e856e67c7459da307d34046e4d7514880cba700314f3d7bb3c7d0ad08e1e7b", func := "loop.example/cothreads/laws.FnExactOpValid", spec := "fnExactOpValid", apart := false }
def FnExactOpValidSaid : Prop := fnExactOpValidRow.holds Try.pinned (OpenSpec.ofChange fnExactOpValidSpec)

/-- ITS FALSE NEIGHBOUR: 'it returns false'. Refute it at one input. -/
def fnExactOpValidWrong : ChangeSpec := { name := "fnExactOpValid", fn := fun _ => fun
  | [d] => { results := [.lit (.bool false)], args := [d] }
  | _ => none }
def FnExactOpValidWrongFalsely : Prop := fnExactOpValidRow.holds Try.pinned (OpenSpec.ofChange fnExactOpValidWrong)

/-- 'laws.FnExactWordValid': WHATEVER THE INPUT: true; the input reads as it did. -/
def fnExactWordValidSpec : ChangeSpec := { name := "fnExactWordValid", fn := fun _ => fun
  | [d] => { results := [.lit (.bool true)], args := [d] }
  | _ => none }
def fnExactWordValidRow : OpenClaim := { program := "ytcnnabcgflennaa", sum := "87e856e67c7459da307d34046e4d7514880cba700314f3d7bb3c7d0ad08e1e7b", func := "loop.example/cothreads/laws.FnExactWordValid", spec := "fnExactWordValid", apart := false }
def FnExactWordValidSaid : Prop := fnExactWordValidRow.holds Try.pinned (OpenSpec.ofChange fnExactWordValidSpec)

/-- ITS FALSE NEIGHBOUR: 'it returns false'. Refute it at one input. -/
def fnExactWordValidWrong : ChangeSpec := { name := "fnExactWordValid", fn := fun _ => fun
  | [d] => { results := [.lit (.bool false)], args := [d] }
  | _ => none }
def FnExactWordValidWrongFalsely : Prop := fnExactWordValidRow.holds Try.pinned (OpenSpec.ofChange fnExactWordValidWrong)

/-- 'laws.FnExactWrap': WHATEVER THE INPUT: true; the input reads as it did. -/
def fnExactWrapSpec : ChangeSpec := { name := "fnExactWrap", fn := fun _ => fun
  | [d] => { results := [.lit (.bool true)], args := [d] }
  | _ => none }
def fnExactWrapRow : OpenClaim := { program := "ytcnnabcgflennaa", sum := "87e856e67c7459da307d34046e4d7514880cba700314f3d7bb3c7d0ad08e1e7b", func := "loop.example/cothreads/laws.FnExactWrap", spec := "fnExactWrap", apart := false }
def FnExactWrapSaid : Prop := fnExactWrapRow.holds Try.pinned (OpenSpec.ofChange fnExactWrapSpec)

/-- ITS FALSE NEIGHBOUR: 'it returns false'. Refute it at one input. -/
def fnExactWrapWrong : ChangeSpec := { name := "fnExactWrap", fn := fun _ => fun
  | [d] => { results := [.lit (.bool false)], args := [d] }
  | _ => none }
def FnExactWrapWrongFalsely : Prop := fnExactWrapRow.holds Try.pinned (OpenSpec.ofChange fnExactWrapWrong)

/-- 'laws.FnExactUnsigned': WHATEVER THE INPUT: true; the input reads as it did. -/
def fnExactUnsignedSpec : ChangeSpec := { name := "fnExactUnsigned", fn := fun _ => fun
  | [d] => { results := [.lit (.bool true)], args := [d] }
  | _ => none }
def fnExactUnsignedRow : OpenClaim := { program := "ytcnnabcgflennaa", sum := "87e856e67c7459da307d34046e4d7514880cba700314f3d7bb3c7d0ad08e1e7b", func := "loop.example/cothreads/laws.FnExactUnsigned", spec := "fnExactUnsigned", apart := false }
def FnExactUnsignedSaid : Prop := fnExactUnsignedRow.holds Try.pinned (OpenSpec.ofChange fnExactUnsignedSpec)

/-- ITS FALSE NEIGHBOUR: 'it returns false'. Refute it at one input. -/
def fnExactUnsignedWrong : ChangeSpec := { name := "fnExactUnsigned", fn := fun _ => fun
  | [d] => { results := [.lit (.bool false)], args := [d] }
  | _ => none }
def FnExactUnsignedWrongFalsely : Prop := fnExactUnsignedRow.holds Try.pinned (OpenSpec.ofChange fnExactUnsignedWrong)

/-- 'laws.FnExactBits': WHATEVER THE INPUT: true; the input reads as it did. -/
def fnExactBitsSpec : ChangeSpec := { name := "fnExactBits", fn := fun _ => fun
  | [d1, d2, d3] => { results := [.lit (.bool true)], args := [d1, d2, d3] }
  | _ => none }
def fnExactBitsRow : OpenClaim := { program := "ytcnnabcgflennaa", sum := "87e856e67c7459da307d34046e4d7514880cba700314f3d7bb3c7d0ad08e1e7b", func := "loop.example/cothreads/laws.FnExactBits", spec := "fnExactBits", apart := false }
def FnExactBitsSaid : Prop := fnExactBitsRow.holds Try.pinned (OpenSpec.ofChange fnExactBitsSpec)

/-- ITS FALSE NEIGHBOUR: 'it returns false'. Refute it at one input. -/
def fnExactBitsWrong : ChangeSpec := { name := "fnExactBits", fn := fun _ => fun
  | [d1, d2, d3] => { results := [.lit (.bool false)], args := [d1, d2, d3] }
  | _ => none }
def FnExactBitsWrongFalsely : Prop := fnExactBitsRow.holds Try.pinned (OpenSpec.ofChange fnExactBitsWrong)

/-- 'laws.FnExactSignExtend': WHATEVER THE INPUT: true; the input reads as it did. -/
def fnExactSignExtendSpec : ChangeSpec := { name := "fnExactSignExtend", fn := fun _ => fun
  | [d1, d2] => { results := [.lit (.bool true)], args := [d1, d2] }
  | _ => none }
def fnExactSignExtendRow : OpenClaim := { program := "ytcnnabcgflennaa", sum := "87e856e67c7459da307d34046e4d7514880cba700314f3d7bb3c7d0ad08e1e7b", func := "loop.example/cothreads/laws.FnExactSignExtend", spec := "fnExactSignExtend", apart := false }
def FnExactSignExtendSaid : Prop := fnExactSignExtendRow.holds Try.pinned (OpenSpec.ofChange fnExactSignExtendSpec)

/-- ITS FALSE NEIGHBOUR: 'it returns false'. Refute it at one input. -/
def fnExactSignExtendWrong : ChangeSpec := { name := "fnExactSignExtend", fn := fun _ => fun
  | [d1, d2] => { results := [.lit (.bool false)], args := [d1, d2] }
  | _ => none }
def FnExactSignExtendWrongFalsely : Prop := fnExactSignExtendRow.holds Try.pinned (OpenSpec.ofChange fnExactSignExtendWrong)

/-- 'laws.FnExactOpLevel': WHATEVER THE INPUT: true; the input reads as it did. -/
def fnExactOpLevelSpec : ChangeSpec := { name := "fnExactOpLevel", fn := fun _ => fun
  | [d] => { results := [.lit (.bool true)], args := [d] }
  | _ => none }
def fnExactOpLevelRow : OpenClaim := { program := "ytcnnabcgflennaa", sum := "87e856e67c7459da307d34046e4d7514880cba700314f3d7bb3c7d0ad08e1e7b", func := "loop.example/cothreads/laws.FnExactOpLevel", spec := "fnExactOpLevel", apart := false }
def FnExactOpLevelSaid : Prop := fnExactOpLevelRow.holds Try.pinned (OpenSpec.ofChange fnExactOpLevelSpec)

/-- ITS FALSE NEIGHBOUR: 'it returns false'. Refute it at one input. -/
def fnExactOpLevelWrong : ChangeSpec := { name := "fnExactOpLevel", fn := fun _ => fun
  | [d] => { results := [.lit (.bool false)], args := [d] }
  | _ => none }
def FnExactOpLevelWrongFalsely : Prop := fnExactOpLevelRow.holds Try.pinned (OpenSpec.ofChange fnExactOpLevelWrong)

/-- 'laws.FnWrapFar': WHATEVER THE INPUT: true; the input reads as it did. -/
def fnWrapFarSpec : ChangeSpec := { name := "fnWrapFar", fn := fun _ => fun
  | [d] => { results := [.lit (.bool true)], args := [d] }
  | _ => none }
def fnWrapFarRow : OpenClaim := { program := "ytcnnabcgflennaa", sum := "87e856e67c7459da307d34046e4d7514880cba700314f3d7bb3c7d0ad08e1e7b", func := "loop.example/cothreads/laws.FnWrapFar", spec := "fnWrapFar", apart := false }
def FnWrapFarSaid : Prop := fnWrapFarRow.holds Try.pinned (OpenSpec.ofChange fnWrapFarSpec)

/-- ITS FALSE NEIGHBOUR: 'it returns false'. Refute it at one input. -/
def fnWrapFarWrong : ChangeSpec := { name := "fnWrapFar", fn := fun _ => fun
  | [d] => { results := [.lit (.bool false)], args := [d] }
  | _ => none }
def FnWrapFarWrongFalsely : Prop := fnWrapFarRow.holds Try.pinned (OpenSpec.ofChange fnWrapFarWrong)

/-- 'laws.FnOpLevel': WHATEVER THE INPUT: true; the input reads as it did. -/
def fnOpLevelSpec : ChangeSpec := { name := "fnOpLevel", fn := fun _ => fun
  | [d] => { results := [.lit (.bool true)], args := [d] }
  | _ => none }
def fnOpLevelRow : OpenClaim := { program := "ytcnnabcgflennaa", sum := "87e856e67c7459da307d34046e4d7514880cba700314f3d7bb3c7d0ad08e1e7b", func := "loop.example/cothreads/laws.FnOpLevel", spec := "fnOpLevel", apart := false }
def FnOpLevelSaid : Prop := fnOpLevelRow.holds Try.pinned (OpenSpec.ofChange fnOpLevelSpec)

/-- ITS FALSE NEIGHBOUR: 'it returns false'. Refute it at one input. -/
def fnOpLevelWrong : ChangeSpec := { name := "fnOpLevel", fn := fun _ => fun
  | [d] => { results := [.lit (.bool false)], args := [d] }
  | _ => none }
def FnOpLevelWrongFalsely : Prop := fnOpLevelRow.holds Try.pinned (OpenSpec.ofChange fnOpLevelWrong)

/-- 'laws.FnWrap': WHATEVER THE INPUT: true; the input reads as it did. -/
def fnWrapSpec : ChangeSpec := { name := "fnWrap", fn := fun _ => fun
  | [d] => { results := [.lit (.bool true)], args := [d] }
  | _ => none }
def fnWrapRow : OpenClaim := { program := "ytcnnabcgflennaa", sum := "87e856e67c7459da307d34046e4d7514880cba700314f3d7bb3c7d0ad08e1e7b", func := "loop.example/cothreads/laws.FnWrap", spec := "fnWrap", apart := false }
def FnWrapSaid : Prop := fnWrapRow.holds Try.pinned (OpenSpec.ofChange fnWrapSpec)

/-- ITS FALSE NEIGHBOUR: 'it returns false'. Refute it at one input. -/
def fnWrapWrong : ChangeSpec := { name := "fnWrap", fn := fun _ => fun
  | [d] => { results := [.lit (.bool false)], args := [d] }
  | _ => none }
def FnWrapWrongFalsely : Prop := fnWrapRow.holds Try.pinned (OpenSpec.ofChange fnWrapWrong)

/-- 'laws.FnWord': WHATEVER THE INPUT: true; the input reads as it did. -/
def fnWordSpec : ChangeSpec := { name := "fnWord", fn := fun _ => fun
  | [d] => { results := [.lit (.bool true)], args := [d] }
  | _ => none }
def fnWordRow : OpenClaim := { program := "ytcnnabcgflennaa", sum := "87e856e67c7459da307d34046e4d7514880cba700314f3d7bb3c7d0ad08e1e7b", func := "loop.example/cothreads/laws.FnWord", spec := "fnWord", apart := false }
def FnWordSaid : Prop := fnWordRow.holds Try.pinned (OpenSpec.ofChange fnWordSpec)

/-- ITS FALSE NEIGHBOUR: 'it returns false'. Refute it at one input. -/
def fnWordWrong : ChangeSpec := { name := "fnWord", fn := fun _ => fun
  | [d] => { results := [.lit (.bool false)], args := [d] }
  | _ => none }
def FnWordWrongFalsely : Prop := fnWordRow.holds Try.pinned (OpenSpec.ofChange fnWordWrong)

/- THE SECOND FORM. 'bulk': how many values and letters a reading holds, each counted each time it is reached (what is shared counts as often as it is met; a slice's spare places count too). A statement '..UptoSaid' is the law's where the arguments, and the package variables that the reading takes, are together of bulk at most 1048576: NARROWER than '..Said'. Prove '..Said' where nothing that the law and all that it calls make is longer than what came in: it says more and counts as full. Else prove '..UptoSaid'. A law counts once. -/
mutual
def uptoBulk {H : Type} : DataW H → Nat
  | .lit (.string bytes) => bytes.length + 1
  | .lit _ => 1
  | .nil => 1
  | .ptr d => uptoBulk d + 1
  | .slice elems spare => uptoBulkAll elems + uptoBulkAll spare + 1
  | .agg parts => uptoBulkAll parts + 1
  | .iface _ d => uptoBulk d + 1
  | .map entries => uptoBulkEntries entries + 1
  | .held _ => 1
def uptoBulkAll {H : Type} : List (DataW H) → Nat
  | [] => 0
  | d :: r => uptoBulk d + uptoBulkAll r
def uptoBulkEntries {H : Type} : List (Lit × DataW H) → Nat
  | [] => 0
  | x :: r => uptoBulkEntry x + uptoBulkEntries r
def uptoBulkEntry {H : Type} : Lit × DataW H → Nat
  | (.string bytes, d) => bytes.length + uptoBulk d + 1
  | (_, d) => uptoBulk d + 1
 end
def uptoSmall : (H : Type) → List (DataW H) → Bool := fun _ ds => decide (uptoBulkAll ds ≤ 1048576)
def OpenSpec.upto (s : _root_.Go.ChangeSpec) : _root_.Go.OpenSpec := { _root_.Go.OpenSpec.ofChange s with cond := some uptoSmall }

/-- 'laws.FnExactConstants', WHERE WHAT IT READS IS OF BULK AT MOST 1048576: true; the input reads as it did. -/
def fnExactConstantsUptoRow : OpenClaim := { program := "ytcnnabcgflennaa", sum := "87e856e67c7459da307d34046e4d7514880cba700314f3d7bb3c7d0ad08e1e7b", func := "loop.example/cothreads/laws.FnExactConstants", spec := "fnExactConstants", apart := false, narrowed := true }
def FnExactConstantsUptoSaid : Prop := fnExactConstantsUptoRow.holds Try.pinned (OpenSpec.upto fnExactConstantsSpec)

/-- 'laws.FnExactOpValid', WHERE WHAT IT READS IS OF BULK AT MOST 1048576: true; the input reads as it did. -/
def fnExactOpValidUptoRow : OpenClaim := { program := "ytcnnabcgflennaa", sum := "87e856e67c7459da307d34046e4d7514880cba700314f3d7bb3c7d0ad08e1e7b", func := "loop.example/cothreads/laws.FnExactOpValid", spec := "fnExactOpValid", apart := false, narrowed := true }
def FnExactOpValidUptoSaid : Prop := fnExactOpValidUptoRow.holds Try.pinned (OpenSpec.upto fnExactOpValidSpec)

/-- 'laws.FnExactWordValid', WHERE WHAT IT READS IS OF BULK AT MOST 1048576: true; the input reads as it did. -/
def fnExactWordValidUptoRow : OpenClaim := { program := "ytcnnabcgflennaa", sum := "87e856e67c7459da307d34046e4d7514880cba700314f3d7bb3c7d0ad08e1e7b", func := "loop.example/cothreads/laws.FnExactWordValid", spec := "fnExactWordValid", apart := false, narrowed := true }
def FnExactWordValidUptoSaid : Prop := fnExactWordValidUptoRow.holds Try.pinned (OpenSpec.upto fnExactWordValidSpec)

/-- 'laws.FnExactWrap', WHERE WHAT IT READS IS OF BULK AT MOST 1048576: true; the input reads as it did. -/
def fnExactWrapUptoRow : OpenClaim := { program := "ytcnnabcgflennaa", sum := "87e856e67c7459da307d34046e4d7514880cba700314f3d7bb3c7d0ad08e1e7b", func := "loop.example/cothreads/laws.FnExactWrap", spec := "fnExactWrap", apart := false, narrowed := true }
def FnExactWrapUptoSaid : Prop := fnExactWrapUptoRow.holds Try.pinned (OpenSpec.upto fnExactWrapSpec)

/-- 'laws.FnExactUnsigned', WHERE WHAT IT READS IS OF BULK AT MOST 1048576: true; the input reads as it did. -/
def fnExactUnsignedUptoRow : OpenClaim := { program := "ytcnnabcgflennaa", sum := "87e856e67c7459da307d34046e4d7514880cba700314f3d7bb3c7d0ad08e1e7b", func := "loop.example/cothreads/laws.FnExactUnsigned", spec := "fnExactUnsigned", apart := false, narrowed := true }
def FnExactUnsignedUptoSaid : Prop := fnExactUnsignedUptoRow.holds Try.pinned (OpenSpec.upto fnExactUnsignedSpec)

/-- 'laws.FnExactBits', WHERE WHAT IT READS IS OF BULK AT MOST 1048576: true; the input reads as it did. -/
def fnExactBitsUptoRow : OpenClaim := { program := "ytcnnabcgflennaa", sum := "87e856e67c7459da307d34046e4d7514880cba700314f3d7bb3c7d0ad08e1e7b", func := "loop.example/cothreads/laws.FnExactBits", spec := "fnExactBits", apart := false, narrowed := true }
def FnExactBitsUptoSaid : Prop := fnExactBitsUptoRow.holds Try.pinned (OpenSpec.upto fnExactBitsSpec)

/-- 'laws.FnExactSignExtend', WHERE WHAT IT READS IS OF BULK AT MOST 1048576: true; the input reads as it did. -/
def fnExactSignExtendUptoRow : OpenClaim := { program := "ytcnnabcgflennaa", sum := "87e856e67c7459da307d34046e4d7514880cba700314f3d7bb3c7d0ad08e1e7b", func := "loop.example/cothreads/laws.FnExactSignExtend", spec := "fnExactSignExtend", apart := false, narrowed := true }
def FnExactSignExtendUptoSaid : Prop := fnExactSignExtendUptoRow.holds Try.pinned (OpenSpec.upto fnExactSignExtendSpec)

/-- 'laws.FnExactOpLevel', WHERE WHAT IT READS IS OF BULK AT MOST 1048576: true; the input reads as it did. -/
def fnExactOpLevelUptoRow : OpenClaim := { program := "ytcnnabcgflennaa", sum := "87e856e67c7459da307d34046e4d7514880cba700314f3d7bb3c7d0ad08e1e7b", func := "loop.example/cothreads/laws.FnExactOpLevel", spec := "fnExactOpLevel", apart := false, narrowed := true }
def FnExactOpLevelUptoSaid : Prop := fnExactOpLevelUptoRow.holds Try.pinned (OpenSpec.upto fnExactOpLevelSpec)

/-- 'laws.FnWrapFar', WHERE WHAT IT READS IS OF BULK AT MOST 1048576: true; the input reads as it did. -/
def fnWrapFarUptoRow : OpenClaim := { program := "ytcnnabcgflennaa", sum := "87e856e67c7459da307d34046e4d7514880cba700314f3d7bb3c7d0ad08e1e7b", func := "loop.example/cothreads/laws.FnWrapFar", spec := "fnWrapFar", apart := false, narrowed := true }
def FnWrapFarUptoSaid : Prop := fnWrapFarUptoRow.holds Try.pinned (OpenSpec.upto fnWrapFarSpec)

/-- 'laws.FnOpLevel', WHERE WHAT IT READS IS OF BULK AT MOST 1048576: true; the input reads as it did. -/
def fnOpLevelUptoRow : OpenClaim := { program := "ytcnnabcgflennaa", sum := "87e856e67c7459da307d34046e4d7514880cba700314f3d7bb3c7d0ad08e1e7b", func := "loop.example/cothreads/laws.FnOpLevel", spec := "fnOpLevel", apart := false, narrowed := true }
def FnOpLevelUptoSaid : Prop := fnOpLevelUptoRow.holds Try.pinned (OpenSpec.upto fnOpLevelSpec)

/-- 'laws.FnWrap', WHERE WHAT IT READS IS OF BULK AT MOST 1048576: true; the input reads as it did. -/
def fnWrapUptoRow : OpenClaim := { program := "ytcnnabcgflennaa", sum := "87e856e67c7459da307d34046e4d7514880cba700314f3d7bb3c7d0ad08e1e7b", func := "loop.example/cothreads/laws.FnWrap", spec := "fnWrap", apart := false, narrowed := true }
def FnWrapUptoSaid : Prop := fnWrapUptoRow.holds Try.pinned (OpenSpec.upto fnWrapSpec)

/-- 'laws.FnWord', WHERE WHAT IT READS IS OF BULK AT MOST 1048576: true; the input reads as it did. -/
def fnWordUptoRow : OpenClaim := { program := "ytcnnabcgflennaa", sum := "87e856e67c7459da307d34046e4d7514880cba700314f3d7bb3c7d0ad08e1e7b", func := "loop.example/cothreads/laws.FnWord", spec := "fnWord", apart := false, narrowed := true }
def FnWordUptoSaid : Prop := fnWordUptoRow.holds Try.pinned (OpenSpec.upto fnWordSpec)

end Rows
end Go.Proofs.Ytcnnabcgflennaa
