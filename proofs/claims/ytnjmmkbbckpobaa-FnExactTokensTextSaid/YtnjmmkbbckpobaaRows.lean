/-
  No cell of these rows narrows 'for every input' (looked for: loops, veiled, ifaces, maps, wideKeys, modest, calm, conditions, laid).
  DERIVED. THE GIVEN ROWS OF THIS SEAT. 12 by the template 'for every input the law returns true; each argument reads behind the call as it read before'; 0 by the template 'total and deterministic' (their statements: YtnjmmkbbckpobaaTotals.lean).
  GIVEN WITH THE SEED: the statements are not yours to turn. If you find one false, say at which input.
  Laid BY PROGRAM, IN A SANDBOX (cutbox-rows.mjs): the forced cells as the released guide's own fill.sh prints them over the translation b0e6c8d21b341089… (all of the seat's roots in one cut). By AI agents, Wed Nov 11 2026. No macro, syntax, notation, axiom, sorry.
-/
import Derived.Test.YtnjmmkbbckpobaaChecked
import GoSem.Claim
import GoSem.ClaimJoined
import GoSem.ClaimMapViews
import Derived.JoinedTies
import Derived.KernelRfl
namespace Go.Proofs.Ytnjmmkbbckpobaa
/- THE CELL 'sum', in the pinned program and in every row, IS THE sha256 OF THE DUMP (.gsa) THAT YtnjmmkbbckpobaaProg.lean LOADS. Nothing in Lean hashes anything: it is a label: what it is worth is what the hold of that sum in a sandbox is worth. -/
noncomputable def Try.pinned : Pinned := { name := "ytnjmmkbbckpobaa", sum := "b0e6c8d21b3410890ddc93bc976fd51e14d2452cc40b906f2489bafb9e81bc8b", checked := Try.checked }
namespace Rows
def none {H : Type} : Left H := { results := [], args := [] }

/-- 'laws.FnExactTokenValid': WHATEVER THE INPUT: true; the input reads as it did. -/
def fnExactTokenValidSpec : ChangeSpec := { name := "fnExactTokenValid", fn := fun _ => fun
  | [d] => { results := [.lit (.bool true)], args := [d] }
  | _ => none }
def fnExactTokenValidRow : OpenClaim := { program := "ytnjmmkbbckpobaa", sum := "b0e6c8d21b3410890ddc93bc976fd51e14d2452cc40b906f2489bafb9e81bc8b", func := "loop.example/cothreads/laws.FnExactTokenValid", spec := "fnExactTokenValid", inPlace := ["internal/bytealg.IndexByteString"], unfollowed := true, recurses := true, apart := false }
def FnExactTokenValidSaid : Prop := fnExactTokenValidRow.holds Try.pinned (OpenSpec.ofChange fnExactTokenValidSpec)

/-- ITS FALSE NEIGHBOUR: 'it returns false'. Refute it at one input. -/
def fnExactTokenValidWrong : ChangeSpec := { name := "fnExactTokenValid", fn := fun _ => fun
  | [d] => { results := [.lit (.bool false)], args := [d] }
  | _ => none }
def FnExactTokenValidWrongFalsely : Prop := fnExactTokenValidRow.holds Try.pinned (OpenSpec.ofChange fnExactTokenValidWrong)

/-- 'laws.FnExactTokens': WHATEVER THE INPUT: true; the input reads as it did. -/
def fnExactTokensSpec : ChangeSpec := { name := "fnExactTokens", fn := fun _ => fun
  | [d] => { results := [.lit (.bool true)], args := [d] }
  | _ => none }
def fnExactTokensRow : OpenClaim := { program := "ytnjmmkbbckpobaa", sum := "b0e6c8d21b3410890ddc93bc976fd51e14d2452cc40b906f2489bafb9e81bc8b", func := "loop.example/cothreads/laws.FnExactTokens", spec := "fnExactTokens", inPlace := ["internal/bytealg.IndexByteString"], unfollowed := true, recurses := true, apart := false }
def FnExactTokensSaid : Prop := fnExactTokensRow.holds Try.pinned (OpenSpec.ofChange fnExactTokensSpec)

/-- ITS FALSE NEIGHBOUR: 'it returns false'. Refute it at one input. -/
def fnExactTokensWrong : ChangeSpec := { name := "fnExactTokens", fn := fun _ => fun
  | [d] => { results := [.lit (.bool false)], args := [d] }
  | _ => none }
def FnExactTokensWrongFalsely : Prop := fnExactTokensRow.holds Try.pinned (OpenSpec.ofChange fnExactTokensWrong)

/-- 'laws.FnExactTokensText': WHATEVER THE INPUT: true; the input reads as it did. -/
def fnExactTokensTextSpec : ChangeSpec := { name := "fnExactTokensText", fn := fun _ => fun
  | [d] => { results := [.lit (.bool true)], args := [d] }
  | _ => none }
def fnExactTokensTextRow : OpenClaim := { program := "ytnjmmkbbckpobaa", sum := "b0e6c8d21b3410890ddc93bc976fd51e14d2452cc40b906f2489bafb9e81bc8b", func := "loop.example/cothreads/laws.FnExactTokensText", spec := "fnExactTokensText", inPlace := ["internal/bytealg.IndexByteString", "internal/abi.NoEscape", "internal/bytealg.MakeNoZero"], unfollowed := true, recurses := true, apart := false }
def FnExactTokensTextSaid : Prop := fnExactTokensTextRow.holds Try.pinned (OpenSpec.ofChange fnExactTokensTextSpec)

/-- ITS FALSE NEIGHBOUR: 'it returns false'. Refute it at one input. -/
def fnExactTokensTextWrong : ChangeSpec := { name := "fnExactTokensText", fn := fun _ => fun
  | [d] => { results := [.lit (.bool false)], args := [d] }
  | _ => none }
def FnExactTokensTextWrongFalsely : Prop := fnExactTokensTextRow.holds Try.pinned (OpenSpec.ofChange fnExactTokensTextWrong)

/-- 'laws.FnTokenBlank': WHATEVER THE INPUT: true; the input reads as it did. -/
def fnTokenBlankSpec : ChangeSpec := { name := "fnTokenBlank", fn := fun _ => fun
  | [d] => { results := [.lit (.bool true)], args := [d] }
  | _ => none }
def fnTokenBlankRow : OpenClaim := { program := "ytnjmmkbbckpobaa", sum := "b0e6c8d21b3410890ddc93bc976fd51e14d2452cc40b906f2489bafb9e81bc8b", func := "loop.example/cothreads/laws.FnTokenBlank", spec := "fnTokenBlank", inPlace := ["internal/bytealg.IndexByteString"], unfollowed := true, recurses := true, apart := false }
def FnTokenBlankSaid : Prop := fnTokenBlankRow.holds Try.pinned (OpenSpec.ofChange fnTokenBlankSpec)

/-- ITS FALSE NEIGHBOUR: 'it returns false'. Refute it at one input. -/
def fnTokenBlankWrong : ChangeSpec := { name := "fnTokenBlank", fn := fun _ => fun
  | [d] => { results := [.lit (.bool false)], args := [d] }
  | _ => none }
def FnTokenBlankWrongFalsely : Prop := fnTokenBlankRow.holds Try.pinned (OpenSpec.ofChange fnTokenBlankWrong)

/-- 'laws.FnTokenAlone': WHATEVER THE INPUT: true; the input reads as it did. -/
def fnTokenAloneSpec : ChangeSpec := { name := "fnTokenAlone", fn := fun _ => fun
  | [d] => { results := [.lit (.bool true)], args := [d] }
  | _ => none }
def fnTokenAloneRow : OpenClaim := { program := "ytnjmmkbbckpobaa", sum := "b0e6c8d21b3410890ddc93bc976fd51e14d2452cc40b906f2489bafb9e81bc8b", func := "loop.example/cothreads/laws.FnTokenAlone", spec := "fnTokenAlone", inPlace := ["internal/bytealg.IndexByteString"], unfollowed := true, recurses := true, apart := false }
def FnTokenAloneSaid : Prop := fnTokenAloneRow.holds Try.pinned (OpenSpec.ofChange fnTokenAloneSpec)

/-- ITS FALSE NEIGHBOUR: 'it returns false'. Refute it at one input. -/
def fnTokenAloneWrong : ChangeSpec := { name := "fnTokenAlone", fn := fun _ => fun
  | [d] => { results := [.lit (.bool false)], args := [d] }
  | _ => none }
def FnTokenAloneWrongFalsely : Prop := fnTokenAloneRow.holds Try.pinned (OpenSpec.ofChange fnTokenAloneWrong)

/-- 'laws.FnTokensText': WHATEVER THE INPUT: true; the input reads as it did. -/
def fnTokensTextSpec : ChangeSpec := { name := "fnTokensText", fn := fun _ => fun
  | [d] => { results := [.lit (.bool true)], args := [d] }
  | _ => none }
def fnTokensTextRow : OpenClaim := { program := "ytnjmmkbbckpobaa", sum := "b0e6c8d21b3410890ddc93bc976fd51e14d2452cc40b906f2489bafb9e81bc8b", func := "loop.example/cothreads/laws.FnTokensText", spec := "fnTokensText", inPlace := ["internal/bytealg.IndexByteString", "internal/abi.NoEscape", "internal/bytealg.MakeNoZero"], unfollowed := true, recurses := true, apart := false }
def FnTokensTextSaid : Prop := fnTokensTextRow.holds Try.pinned (OpenSpec.ofChange fnTokensTextSpec)

/-- ITS FALSE NEIGHBOUR: 'it returns false'. Refute it at one input. -/
def fnTokensTextWrong : ChangeSpec := { name := "fnTokensText", fn := fun _ => fun
  | [d] => { results := [.lit (.bool false)], args := [d] }
  | _ => none }
def FnTokensTextWrongFalsely : Prop := fnTokensTextRow.holds Try.pinned (OpenSpec.ofChange fnTokensTextWrong)

/-- 'laws.FnTokensAgain': WHATEVER THE INPUT: true; the input reads as it did. -/
def fnTokensAgainSpec : ChangeSpec := { name := "fnTokensAgain", fn := fun _ => fun
  | [d] => { results := [.lit (.bool true)], args := [d] }
  | _ => none }
def fnTokensAgainRow : OpenClaim := { program := "ytnjmmkbbckpobaa", sum := "b0e6c8d21b3410890ddc93bc976fd51e14d2452cc40b906f2489bafb9e81bc8b", func := "loop.example/cothreads/laws.FnTokensAgain", spec := "fnTokensAgain", inPlace := ["internal/bytealg.IndexByteString", "internal/abi.NoEscape", "internal/bytealg.MakeNoZero"], unfollowed := true, recurses := true, apart := false }
def FnTokensAgainSaid : Prop := fnTokensAgainRow.holds Try.pinned (OpenSpec.ofChange fnTokensAgainSpec)

/-- ITS FALSE NEIGHBOUR: 'it returns false'. Refute it at one input. -/
def fnTokensAgainWrong : ChangeSpec := { name := "fnTokensAgain", fn := fun _ => fun
  | [d] => { results := [.lit (.bool false)], args := [d] }
  | _ => none }
def FnTokensAgainWrongFalsely : Prop := fnTokensAgainRow.holds Try.pinned (OpenSpec.ofChange fnTokensAgainWrong)

/-- 'laws.FnTokensBad': WHATEVER THE INPUT: true; the input reads as it did. -/
def fnTokensBadSpec : ChangeSpec := { name := "fnTokensBad", fn := fun _ => fun
  | [d1, d2] => { results := [.lit (.bool true)], args := [d1, d2] }
  | _ => none }
def fnTokensBadRow : OpenClaim := { program := "ytnjmmkbbckpobaa", sum := "b0e6c8d21b3410890ddc93bc976fd51e14d2452cc40b906f2489bafb9e81bc8b", func := "loop.example/cothreads/laws.FnTokensBad", spec := "fnTokensBad", inPlace := ["internal/bytealg.IndexByteString"], unfollowed := true, recurses := true, apart := false }
def FnTokensBadSaid : Prop := fnTokensBadRow.holds Try.pinned (OpenSpec.ofChange fnTokensBadSpec)

/-- ITS FALSE NEIGHBOUR: 'it returns false'. Refute it at one input. -/
def fnTokensBadWrong : ChangeSpec := { name := "fnTokensBad", fn := fun _ => fun
  | [d1, d2] => { results := [.lit (.bool false)], args := [d1, d2] }
  | _ => none }
def FnTokensBadWrongFalsely : Prop := fnTokensBadRow.holds Try.pinned (OpenSpec.ofChange fnTokensBadWrong)

/-- 'laws.FnTokensBlank': WHATEVER THE INPUT: true; the input reads as it did. -/
def fnTokensBlankSpec : ChangeSpec := { name := "fnTokensBlank", fn := fun _ => fun
  | [d] => { results := [.lit (.bool true)], args := [d] }
  | _ => none }
def fnTokensBlankRow : OpenClaim := { program := "ytnjmmkbbckpobaa", sum := "b0e6c8d21b3410890ddc93bc976fd51e14d2452cc40b906f2489bafb9e81bc8b", func := "loop.example/cothreads/laws.FnTokensBlank", spec := "fnTokensBlank", inPlace := ["internal/bytealg.IndexByteString"], unfollowed := true, recurses := true, apart := false }
def FnTokensBlankSaid : Prop := fnTokensBlankRow.holds Try.pinned (OpenSpec.ofChange fnTokensBlankSpec)

/-- ITS FALSE NEIGHBOUR: 'it returns false'. Refute it at one input. -/
def fnTokensBlankWrong : ChangeSpec := { name := "fnTokensBlank", fn := fun _ => fun
  | [d] => { results := [.lit (.bool false)], args := [d] }
  | _ => none }
def FnTokensBlankWrongFalsely : Prop := fnTokensBlankRow.holds Try.pinned (OpenSpec.ofChange fnTokensBlankWrong)

/-- 'laws.FnTokensJoin': WHATEVER THE INPUT: true; the input reads as it did. -/
def fnTokensJoinSpec : ChangeSpec := { name := "fnTokensJoin", fn := fun _ => fun
  | [d1, d2] => { results := [.lit (.bool true)], args := [d1, d2] }
  | _ => none }
def fnTokensJoinRow : OpenClaim := { program := "ytnjmmkbbckpobaa", sum := "b0e6c8d21b3410890ddc93bc976fd51e14d2452cc40b906f2489bafb9e81bc8b", func := "loop.example/cothreads/laws.FnTokensJoin", spec := "fnTokensJoin", inPlace := ["internal/bytealg.IndexByteString"], unfollowed := true, recurses := true, apart := false }
def FnTokensJoinSaid : Prop := fnTokensJoinRow.holds Try.pinned (OpenSpec.ofChange fnTokensJoinSpec)

/-- ITS FALSE NEIGHBOUR: 'it returns false'. Refute it at one input. -/
def fnTokensJoinWrong : ChangeSpec := { name := "fnTokensJoin", fn := fun _ => fun
  | [d1, d2] => { results := [.lit (.bool false)], args := [d1, d2] }
  | _ => none }
def FnTokensJoinWrongFalsely : Prop := fnTokensJoinRow.holds Try.pinned (OpenSpec.ofChange fnTokensJoinWrong)

/-- 'laws.FnTokens': WHATEVER THE INPUT: true; the input reads as it did. -/
def fnTokensSpec : ChangeSpec := { name := "fnTokens", fn := fun _ => fun
  | [d] => { results := [.lit (.bool true)], args := [d] }
  | _ => none }
def fnTokensRow : OpenClaim := { program := "ytnjmmkbbckpobaa", sum := "b0e6c8d21b3410890ddc93bc976fd51e14d2452cc40b906f2489bafb9e81bc8b", func := "loop.example/cothreads/laws.FnTokens", spec := "fnTokens", inPlace := ["internal/bytealg.IndexByteString"], unfollowed := true, recurses := true, apart := false }
def FnTokensSaid : Prop := fnTokensRow.holds Try.pinned (OpenSpec.ofChange fnTokensSpec)

/-- ITS FALSE NEIGHBOUR: 'it returns false'. Refute it at one input. -/
def fnTokensWrong : ChangeSpec := { name := "fnTokens", fn := fun _ => fun
  | [d] => { results := [.lit (.bool false)], args := [d] }
  | _ => none }
def FnTokensWrongFalsely : Prop := fnTokensRow.holds Try.pinned (OpenSpec.ofChange fnTokensWrong)

/-- 'laws.FnTokensLength': WHATEVER THE INPUT: true; the input reads as it did. -/
def fnTokensLengthSpec : ChangeSpec := { name := "fnTokensLength", fn := fun _ => fun
  | [d] => { results := [.lit (.bool true)], args := [d] }
  | _ => none }
def fnTokensLengthRow : OpenClaim := { program := "ytnjmmkbbckpobaa", sum := "b0e6c8d21b3410890ddc93bc976fd51e14d2452cc40b906f2489bafb9e81bc8b", func := "loop.example/cothreads/laws.FnTokensLength", spec := "fnTokensLength", inPlace := ["internal/bytealg.IndexByteString", "internal/abi.NoEscape", "internal/bytealg.MakeNoZero"], unfollowed := true, recurses := true, apart := false }
def FnTokensLengthSaid : Prop := fnTokensLengthRow.holds Try.pinned (OpenSpec.ofChange fnTokensLengthSpec)

/-- ITS FALSE NEIGHBOUR: 'it returns false'. Refute it at one input. -/
def fnTokensLengthWrong : ChangeSpec := { name := "fnTokensLength", fn := fun _ => fun
  | [d] => { results := [.lit (.bool false)], args := [d] }
  | _ => none }
def FnTokensLengthWrongFalsely : Prop := fnTokensLengthRow.holds Try.pinned (OpenSpec.ofChange fnTokensLengthWrong)

/- THE SECOND FORM. 'bulk': how many values and letters a reading holds, each counted each time it is reached (what is shared counts as often as it is met; a slice's spare places count too). A statement '..UptoSaid' is the law's where the arguments, and the package variables that the reading takes, are together of bulk at most 1048576: NARROWER than '..Said'. Prove '..Said' where nothing that the law and all that it calls make is longer than what came in: it says more and counts as full. Else prove '..UptoSaid'. A law counts once. -/
mutual
def uptoBulk {H : Type} : DataW H → Nat
  | .lit (.string bytes) => bytes.length + 1
  | .lit _ => 1
  | .nil => 1
  | .ptr d => uptoBulk d + 1
  | .slice elems spare => uptoBulkAll elems + uptoBulkAll spare + 1
  | .agg parts => uptoBulkAll parts + 1
  | .iface _ d => uptoBulk d + 1
  | .map entries => uptoBulkEntries entries + 1
  | .held _ => 1
def uptoBulkAll {H : Type} : List (DataW H) → Nat
  | [] => 0
  | d :: r => uptoBulk d + uptoBulkAll r
def uptoBulkEntries {H : Type} : List (Lit × DataW H) → Nat
  | [] => 0
  | x :: r => uptoBulkEntry x + uptoBulkEntries r
def uptoBulkEntry {H : Type} : Lit × DataW H → Nat
  | (.string bytes, d) => bytes.length + uptoBulk d + 1
  | (_, d) => uptoBulk d + 1
 end
def uptoSmall : (H : Type) → List (DataW H) → Bool := fun _ ds => decide (uptoBulkAll ds ≤ 1048576)
def OpenSpec.upto (s : _root_.Go.ChangeSpec) : _root_.Go.OpenSpec := { _root_.Go.OpenSpec.ofChange s with cond := some uptoSmall }

/-- 'laws.FnExactTokenValid', WHERE WHAT IT READS IS OF BULK AT MOST 1048576: true; the input reads as it did. -/
def fnExactTokenValidUptoRow : OpenClaim := { program := "ytnjmmkbbckpobaa", sum := "b0e6c8d21b3410890ddc93bc976fd51e14d2452cc40b906f2489bafb9e81bc8b", func := "loop.example/cothreads/laws.FnExactTokenValid", spec := "fnExactTokenValid", inPlace := ["internal/bytealg.IndexByteString"], unfollowed := true, recurses := true, apart := false, narrowed := true }
def FnExactTokenValidUptoSaid : Prop := fnExactTokenValidUptoRow.holds Try.pinned (OpenSpec.upto fnExactTokenValidSpec)

/-- 'laws.FnExactTokens', WHERE WHAT IT READS IS OF BULK AT MOST 1048576: true; the input reads as it did. -/
def fnExactTokensUptoRow : OpenClaim := { program := "ytnjmmkbbckpobaa", sum := "b0e6c8d21b3410890ddc93bc976fd51e14d2452cc40b906f2489bafb9e81bc8b", func := "loop.example/cothreads/laws.FnExactTokens", spec := "fnExactTokens", inPlace := ["internal/bytealg.IndexByteString"], unfollowed := true, recurses := true, apart := false, narrowed := true }
def FnExactTokensUptoSaid : Prop := fnExactTokensUptoRow.holds Try.pinned (OpenSpec.upto fnExactTokensSpec)

/-- 'laws.FnExactTokensText', WHERE WHAT IT READS IS OF BULK AT MOST 1048576: true; the input reads as it did. -/
def fnExactTokensTextUptoRow : OpenClaim := { program := "ytnjmmkbbckpobaa", sum := "b0e6c8d21b3410890ddc93bc976fd51e14d2452cc40b906f2489bafb9e81bc8b", func := "loop.example/cothreads/laws.FnExactTokensText", spec := "fnExactTokensText", inPlace := ["internal/bytealg.IndexByteString", "internal/abi.NoEscape", "internal/bytealg.MakeNoZero"], unfollowed := true, recurses := true, apart := false, narrowed := true }
def FnExactTokensTextUptoSaid : Prop := fnExactTokensTextUptoRow.holds Try.pinned (OpenSpec.upto fnExactTokensTextSpec)

/-- 'laws.FnTokenBlank', WHERE WHAT IT READS IS OF BULK AT MOST 1048576: true; the input reads as it did. -/
def fnTokenBlankUptoRow : OpenClaim := { program := "ytnjmmkbbckpobaa", sum := "b0e6c8d21b3410890ddc93bc976fd51e14d2452cc40b906f2489bafb9e81bc8b", func := "loop.example/cothreads/laws.FnTokenBlank", spec := "fnTokenBlank", inPlace := ["internal/bytealg.IndexByteString"], unfollowed := true, recurses := true, apart := false, narrowed := true }
def FnTokenBlankUptoSaid : Prop := fnTokenBlankUptoRow.holds Try.pinned (OpenSpec.upto fnTokenBlankSpec)

/-- 'laws.FnTokenAlone', WHERE WHAT IT READS IS OF BULK AT MOST 1048576: true; the input reads as it did. -/
def fnTokenAloneUptoRow : OpenClaim := { program := "ytnjmmkbbckpobaa", sum := "b0e6c8d21b3410890ddc93bc976fd51e14d2452cc40b906f2489bafb9e81bc8b", func := "loop.example/cothreads/laws.FnTokenAlone", spec := "fnTokenAlone", inPlace := ["internal/bytealg.IndexByteString"], unfollowed := true, recurses := true, apart := false, narrowed := true }
def FnTokenAloneUptoSaid : Prop := fnTokenAloneUptoRow.holds Try.pinned (OpenSpec.upto fnTokenAloneSpec)

/-- 'laws.FnTokensText', WHERE WHAT IT READS IS OF BULK AT MOST 1048576: true; the input reads as it did. -/
def fnTokensTextUptoRow : OpenClaim := { program := "ytnjmmkbbckpobaa", sum := "b0e6c8d21b3410890ddc93bc976fd51e14d2452cc40b906f2489bafb9e81bc8b", func := "loop.example/cothreads/laws.FnTokensText", spec := "fnTokensText", inPlace := ["internal/bytealg.IndexByteString", "internal/abi.NoEscape", "internal/bytealg.MakeNoZero"], unfollowed := true, recurses := true, apart := false, narrowed := true }
def FnTokensTextUptoSaid : Prop := fnTokensTextUptoRow.holds Try.pinned (OpenSpec.upto fnTokensTextSpec)

/-- 'laws.FnTokensAgain', WHERE WHAT IT READS IS OF BULK AT MOST 1048576: true; the input reads as it did. -/
def fnTokensAgainUptoRow : OpenClaim := { program := "ytnjmmkbbckpobaa", sum := "b0e6c8d21b3410890ddc93bc976fd51e14d2452cc40b906f2489bafb9e81bc8b", func := "loop.example/cothreads/laws.FnTokensAgain", spec := "fnTokensAgain", inPlace := ["internal/bytealg.IndexByteString", "internal/abi.NoEscape", "internal/bytealg.MakeNoZero"], unfollowed := true, recurses := true, apart := false, narrowed := true }
def FnTokensAgainUptoSaid : Prop := fnTokensAgainUptoRow.holds Try.pinned (OpenSpec.upto fnTokensAgainSpec)

/-- 'laws.FnTokensBad', WHERE WHAT IT READS IS OF BULK AT MOST 1048576: true; the input reads as it did. -/
def fnTokensBadUptoRow : OpenClaim := { program := "ytnjmmkbbckpobaa", sum := "b0e6c8d21b3410890ddc93bc976fd51e14d2452cc40b906f2489bafb9e81bc8b", func := "loop.example/cothreads/laws.FnTokensBad", spec := "fnTokensBad", inPlace := ["internal/bytealg.IndexByteString"], unfollowed := true, recurses := true, apart := false, narrowed := true }
def FnTokensBadUptoSaid : Prop := fnTokensBadUptoRow.holds Try.pinned (OpenSpec.upto fnTokensBadSpec)

/-- 'laws.FnTokensBlank', WHERE WHAT IT READS IS OF BULK AT MOST 1048576: true; the input reads as it did. -/
def fnTokensBlankUptoRow : OpenClaim := { program := "ytnjmmkbbckpobaa", sum := "b0e6c8d21b3410890ddc93bc976fd51e14d2452cc40b906f2489bafb9e81bc8b", func := "loop.example/cothreads/laws.FnTokensBlank", spec := "fnTokensBlank", inPlace := ["internal/bytealg.IndexByteString"], unfollowed := true, recurses := true, apart := false, narrowed := true }
def FnTokensBlankUptoSaid : Prop := fnTokensBlankUptoRow.holds Try.pinned (OpenSpec.upto fnTokensBlankSpec)

/-- 'laws.FnTokensJoin', WHERE WHAT IT READS IS OF BULK AT MOST 1048576: true; the input reads as it did. -/
def fnTokensJoinUptoRow : OpenClaim := { program := "ytnjmmkbbckpobaa", sum := "b0e6c8d21b3410890ddc93bc976fd51e14d2452cc40b906f2489bafb9e81bc8b", func := "loop.example/cothreads/laws.FnTokensJoin", spec := "fnTokensJoin", inPlace := ["internal/bytealg.IndexByteString"], unfollowed := true, recurses := true, apart := false, narrowed := true }
def FnTokensJoinUptoSaid : Prop := fnTokensJoinUptoRow.holds Try.pinned (OpenSpec.upto fnTokensJoinSpec)

/-- 'laws.FnTokens', WHERE WHAT IT READS IS OF BULK AT MOST 1048576: true; the input reads as it did. -/
def fnTokensUptoRow : OpenClaim := { program := "ytnjmmkbbckpobaa", sum := "b0e6c8d21b3410890ddc93bc976fd51e14d2452cc40b906f2489bafb9e81bc8b", func := "loop.example/cothreads/laws.FnTokens", spec := "fnTokens", inPlace := ["internal/bytealg.IndexByteString"], unfollowed := true, recurses := true, apart := false, narrowed := true }
def FnTokensUptoSaid : Prop := fnTokensUptoRow.holds Try.pinned (OpenSpec.upto fnTokensSpec)

/-- 'laws.FnTokensLength', WHERE WHAT IT READS IS OF BULK AT MOST 1048576: true; the input reads as it did. -/
def fnTokensLengthUptoRow : OpenClaim := { program := "ytnjmmkbbckpobaa", sum := "b0e6c8d21b3410890ddc93bc976fd51e14d2452cc40b906f2489bafb9e81bc8b", func := "loop.example/cothreads/laws.FnTokensLength", spec := "fnTokensLength", inPlace := ["internal/bytealg.IndexByteString", "internal/abi.NoEscape", "internal/bytealg.MakeNoZero"], unfollowed := true, recurses := true, apart := false, narrowed := true }
def FnTokensLengthUptoSaid : Prop := fnTokensLengthUptoRow.holds Try.pinned (OpenSpec.upto fnTokensLengthSpec)

end Rows
end Go.Proofs.Ytnjmmkbbckpobaa
