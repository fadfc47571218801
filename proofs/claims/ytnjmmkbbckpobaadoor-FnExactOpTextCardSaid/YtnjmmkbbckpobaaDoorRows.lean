/-
  NARROWER THAN 'FOR EVERY INPUT', by the rows' own cells (each row's printed sentence says how): FnExactOpText: laid · FnOpText: laid.
  DERIVED. THE GIVEN ROWS OF THIS SEAT. 2 by the template 'for every input the law returns true; each argument reads behind the call as it read before'; 0 by the template 'total and deterministic' (their statements: YtnjmmkbbckpobaaDoorTotals.lean).
  GIVEN WITH THE SEED: the statements are not yours to turn. If you find one false, say at which input.
  Laid BY PROGRAM, IN A SANDBOX (cutbox-rows.mjs): the forced cells as the released guide's own fill.sh prints them over the translation e49c2fe803d103ff… (all of the seat's roots in one cut). By AI agents, Wed Nov 11 2026. No macro, syntax, notation, axiom, sorry.
-/
import Derived.Test.YtnjmmkbbckpobaaDoorChecked
import GoSem.Claim
import GoSem.ClaimJoined
import GoSem.ClaimMapViews
import Derived.JoinedTies
import Derived.KernelRfl
namespace Go.Proofs.YtnjmmkbbckpobaaDoor
/- THE CELL 'sum', in the pinned program and in every row, IS THE sha256 OF THE DUMP (.gsa) THAT YtnjmmkbbckpobaaDoorProg.lean LOADS. Nothing in Lean hashes anything: it is a label: what it is worth is what the hold of that sum in a sandbox is worth. -/
noncomputable def Tryd.pinned : Pinned := { name := "ytnjmmkbbckpobaadoor", sum := "e49c2fe803d103ff7a19ed5096fd833eb4f45cb343a9f2ae3fa34699ec1a8670", checked := Tryd.checked }
namespace Rows
def none {H : Type} : Left H := { results := [], args := [] }

/- WHAT THE LISTED PACKAGE-LEVEL VARIABLES READ AS WHEN THE CALL BEGINS. Each datum BY PROGRAM (the guide's laid-datum.mjs) off the statement by which the dump's own 'gosem.cut.vars' lays the variable. In a bare row this is a premise. The card (YtnjmmkbbckpobaaDoorCards.lean) ties it to the program's text. -/
def laid_loop_example_cothreads_impl_opTexts {H : Type} : DataW H := .agg [.lit (.string [124]), .lit (.string [94]), .lit (.string [38]), .lit (.string [61, 61]), .lit (.string [60]), .lit (.string [60, 60]), .lit (.string [62, 62]), .lit (.string [43]), .lit (.string [45]), .lit (.string [42]), .lit (.string [47]), .lit (.string [37])]

/-- 'laws.FnExactOpText': WHATEVER THE INPUT: true; the input reads as it did. -/
def fnExactOpTextSpec : ChangeSpec := { name := "fnExactOpText", vars := ["loop.example/cothreads/impl.opTexts"], fn := fun _ => fun
  | [d, g1] => { results := [.lit (.bool true)], args := [d], vars := [g1] }
  | _ => none }
def fnExactOpTextRow : OpenClaim := { program := "ytnjmmkbbckpobaadoor", sum := "e49c2fe803d103ff7a19ed5096fd833eb4f45cb343a9f2ae3fa34699ec1a8670", func := "loop.example/cothreads/laws.FnExactOpText", spec := "fnExactOpText", named := ["loop.example/cothreads/impl.opTexts"], apart := false, laid := [("loop.example/cothreads/impl.opTexts", laid_loop_example_cothreads_impl_opTexts)] }
def FnExactOpTextSaid : Prop := fnExactOpTextRow.holds Tryd.pinned (OpenSpec.ofChange fnExactOpTextSpec)

/-- ITS FALSE NEIGHBOUR: 'it returns false'. Refute it at one input. -/
def fnExactOpTextWrong : ChangeSpec := { name := "fnExactOpText", vars := ["loop.example/cothreads/impl.opTexts"], fn := fun _ => fun
  | [d, g1] => { results := [.lit (.bool false)], args := [d], vars := [g1] }
  | _ => none }
def FnExactOpTextWrongFalsely : Prop := fnExactOpTextRow.holds Tryd.pinned (OpenSpec.ofChange fnExactOpTextWrong)

/-- 'laws.FnOpText': WHATEVER THE INPUT: true; the input reads as it did. -/
def fnOpTextSpec : ChangeSpec := { name := "fnOpText", vars := ["loop.example/cothreads/impl.opTexts"], fn := fun _ => fun
  | [d, g1] => { results := [.lit (.bool true)], args := [d], vars := [g1] }
  | _ => none }
def fnOpTextRow : OpenClaim := { program := "ytnjmmkbbckpobaadoor", sum := "e49c2fe803d103ff7a19ed5096fd833eb4f45cb343a9f2ae3fa34699ec1a8670", func := "loop.example/cothreads/laws.FnOpText", spec := "fnOpText", named := ["loop.example/cothreads/impl.opTexts"], apart := false, laid := [("loop.example/cothreads/impl.opTexts", laid_loop_example_cothreads_impl_opTexts)] }
def FnOpTextSaid : Prop := fnOpTextRow.holds Tryd.pinned (OpenSpec.ofChange fnOpTextSpec)

/-- ITS FALSE NEIGHBOUR: 'it returns false'. Refute it at one input. -/
def fnOpTextWrong : ChangeSpec := { name := "fnOpText", vars := ["loop.example/cothreads/impl.opTexts"], fn := fun _ => fun
  | [d, g1] => { results := [.lit (.bool false)], args := [d], vars := [g1] }
  | _ => none }
def FnOpTextWrongFalsely : Prop := fnOpTextRow.holds Tryd.pinned (OpenSpec.ofChange fnOpTextWrong)

/- THE SECOND FORM. 'bulk': how many values and letters a reading holds, each counted each time it is reached (what is shared counts as often as it is met; a slice's spare places count too). A statement '..UptoSaid' is the law's where the arguments, and the package variables that the reading takes, are together of bulk at most 1048576: NARROWER than '..Said'. Prove '..Said' where nothing that the law and all that it calls make is longer than what came in: it says more and counts as full. Else prove '..UptoSaid'. A law counts once. -/
mutual
def uptoBulk {H : Type} : DataW H → Nat
  | .lit (.string bytes) => bytes.length + 1
  | .lit _ => 1
  | .nil => 1
  | .ptr d => uptoBulk d + 1
  | .slice elems spare => uptoBulkAll elems + uptoBulkAll spare + 1
  | .agg parts => uptoBulkAll parts + 1
  | .iface _ d => uptoBulk d + 1
  | .map entries => uptoBulkEntries entries + 1
  | .held _ => 1
def uptoBulkAll {H : Type} : List (DataW H) → Nat
  | [] => 0
  | d :: r => uptoBulk d + uptoBulkAll r
def uptoBulkEntries {H : Type} : List (Lit × DataW H) → Nat
  | [] => 0
  | x :: r => uptoBulkEntry x + uptoBulkEntries r
def uptoBulkEntry {H : Type} : Lit × DataW H → Nat
  | (.string bytes, d) => bytes.length + uptoBulk d + 1
  | (_, d) => uptoBulk d + 1
 end
def uptoSmall : (H : Type) → List (DataW H) → Bool := fun _ ds => decide (uptoBulkAll ds ≤ 1048576)
def OpenSpec.upto (s : _root_.Go.ChangeSpec) : _root_.Go.OpenSpec := { _root_.Go.OpenSpec.ofChange s with cond := some uptoSmall }

/-- 'laws.FnExactOpText', WHERE WHAT IT READS IS OF BULK AT MOST 1048576: true; the input reads as it did. -/
def fnExactOpTextUptoRow : OpenClaim := { program := "ytnjmmkbbckpobaadoor", sum := "e49c2fe803d103ff7a19ed5096fd833eb4f45cb343a9f2ae3fa34699ec1a8670", func := "loop.example/cothreads/laws.FnExactOpText", spec := "fnExactOpText", named := ["loop.example/cothreads/impl.opTexts"], apart := false, laid := [("loop.example/cothreads/impl.opTexts", laid_loop_example_cothreads_impl_opTexts)], narrowed := true }
def FnExactOpTextUptoSaid : Prop := fnExactOpTextUptoRow.holds Tryd.pinned (OpenSpec.upto fnExactOpTextSpec)

/-- 'laws.FnOpText', WHERE WHAT IT READS IS OF BULK AT MOST 1048576: true; the input reads as it did. -/
def fnOpTextUptoRow : OpenClaim := { program := "ytnjmmkbbckpobaadoor", sum := "e49c2fe803d103ff7a19ed5096fd833eb4f45cb343a9f2ae3fa34699ec1a8670", func := "loop.example/cothreads/laws.FnOpText", spec := "fnOpText", named := ["loop.example/cothreads/impl.opTexts"], apart := false, laid := [("loop.example/cothreads/impl.opTexts", laid_loop_example_cothreads_impl_opTexts)], narrowed := true }
def FnOpTextUptoSaid : Prop := fnOpTextUptoRow.holds Tryd.pinned (OpenSpec.upto fnOpTextSpec)

end Rows
end Go.Proofs.YtnjmmkbbckpobaaDoor
