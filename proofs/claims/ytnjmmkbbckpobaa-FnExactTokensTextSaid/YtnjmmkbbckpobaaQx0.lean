/- Written for this claim by the kit's print program, over contracts that are this seat's own (YtnjmmkbbckpobaaGiven): not the print's own text. -/
import Derived.Test.YtnjmmkbbckpobaaProg
import Derived.Below
import Derived.Deep.Draws
import Derived.Deep.AppendLies
import Derived.Maps.AppendAt
import Derived.OwnWalk
import Derived.Laws.BytesArg
import Derived.Laws.MakeOwn
import Derived.Laws.OwnMore
import Derived.Deep.OwnRows
import Derived.Tactics
import Derived.Lib.ConvBytes
import Derived.Laws.Slices
import Derived.WalkKit
import Derived.KernelRfl
import Derived.RowKit3
import Derived.Deep.LoopGhost
import Derived.Deep.QuietTactic
import Derived.BigQuiet
import Derived.WideLaws
import Derived.Deep.DeepCutAuto
import Derived.Deep.CutBlock
import Derived.Deep.RegionHeld3
import Derived.Laws.Rows
import Derived.Lib.AppendStr
import Derived.ArgAppend
import Derived.Laws.IdiomCopy
import Derived.OrdersHeld
import Derived.Laws.BitsLemmas
import Derived.RowKit
import Derived.Test.YtnjmmkbbckpobaaGiven
import Derived.Test.YtnjmmkbbckpobaaWWords
import Derived.Test.YtnjmmkbbckpobaaWLast
import Derived.Test.YtnjmmkbbckpobaaWTab
import Derived.Test.YtnjmmkbbckpobaaWFour
import Derived.Test.YtnjmmkbbckpobaaWQPut
import Derived.Test.YtnjmmkbbckpobaaWApart
import Derived.Test.YtnjmmkbbckpobaaWArr
import Derived.Test.YtnjmmkbbckpobaaWZeros
import Derived.Test.YtnjmmkbbckpobaaWFoot
import Derived.Test.YtnjmmkbbckpobaaWKept
import Derived.Test.YtnjmmkbbckpobaaWShare
import Derived.Test.YtnjmmkbbckpobaaWN
import Derived.Test.YtnjmmkbbckpobaaWFootNe
import Derived.Test.YtnjmmkbbckpobaaWAt
import Derived.Test.YtnjmmkbbckpobaaWEqStruct
import Derived.Test.YtnjmmkbbckpobaaWRepsOne
import Derived.Test.YtnjmmkbbckpobaaWInv
import Derived.Test.YtnjmmkbbckpobaaWInvWords
import Derived.Test.YtnjmmkbbckpobaaWGuard
import Derived.Test.YtnjmmkbbckpobaaWNEv
import Derived.Test.YtnjmmkbbckpobaaWMore
namespace Go.Proofs.Ytnjmmkbbckpobaa.Q
open Go.RowKit Go.Proofs.Ytnjmmkbbckpobaa.Given Go.Proofs.YtnjmmkbbckpobaaW.PrintWords Go.Proofs.YtnjmmkbbckpobaaW.PrintLast Go.Proofs.YtnjmmkbbckpobaaW.PrintMore
attribute [local go_sem] max2_int min2_int max_two min_two max_three min_three max_four min_four   -- for this text's walks alone
set_option linter.unusedVariables false
set_option linter.unusedSimpArgs false



def errW : Option Int → Value
  | none => .nilIface
  | some c => .iface 0 (.int .i64 c)
theorem errW_none : errW none = .nilIface := rfl
theorem errW_some (c : Int) : errW (some c) = .iface 0 (.int .i64 c) := rfl

theorem info5 : (Try.prog.info? 5).map (fun i => (i.zero, i.size, i.bytes)) = some (some (.int .u8 0), 1, 1) := by kernel_rfl
theorem info9 : (Try.prog.info? 9).map (fun i => (i.zero, i.size, i.bytes)) = some (some (.string ⟨#[]⟩), 1, 16) := by kernel_rfl
-- the values' own types

end Go.Proofs.Ytnjmmkbbckpobaa.Q
