/- Written for this claim by the kit's print program, over contracts that are this seat's own (YtnjmmkbbckpobaaDoorGiven): not the print's own text. -/
import Derived.Test.YtnjmmkbbckpobaaDoorProg
import Derived.Below
import Derived.Deep.Draws
import Derived.Deep.AppendLies
import Derived.Maps.AppendAt
import Derived.OwnWalk
import Derived.Laws.BytesArg
import Derived.Laws.MakeOwn
import Derived.Laws.OwnMore
import Derived.Deep.OwnRows
import Derived.Tactics
import Derived.Lib.ConvBytes
import Derived.Laws.Slices
import Derived.WalkKit
import Derived.KernelRfl
import Derived.RowKit3
import Derived.Deep.LoopGhost
import Derived.Deep.QuietTactic
import Derived.BigQuiet
import Derived.WideLaws
import Derived.Deep.DeepCutAuto
import Derived.Deep.CutBlock
import Derived.Deep.RegionHeld3
import Derived.Laws.Rows
import Derived.Lib.AppendStr
import Derived.ArgAppend
import Derived.Laws.IdiomCopy
import Derived.OrdersHeld
import Derived.Laws.BitsLemmas
import Derived.RowKit
import Derived.Test.YtnjmmkbbckpobaaDoorGiven
import Derived.Test.YtnjmmkbbckpobaaDoorWWords
import Derived.Test.YtnjmmkbbckpobaaDoorWLast
import Derived.Test.YtnjmmkbbckpobaaDoorWTab
import Derived.Test.YtnjmmkbbckpobaaDoorWFour
import Derived.Test.YtnjmmkbbckpobaaDoorWQPut
import Derived.Test.YtnjmmkbbckpobaaDoorWApart
import Derived.Test.YtnjmmkbbckpobaaDoorWArr
import Derived.Test.YtnjmmkbbckpobaaDoorWZeros
import Derived.Test.YtnjmmkbbckpobaaDoorWFoot
import Derived.Test.YtnjmmkbbckpobaaDoorWKept
import Derived.Test.YtnjmmkbbckpobaaDoorWShare
import Derived.Test.YtnjmmkbbckpobaaDoorWN
import Derived.Test.YtnjmmkbbckpobaaDoorWFootNe
import Derived.Test.YtnjmmkbbckpobaaDoorWAt
import Derived.Test.YtnjmmkbbckpobaaDoorWEqStruct
import Derived.Test.YtnjmmkbbckpobaaDoorWRepsOne
import Derived.Test.YtnjmmkbbckpobaaDoorWInv
import Derived.Test.YtnjmmkbbckpobaaDoorWInvWords
import Derived.Test.YtnjmmkbbckpobaaDoorWGuard
import Derived.Test.YtnjmmkbbckpobaaDoorWNEv
import Derived.Test.YtnjmmkbbckpobaaDoorWMore
namespace Go.Proofs.YtnjmmkbbckpobaaDoor.Q
open Go.RowKit Go.Proofs.YtnjmmkbbckpobaaDoor.Given Go.Proofs.YtnjmmkbbckpobaaDoorW.PrintWords Go.Proofs.YtnjmmkbbckpobaaDoorW.PrintLast Go.Proofs.YtnjmmkbbckpobaaDoorW.PrintMore
attribute [local go_sem] max2_int min2_int max_two min_two max_three min_three max_four min_four   -- for this text's walks alone
set_option linter.unusedVariables false
set_option linter.unusedSimpArgs false



def errW : Option Int → Value
  | none => .nilIface
  | some c => .iface 0 (.int .i64 c)
theorem errW_none : errW none = .nilIface := rfl
theorem errW_some (c : Int) : errW (some c) = .iface 0 (.int .i64 c) := rfl

theorem info5 : (Tryd.prog.info? 5).map (fun i => (i.zero, i.size, i.bytes)) = some (some (.int .u8 0), 1, 1) := by kernel_rfl
theorem info9 : (Tryd.prog.info? 9).map (fun i => (i.zero, i.size, i.bytes)) = some (some (.string ⟨#[]⟩), 1, 16) := by kernel_rfl
-- the values' own types

end Go.Proofs.YtnjmmkbbckpobaaDoor.Q
