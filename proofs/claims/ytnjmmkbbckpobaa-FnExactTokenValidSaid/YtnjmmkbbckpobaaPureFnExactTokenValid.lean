/- The law FnExactTokenValid, 'The program's TokenValid returns what the reference's returns, for all arguments', answers true for every input: what the program's functions compute is shown to answer it; conditions: none beyond the given statement's own. -/
import Derived.Test.YtnjmmkbbckpobaaLinkA
import Derived.Test.YtnjmmkbbckpobaaQx2
namespace Go.Proofs.Ytnjmmkbbckpobaa.Pure
open Go.Proofs.Ytnjmmkbbckpobaa.Link
open Go Go.RowKit Go.Proofs.Ytnjmmkbbckpobaa.Q Go.Proofs.YtnjmmkbbckpobaaW.PrintWords Go.Proofs.YtnjmmkbbckpobaaW.PrintLast Go.Proofs.YtnjmmkbbckpobaaW.PrintMore
set_option linter.unusedVariables false
set_option linter.unusedSimpArgs false

theorem FnExactTokenValid : laws_FnExactTokenValid.Pure := by
  intro s _
  refine ⟨2000000, ?_⟩
  unfold laws_FnExactTokenValid.f
  split
  · rfl
  rw [specValid_ok (by omega) (by omega), implValid_ok (by omega)]
  simp

end Go.Proofs.Ytnjmmkbbckpobaa.Pure
