/- The law FnExactOpValid, 'The program's OpValid returns what the reference's returns, for all arguments', answers true for every input: what the program's functions compute is shown to answer it; conditions: none beyond the given statement's own. -/
import Derived.Test.YtcnnabcgflennaaPFnExactOpValidx1
namespace Go.Proofs.Ytcnnabcgflennaa.Pure
open Go Go.RowKit Go.Proofs.Ytcnnabcgflennaa.PFnExactOpValid Go.Proofs.YtcnnabcgflennaaW.PrintWords Go.Proofs.YtcnnabcgflennaaW.PrintLast Go.Proofs.YtcnnabcgflennaaW.PrintMore
set_option linter.unusedVariables false
set_option linter.unusedSimpArgs false

theorem specOpValid_ok (n : Int) : spec_OpValid.f n = some (decide (1 ≤ n ∧ n ≤ 12)) := by
  unfold spec_OpValid.f spec_l6In.f
  split <;> simp <;> omega

theorem implOpValid_ok (n : Int) : impl_OpValid.f n = some (decide (1 ≤ n ∧ n ≤ 12)) := by
  unfold impl_OpValid.f
  split <;> simp <;> omega

theorem FnExactOpValid : laws_FnExactOpValid.Pure := by
  intro a0 _
  unfold laws_FnExactOpValid.f
  rw [specOpValid_ok, implOpValid_ok]
  simp

end Go.Proofs.Ytcnnabcgflennaa.Pure
