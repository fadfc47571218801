/- The law FnExactWordValid, 'The program's WordValid returns what the reference's returns, for all arguments', answers true for every input: what the program's functions compute is shown to answer it; conditions: none beyond the given statement's own. -/
import Derived.Test.YtcnnabcgflennaaPFnExactWordValidx1
namespace Go.Proofs.Ytcnnabcgflennaa.Pure
open Go Go.RowKit Go.Proofs.Ytcnnabcgflennaa.PFnExactWordValid Go.Proofs.YtcnnabcgflennaaW.PrintWords Go.Proofs.YtcnnabcgflennaaW.PrintLast Go.Proofs.YtcnnabcgflennaaW.PrintMore
set_option linter.unusedVariables false
set_option linter.unusedSimpArgs false

theorem specWordValid_ok (n : Int) : spec_WordValid.f n = some (decide (-2147483648 ≤ n ∧ n ≤ 2147483647)) := by
  unfold spec_WordValid.f spec_l6In.f
  split <;> simp <;> omega

theorem implWordValid_ok (n : Int) : impl_WordValid.f n = some (decide (-2147483648 ≤ n ∧ n ≤ 2147483647)) := by
  unfold impl_WordValid.f
  split <;> simp <;> omega

theorem FnExactWordValid : laws_FnExactWordValid.Pure := by
  intro a0 _
  unfold laws_FnExactWordValid.f
  rw [specWordValid_ok, implWordValid_ok]
  simp

end Go.Proofs.Ytcnnabcgflennaa.Pure
