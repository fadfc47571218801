/- The law FnExactOpText, 'The program's OpText returns what the reference's returns, for all arguments', answers true for every input: what the program's functions compute is shown to answer it; conditions: none beyond the given statement's own. -/
import Derived.Test.YtnjmmkbbckpobaaDoorGiven
import Derived.Test.YtnjmmkbbckpobaaDoorQx1
namespace Go.Proofs.YtnjmmkbbckpobaaDoor.Pure
open Go.Proofs.YtnjmmkbbckpobaaDoor.Given
open Go Go.RowKit Go.Proofs.YtnjmmkbbckpobaaDoor.Q Go.Proofs.YtnjmmkbbckpobaaDoorW.PrintWords Go.Proofs.YtnjmmkbbckpobaaDoorW.PrintLast Go.Proofs.YtnjmmkbbckpobaaDoorW.PrintMore
set_option linter.unusedVariables false
set_option linter.unusedSimpArgs false

theorem specOpValid_ok (n : Int) : spec_OpValid.f n = some (decide (1 ≤ n ∧ n ≤ 12)) := by
  unfold spec_OpValid.f spec_l6In.f
  split <;> simp <;> omega

theorem specText_ok (n : Int) : spec_OpText.f n = some (opText n) := by
  unfold spec_OpText.f opText
  rw [specOpValid_ok]; simp only [Option.bind_some]
  by_cases h : 1 ≤ n ∧ n ≤ 12
  · have e : wrap64 (n - 1) = n - 1 := by unfold wrap64; omega
    rw [if_pos (by simpa using h), if_pos h, e, if_pos (by omega), if_pos (by simp; omega)]
    have hc : n = 1 ∨ n = 2 ∨ n = 3 ∨ n = 4 ∨ n = 5 ∨ n = 6 ∨ n = 7 ∨ n = 8 ∨ n = 9 ∨ n = 10 ∨ n = 11 ∨ n = 12 := by omega
    rcases hc with rfl | rfl | rfl | rfl | rfl | rfl | rfl | rfl | rfl | rfl | rfl | rfl <;> rfl
  · rw [if_neg (by simpa using h), if_neg h]

theorem FnExactOpText : laws_FnExactOpText.Pure := by
  intro n _
  unfold laws_FnExactOpText.f impl_OpText.f
  rw [specText_ok]; simp

end Go.Proofs.YtnjmmkbbckpobaaDoor.Pure
