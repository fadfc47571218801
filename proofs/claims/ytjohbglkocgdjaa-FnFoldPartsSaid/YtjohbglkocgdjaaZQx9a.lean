/- Written for this claim by the kit's print program, over contracts that are this seat's own (): not the print's own text. -/
import Derived.Test.YtjohbglkocgdjaaZQx0
import Derived.Test.YtjohbglkocgdjaaZQx8
namespace Go.Proofs.Ytjohbglkocgdjaa.Q
open Go.RowKit Go.Proofs.YtjohbglkocgdjaaW.PrintWords Go.Proofs.YtjohbglkocgdjaaW.PrintLast Go.Proofs.YtjohbglkocgdjaaW.PrintMore
attribute [local go_sem] max2_int min2_int max_two min_two max_three min_three max_four min_four   -- for this text's walks alone
set_option linter.unusedVariables false
set_option linter.unusedSimpArgs false

/-! ### impl_exprFold: function 49 -/
mutual
def impl_exprFold.j0 : Nat → Bool → Int → Int → List (S29) → Int → Int → List (S29) → Int → Int → List (S29) → Option (Int × Int × (List (S29)))
  | 0, _, _, _, _, _, _, _, _, _, _ => none
  | k + 1, x32, x438000, x438001, x438002, x452000, x452001, x452002, x453000, x453001, x453002 => if x32 = true then ((impl_apply.f x438000 x452001 x453001).bind fun t453 => (if t453 ≥ 0 then (if t453 ≤ 99999 then (some (0, t453, ([] : List (S29)))) else (some (x438000, 0, (([(⟨x452000, x452001, x452002⟩ : S29), (⟨x453000, x453001, x453002⟩ : S29)] : List (S29)))))) else (some (x438000, 0, (([(⟨x452000, x452001, x452002⟩ : S29), (⟨x453000, x453001, x453002⟩ : S29)] : List (S29))))))) else (some (x438000, 0, (([(⟨x452000, x452001, x452002⟩ : S29), (⟨x453000, x453001, x453002⟩ : S29)] : List (S29)))))
def impl_exprFold.f : Nat → Int → Int → List (S29) → Option (Int × Int × (List (S29)))
  | 0, _, _, _ => none
  | k + 1, a0_0, a0_1, l0_2 => if (l0_2.length : Int) = 0 then (some (a0_0, a0_1, ([] : List (S29)))) else (if 0 < (l0_2.length : Int) then ((impl_exprFold.f k ((rd_T29 l0_2 0).f0) ((rd_T29 l0_2 0).f1) ((rd_T29 l0_2 0).f2)).bind fun bt440 => (if 1 < (l0_2.length : Int) then ((impl_exprFold.f k ((rd_T29 l0_2 1).f0) ((rd_T29 l0_2 1).f1) ((rd_T29 l0_2 1).f2)).bind fun bt446 => (if bt440.1 = 0 then (impl_exprFold.j0 k (bt446.1 == 0) a0_0 a0_1 l0_2 bt440.1 bt440.2.1 bt440.2.2 bt446.1 bt446.2.1 bt446.2.2) else (impl_exprFold.j0 k false a0_0 a0_1 l0_2 bt440.1 bt440.2.1 bt440.2.2 bt446.1 bt446.2.1 bt446.2.2))) else (none))) else (none))
end
def impl_exprFold.T3 : Bool × List (List Nat × List Nat) := (true, [([], []), ([0], [0]), ([1], [1]), ([2], [2]), ([3], [3]), ([], []), ([5], [5]), ([6], [6]), ([7], [7]), ([8, 4], [8]), ([], []), ([], []), ([10, 4, 9, 0, 1, 2, 3, 4, 10, 11], [4, 10]), ([11, 9, 12, 0, 1, 2, 3, 4, 5, 6, 7, 8, 9, 10, 11, 12], [9, 11])])
def impl_exprFold.B3 : List Nat := [0, 1, 3, 7, 15, 0, 32, 96, 224, 511, 0, 0, 4095, 8191]
theorem impl_exprFold.tab3 : rtab .any (opsOf Try.f49 3) = impl_exprFold.T3 := by kernel_rfl
theorem impl_exprFold.bits3 : waitsOk impl_exprFold.T3.2 impl_exprFold.B3 = true := by kernel_rfl
end Go.Proofs.Ytjohbglkocgdjaa.Q
