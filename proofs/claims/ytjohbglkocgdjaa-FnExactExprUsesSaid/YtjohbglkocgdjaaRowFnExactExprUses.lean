/- The row of this law, whose argument is a tree: after the printed rows over slices of numbers; the tree comes of its reading (text E20). -/
import Derived.Test.YtjohbglkocgdjaaRows
import Derived.Test.YtjohbglkocgdjaaExactExprUsesWalk
import Derived.Test.YtjohbglkocgdjaaPureFnExactExprUses
import Derived.WalkKit
import Derived.ProofKit
import Derived.OpenShut
import Derived.ShutString
import Derived.ChangeOld
import Derived.Below
import Derived.SizedLaws
namespace Go.Proofs.Ytjohbglkocgdjaa.fnExactExprUses
open Go.ChangeShapes Go.WideShapes Go.ChangeAt Go.RowKit
set_option linter.unusedVariables false
theorem own : ownKnob Try.prog.godebug = none := by kernel_rfl
theorem laidOut : laidOutB Try.prog = true := by kernel_rfl
set_option maxRecDepth 100000 in
theorem lifted (os : Os) (started : os.Started) (H : Type) (enc : TypeId × Value → H) :
    ReturnsInHanded {} Try.checked os 4 .any (Rows.fnExactExprUsesSpec.pre6 enc Try.prog Try.f4 Rows.fnExactExprUsesRow.domain false) (Rows.fnExactExprUsesSpec.post enc Try.prog Try.f4 false true false false) := by
  refine returnsInHanded_of_change_sized (C := Try.checked) own started (by kernel_rfl) Try.func4
    (ChangeSpec.witness6 (enc := enc) (C := Try.checked) false ⟨#[], #[.agg #[.int .i64 0, .int .i64 0, .slice none 0 0], .int .i64 0], []⟩ 8 (by kernel_rfl) (by kernel_rfl) (by kernel_rfl) (by kernel_rfl)) ?_
  intro W base args ds gs before hval0 hW hcnd hsz0 _
  have hval : ∀ (j : Nat) t v, Try.f4.params[j]? = some t → args[j]? = some v → Value.okWide Try.prog W .any base t v := hval0
  have hW' := hW
  obtain ⟨p, q, hA0, hV, rfl, hfz, hnd⟩ := hW
  have hA : DataW.TrodAll enc Try.prog W 0 (fun _ => true) true Try.f4.params.toList args.toList ds p := hA0
  rw [Try.params4] at hA hval
  obtain ⟨v0, vs0, d0, ds0, p0, q0, hargs, rfl, rfl, h0, r0⟩ := trodAll_cons hA
  obtain ⟨v1, vs1, d1, ds1, p1, q1, rfl, rfl, rfl, h1, r1⟩ := trodAll_cons r0
  obtain ⟨rfl, rfl, rfl⟩ := trodAll_nil r1
  obtain rfl : args = #[v0, v1] := by cases args; simp_all
  obtain ⟨rfl, rfl⟩ := trodVars_none hV
  obtain ⟨cs0, rfl, -⟩ := okWide_struct Try.underlying24 (hval 0 24 v0 rfl rfl)
  obtain ⟨n1, rfl, rfl, rfl, hw1⟩ := open_int Try.underlying3 (hval 1 3 v1 rfl rfl) h1
  have k1 := h1
  have k0 := h0
  have lt0 : ∀ x ∈ p0, x.block < W.heap.size := by obtain ⟨m, hm⟩ := k0; exact DataW.trod_lt m _ _ _ hm
  obtain ⟨op, n, A, l, c, d, hcs, hc, hr, hd⟩ : ∃ op n A l c d, cs0.toList = [.int .i64 op, .int .i64 n, .slice A (List.length l) c] ∧ l.length ≤ c ∧ Q.k24.C W A l.length l ∧ Q.smD 9223372036854775807 d l := by
    obtain ⟨fuel, hf⟩ := h0
    obtain ⟨s, hs, hd⟩ := Q.open_tree fuel _ _ hf
    obtain ⟨A2, c2, hcs, hl, hC⟩ := Q.k24_open hs
    exact ⟨s.f0, s.f1, A2, s.f2, c2, fuel, hcs, hl, hC, hd⟩
  obtain rfl : cs0 = #[.int .i64 op, .int .i64 n, .slice A l.length c] := by cases cs0; simp_all
  clear hA0 hval0 hsz0
  refine (Q.laws_FnExactExprUses.walk Pure.FnExactExprUses op n A l c n1 d W hc hr hd).mono fun e W' ⟨he, bel⟩ => ?_
  subst he
  exact ⟨_, rfl, _, _, _, [], _, [], hW', trodAll_mk1 (shut_bool Try.underlying4 _), (trodAll_cons_mk (Below.trod laidOut (by kernel_rfl) (of_decide_eq_true (by kernel_rfl)) k0 bel lt0) (trodAll_cons_mk (shut_int Try.underlying3 hw1) trodAll_mk0)), rfl, bel.frame _, fun h => by cases h⟩
theorem over : Rows.fnExactExprUsesRow.holds Try.pinned (OpenSpec.ofChange Rows.fnExactExprUsesSpec) :=
  OpenClaim.holds_of_wide 4 Try.f4 rfl rfl rfl rfl rfl rfl rfl ⟨rfl, rfl, rfl, rfl, rfl⟩ rfl rfl rfl rfl rfl (by kernel_rfl) Try.func4 (by kernel_rfl)
    (of_decide_eq_true (by kernel_rfl)) (by unfold Func.isWrapper; first | (rw [if_pos (by decide +kernel)]; kernel_rfl) | (rw [if_neg (by decide +kernel)]; exact ⟨rfl, rfl⟩))
    (fun os started H enc _ => lifted os started H enc)
theorem proved : Rows.FnExactExprUsesSaid := over
#print axioms proved
end Go.Proofs.Ytjohbglkocgdjaa.fnExactExprUses
namespace Go.Proofs.Ytjohbglkocgdjaa
/-- The row, under a short name, for the claim. -/
theorem fnExactExprUses_holds : Rows.FnExactExprUsesSaid := fnExactExprUses.proved
end Go.Proofs.Ytjohbglkocgdjaa
