/- The entry of 'FnExactExprDepth', whose argument is a tree: from the tree that the row opens to the printed contract. -/
import Derived.Test.YtjohbglkocgdjaaE15
import Derived.Test.YtjohbglkocgdjaaE20
namespace Go.Proofs.Ytjohbglkocgdjaa.Q
open Go Go.RowKit Go.Proofs.YtjohbglkocgdjaaW.PrintWords Go.Proofs.YtjohbglkocgdjaaW.PrintLast Go.Proofs.YtjohbglkocgdjaaW.PrintMore
def laws_FnExactExprDepth.Pure : Prop := ∀ (op n : Int) (l : List S24) (d : Nat), smD 9223372036854775807 d l → ∃ k, laws_FnExactExprDepth.f k op n l = some true
theorem laws_FnExactExprDepth.walk (P : laws_FnExactExprDepth.Pure) (op n : Int) (A : Option Addr) (l : List S24) (c : Nat) (d : Nat) (w : World) (hc : l.length ≤ c) (hr : Kd.C k24 w A l.length l) (hd : smD 9223372036854775807 d l) :
    Calls Try.prog 5 #[.agg #[.int .i64 op, .int .i64 n, .slice A l.length c]] w fun e w' => e = .returned (.bool true) ∧ Below w.heap.size w w' := by
  obtain ⟨k, h⟩ := P op n l d hd
  exact laws_FnExactExprDepth.calls k op n A c l true w hr hc h
end Go.Proofs.Ytjohbglkocgdjaa.Q
