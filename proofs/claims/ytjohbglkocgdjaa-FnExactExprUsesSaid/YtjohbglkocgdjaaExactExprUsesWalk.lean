/- The entry of 'FnExactExprUses', whose argument is a tree: from the tree that the row opens to the printed contract. -/
import Derived.Test.YtjohbglkocgdjaaE13
import Derived.Test.YtjohbglkocgdjaaE20
namespace Go.Proofs.Ytjohbglkocgdjaa.Q
open Go Go.RowKit Go.Proofs.YtjohbglkocgdjaaW.PrintWords Go.Proofs.YtjohbglkocgdjaaW.PrintLast Go.Proofs.YtjohbglkocgdjaaW.PrintMore
def laws_FnExactExprUses.Pure : Prop := ∀ (op n : Int) (l : List S24) (v : Int) (d : Nat), smD 9223372036854775807 d l → ∃ k, laws_FnExactExprUses.f k op n l v = some true
theorem laws_FnExactExprUses.walk (P : laws_FnExactExprUses.Pure) (op n : Int) (A : Option Addr) (l : List S24) (c : Nat) (v : Int) (d : Nat) (w : World) (hc : l.length ≤ c) (hr : Kd.C k24 w A l.length l) (hd : smD 9223372036854775807 d l) :
    Calls Try.prog 4 #[.agg #[.int .i64 op, .int .i64 n, .slice A l.length c], .int .i64 v] w fun e w' => e = .returned (.bool true) ∧ Below w.heap.size w w' := by
  obtain ⟨k, h⟩ := P op n l v d hd
  exact laws_FnExactExprUses.calls k op n A c l v true w hr hc h
end Go.Proofs.Ytjohbglkocgdjaa.Q
