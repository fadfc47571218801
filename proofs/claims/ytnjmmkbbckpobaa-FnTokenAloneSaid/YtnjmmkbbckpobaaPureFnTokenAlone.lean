/- The law FnTokenAlone, 'A token is read alone', answers true for every input: what the program's functions compute is shown to answer it; conditions: none beyond the given statement's own. -/
import Derived.Test.YtnjmmkbbckpobaaToks
import Derived.Test.YtnjmmkbbckpobaaLinkC
import Derived.Test.YtnjmmkbbckpobaaQx9
import Derived.Test.YtnjmmkbbckpobaaWSized
namespace Go.Proofs.Ytnjmmkbbckpobaa.Pure
open Go.Proofs.Ytnjmmkbbckpobaa.Toks
open Go.Proofs.Ytnjmmkbbckpobaa.Link
open Go Go.RowKit Go.Proofs.Ytnjmmkbbckpobaa.Q Go.Proofs.YtnjmmkbbckpobaaW.PrintWords Go.Proofs.YtnjmmkbbckpobaaW.PrintLast Go.Proofs.YtnjmmkbbckpobaaW.PrintMore
set_option linter.unusedVariables false
set_option linter.unusedSimpArgs false

theorem FnTokenAlone : laws_FnTokenAlone.Pure := by
  intro l0 _ _ hw
  refine ⟨60000, ?_⟩
  unfold laws_FnTokenAlone.f
  split
  · rfl
  obtain ⟨s, es, hs⟩ := drawValid_ok hw (k := 60000) (by omega)
  rw [es]; simp only [Option.bind_some]
  rw [specValid_ok (by omega) (by omega), implValid_ok (by omega)]; simp only [Option.bind_some]
  rw [bne_self_eq_false, if_neg (by decide)]
  by_cases h : valid (L s) = true
  · have ht : TK s = ([s], true) := by
      unfold TK TKl
      rw [if_neg (by omega), valid_T h]
      simp [ba_L]
    rw [if_pos h, implTokens_ok s (by omega), ht]; simp only [Option.bind_some]
    rw [if_neg (by omega), if_pos trivial, if_pos (by simp), if_pos (by simp)]
    have := rdOf_get (l := [s]) (i := 0) (by simp)
    rw [show ((0 : Nat) : Int) = 0 from rfl] at this
    rw [this]; simp
  · rw [if_neg h]; simp

end Go.Proofs.Ytnjmmkbbckpobaa.Pure
namespace Go.Proofs.Ytnjmmkbbckpobaa.PrintWords
open Go Go.ChangeShapes Go.WideShapes
/-- The printed row asks for this word under this name. -/
theorem sized_ints {H : Type} {enc : TypeId × Value → H} {P : Program} {W : World} {base : Nat} {spare : Nat → Bool} {held : Bool} {t e : TypeId} {k : IntKind} {a : Option Addr} {len cap : Nat} {d : DataW H} {ps : List MemPlace} {ts : List TypeId} {ds : List (DataW H)} {j : Nat}
    (hsz : (DataW.weightsEach P ts ds).all (· ≤ reachBytes) = true) (ht : ts[j]? = some t) (hd : ds[j]? = some d) (hu : P.underlying t = some (.slice e)) (he : P.underlying e = some (.int k)) (hc : P.cellsOf e = 1) {B : Nat} (hB : P.bytesOf e = B)
    (h : DataW.Trod enc P W base spare held t (.slice a len cap) d ps) : len * B ≤ 140737488351232 :=
  Go.Proofs.YtnjmmkbbckpobaaW.PrintWords.sized_ints hsz ht hd hu he hc hB h
end Go.Proofs.Ytnjmmkbbckpobaa.PrintWords
