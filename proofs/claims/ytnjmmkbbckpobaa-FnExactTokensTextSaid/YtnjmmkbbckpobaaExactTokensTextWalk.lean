/- The entry of 'FnExactTokensText', whose argument is a slice of strings: from the cells that the row opens to the printed contract. -/
import Derived.Test.YtnjmmkbbckpobaaQx6
namespace Go.Proofs.Ytnjmmkbbckpobaa.Q
open Go Go.RowKit Go.Proofs.YtnjmmkbbckpobaaW.PrintWords Go.Proofs.YtnjmmkbbckpobaaW.PrintLast Go.Proofs.YtnjmmkbbckpobaaW.PrintMore
def laws_FnExactTokensText.Pure : Prop := ∀ (l0 : List ByteArray), l0.length ≤ 9223372036854775807 → (∀ s ∈ l0, s.size ≤ 9223372036854775807) → ∃ k, laws_FnExactTokensText.f k l0 = some true
theorem laws_FnExactTokensText.walk (P : laws_FnExactTokensText.Pure) (a0 : Option Addr) (len0 cap0 : Nat) (ss : List ByteArray) (w : World)
    (w0 : (a0 = none ∧ len0 = 0 ∧ cap0 = 0 ∧ ss = []) ∨ ∃ x, a0 = some x ∧ len0 ≤ cap0 ∧ cap0 ≤ maxLen ∧ ss.length = cap0 ∧ (∀ i, i < ss.length → w.cell? (x.add i) = some (.string (ss.getD i ByteArray.empty))) ∧ ∀ s ∈ ss, s.size ≤ maxLen) :
    Calls Try.prog 5 #[.slice a0 len0 cap0] w fun e w' => e = .returned (.bool true) ∧ Below w.heap.size w w' := by
  have key : ∃ l : List ByteArray, len0 = l.length ∧ l.length ≤ cap0 ∧ ReadsOf Value.string ByteArray.empty w a0 l.length l ∧ l.length ≤ 9223372036854775807 ∧ ∀ s ∈ l, s.size ≤ 9223372036854775807 := by
    have hmx : maxLen = 9223372036854775807 := by decide
    rcases w0 with ⟨rfl, rfl, rfl, rfl⟩ | ⟨x, rfl, h1, h2, h3, h4, h5⟩
    · exact ⟨[], rfl, Nat.le_refl _, ⟨rfl, by simp, fun h => absurd h (by simp)⟩, by simp, by simp⟩
    · have hl : (ss.take len0).length = len0 := by rw [List.length_take]; omega
      refine ⟨ss.take len0, hl.symm, by omega, ⟨rfl, by omega, fun _ => ⟨x, rfl, fun j hj => ?_⟩⟩, by omega, fun s hs => ?_⟩
      · rw [h4 j (by omega)]
        rw [List.getD_eq_getElem?_getD, List.getD_eq_getElem?_getD, List.getElem?_take, if_pos (by omega)]
      · have := h5 s (List.mem_of_mem_take hs)
        omega
  obtain ⟨l, rfl, hc, hr, hn, hs⟩ := key
  obtain ⟨k, h⟩ := P l hn hs
  exact (laws_FnExactTokensText.calls k _ _ l true w (Kd.C_of_reads (d := ByteArray.empty) (h1 := fun _ => rfl) hr) hc h).mono fun e w' ⟨he, hd⟩ => ⟨he, hd⟩
end Go.Proofs.Ytnjmmkbbckpobaa.Q
