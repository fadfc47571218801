/- The law FnTokenBlank, 'A token has no blank', answers true for every input: what the program's functions compute is shown to answer it; conditions: none beyond the given statement's own. -/
import Derived.Test.YtnjmmkbbckpobaaToks
import Derived.Test.YtnjmmkbbckpobaaLinkC
import Derived.Test.YtnjmmkbbckpobaaQx9
import Derived.Test.YtnjmmkbbckpobaaWSized
namespace Go.Proofs.Ytnjmmkbbckpobaa.Pure
open Go.Proofs.Ytnjmmkbbckpobaa.Toks
open Go.Proofs.Ytnjmmkbbckpobaa.Link
open Go Go.RowKit Go.Proofs.Ytnjmmkbbckpobaa.Q Go.Proofs.YtnjmmkbbckpobaaW.PrintWords Go.Proofs.YtnjmmkbbckpobaaW.PrintLast Go.Proofs.YtnjmmkbbckpobaaW.PrintMore
set_option linter.unusedVariables false
set_option linter.unusedSimpArgs false

theorem valid_stop {l : List UInt8} (h : valid l = true) : ∀ (i : Nat) (hi : i < l.length), isBlank l[i] = false := by
  intro i hi
  cases hb : isBlank l[i] with
  | false => rfl
  | true =>
    obtain ⟨h0, h1⟩ := valid_tokN h
    have e : l = l.take i ++ l[i] :: l.drop (i + 1) := by
      rw [← List.drop_eq_getElem_cons hi, List.take_append_drop]
    have h2 := tokN_sep (stop_blank hb) (l.take i) (l.drop (i + 1))
    rw [← e, h1] at h2
    have h3 := tokN_le (l.take i)
    rw [List.length_take] at h3
    omega
theorem blank_l {s : ByteArray} (hs : s.size ≤ 1000) (h : valid (L s) = true) {k : Nat} : ∀ (d i : Nat), (L s).length - i = d → i ≤ (L s).length → d < k → laws_FnTokenBlank.l0 k s i = some true := by
  have hlen := L_len s
  induction k with
  | zero => intro d i _ _ h; omega
  | succ k ih =>
    intro d i hd hi hk
    rw [laws_FnTokenBlank.l0]
    by_cases hl : i < (L s).length
    · have e : wrap64 ((i : Int) + 1) = ((i + 1 : Nat) : Int) := by unfold wrap64; omega
      have hb := valid_stop h i hl
      have hn : ¬ (((L s)[i].toNat : Int) = 32) := fun q => by
        have := (blank_bytes ((L s)[i])).mpr (.inl q)
        rw [this] at hb; exact absurd hb (by decide)
      rw [if_pos (by omega), if_pos (by omega), bt_L s i hl, if_neg hn, e]
      exact ih (d - 1) (i + 1) (by omega) (by omega) (by omega)
    · have e1 : ((⟨#[32]⟩ : ByteArray) ++ s).size = 1 + s.size := ByteArray.size_append
      have e2 : (s ++ (⟨#[10]⟩ : ByteArray)).size = s.size + 1 := ByteArray.size_append
      have v1 : valid (L ((⟨#[32]⟩ : ByteArray) ++ s)) = false := by
        have e : L ((⟨#[32]⟩ : ByteArray) ++ s) = 32 :: L s := L_append _ _
        rw [e]
        refine decide_eq_false (fun q => ?_)
        rw [tokN_stop (stop_blank (by decide))] at q
        simp at q
      have v2 : valid (L (s ++ (⟨#[10]⟩ : ByteArray))) = false := by
        have e : L (s ++ (⟨#[10]⟩ : ByteArray)) = L s ++ 10 :: [] := L_append _ _
        rw [e]
        refine decide_eq_false (fun q => ?_)
        have h2 := tokN_sep (stop_blank (show isBlank 10 = true by decide)) (L s) []
        have h3 := tokN_le (L s)
        have h4 := q.2
        rw [h2, List.length_append, List.length_cons, List.length_nil] at h4
        omega
      rw [if_neg (by omega), if_pos (by omega), implValid_ok (by omega), v1]; simp only [Option.bind_some, Bool.false_eq_true, if_false]
      rw [if_pos (by omega), implValid_ok (by omega), v2]; rfl
theorem FnTokenBlank : laws_FnTokenBlank.Pure := by
  intro l0 _ _ hw
  refine ⟨2000, ?_⟩
  unfold laws_FnTokenBlank.f
  split
  · rfl
  obtain ⟨s, es, hs⟩ := drawValid_ok hw (k := 2000) (by omega)
  have hlen := L_len s
  rw [es]; simp only [Option.bind_some]
  rw [specValid_ok (by omega) (by omega), implValid_ok (by omega)]; simp only [Option.bind_some]
  rw [bne_self_eq_false, if_neg (by decide), laws_FnTokenBlank.j0]
  by_cases h : valid (L s) = true
  · rw [h, if_neg (by decide)]
    exact blank_l (by omega) h (L s).length 0 (by omega) (by omega) (by omega)
  · have h' : valid (L s) = false := by simpa using h
    rw [h', if_pos (by decide)]; rfl

end Go.Proofs.Ytnjmmkbbckpobaa.Pure
namespace Go.Proofs.Ytnjmmkbbckpobaa.PrintWords
open Go Go.ChangeShapes Go.WideShapes
/-- The printed row asks for this word under this name. -/
theorem sized_ints {H : Type} {enc : TypeId × Value → H} {P : Program} {W : World} {base : Nat} {spare : Nat → Bool} {held : Bool} {t e : TypeId} {k : IntKind} {a : Option Addr} {len cap : Nat} {d : DataW H} {ps : List MemPlace} {ts : List TypeId} {ds : List (DataW H)} {j : Nat}
    (hsz : (DataW.weightsEach P ts ds).all (· ≤ reachBytes) = true) (ht : ts[j]? = some t) (hd : ds[j]? = some d) (hu : P.underlying t = some (.slice e)) (he : P.underlying e = some (.int k)) (hc : P.cellsOf e = 1) {B : Nat} (hB : P.bytesOf e = B)
    (h : DataW.Trod enc P W base spare held t (.slice a len cap) d ps) : len * B ≤ 140737488351232 :=
  Go.Proofs.YtnjmmkbbckpobaaW.PrintWords.sized_ints hsz ht hd hu he hc hB h
end Go.Proofs.Ytnjmmkbbckpobaa.PrintWords
