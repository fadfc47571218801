/- The law FnTokensBlank, 'Blanks around do not matter', answers true for every input: what the program's functions compute is shown to answer it; conditions: none beyond the given statement's own. -/
import Derived.Test.YtnjmmkbbckpobaaGiven
import Derived.Test.YtnjmmkbbckpobaaToks
import Derived.Test.YtnjmmkbbckpobaaLinkC
import Derived.Test.YtnjmmkbbckpobaaQx13
import Derived.Test.YtnjmmkbbckpobaaWSized
namespace Go.Proofs.Ytnjmmkbbckpobaa.Pure
open Go.Proofs.Ytnjmmkbbckpobaa.Given
open Go.Proofs.Ytnjmmkbbckpobaa.Toks
open Go.Proofs.Ytnjmmkbbckpobaa.Link
open Go Go.RowKit Go.Proofs.Ytnjmmkbbckpobaa.Q Go.Proofs.YtnjmmkbbckpobaaW.PrintWords Go.Proofs.YtnjmmkbbckpobaaW.PrintLast Go.Proofs.YtnjmmkbbckpobaaW.PrintMore
set_option linter.unusedVariables false
set_option linter.unusedSimpArgs false

theorem map_L_ba (ts : List (List UInt8)) : (ts.map ba).map L = ts := by
  rw [List.map_map]
  have : (L ∘ ba) = id := by funext l; exact L_ba l
  rw [this, List.map_id]
theorem map_ba_L (l : List ByteArray) : (l.map L).map ba = l := by
  rw [List.map_map]
  have : (ba ∘ L) = id := by funext s; exact ba_L s
  rw [this, List.map_id]
theorem join_le (ts : List (List UInt8)) : (Lib.join ts [32]).length ≤ (ts.map List.length).sum + ts.length := by
  cases ts with
  | nil => simp [Lib.join, List.intercalate]
  | cons t ts => have := join_len (t :: ts) (by simp); omega
/-- Valid tokens are read back from their text. -/
theorem TK_TT {l : List ByteArray} (hv : ∀ t ∈ l, valid (L t) = true) (hs : (TT l).size ≤ 20000) : TK (TT l) = (l, true) := by
  have ha : l.all (fun t => valid (L t)) = true := List.all_eq_true.mpr hv
  have e : TT l = ba (Lib.join (l.map L) [32]) := by unfold TT; rw [if_pos ha]
  rw [e] at hs ⊢
  unfold TK TKl
  rw [if_neg (by omega), L_ba, T_join _ (fun t ht => by
    obtain ⟨u, hu, rfl⟩ := List.mem_map.mp ht
    exact hv u hu)]
  simp only [List.nil_append, map_ba_L]
theorem ba_nil_eq : ((ba []).toList == ([] : List UInt8)) = true := by rw [Lib.toList_data]; rfl

theorem FnTokensBlank : laws_FnTokensBlank.Pure := by
  intro l0 _ _ hw
  refine ⟨90000, ?_⟩
  unfold laws_FnTokensBlank.f
  split
  · rfl
  obtain ⟨s, es, hs⟩ := drawTokens_ok hw (k := 90000) (by omega)
  rw [es]; simp only [Option.bind_some]
  rw [implTokens_ok s (by omega), specTokens_ok s (by omega)]; simp only [Option.bind_some]
  rw [bne_self_eq_false, if_neg (by decide)]
  rcases TK_cases s with h | ⟨ts, hT, h, hs2, hv, hsum, hlen⟩
  · rw [h]; simp only
    rw [same_ok [] (by simp) (by simp)]; simp only [Option.bind_some, if_true]
    rw [laws_FnTokensBlank.j0, if_pos (by decide), if_pos (by decide), same_ok [] (by simp) (by simp)]; rfl
  · rw [h]; simp only
    have hml : (ts.map ba).length = ts.length := List.length_map _
    have e1 : ((⟨#[32]⟩ : ByteArray) ++ s).size = 1 + s.size := ByteArray.size_append
    have e2 : ((⟨#[32]⟩ : ByteArray) ++ s ++ (⟨#[10]⟩ : ByteArray)).size = 1 + s.size + 1 := by rw [ByteArray.size_append, e1]; rfl
    rw [same_ok _ (by omega) (by omega)]; simp only [Option.bind_some, if_true]
    rw [laws_FnTokensBlank.j0, if_neg (by decide), if_pos (by omega), if_pos (by omega), implTokens_ok _ (by omega)]; simp only [Option.bind_some]
    split
    · rfl
    · rename_i hz
      have hTT : T (L ((⟨#[32]⟩ : ByteArray) ++ s ++ (⟨#[10]⟩ : ByteArray))) = some ts := by
        have e : L ((⟨#[32]⟩ : ByteArray) ++ s ++ (⟨#[10]⟩ : ByteArray)) = 32 :: (L s ++ 10 :: []) := by rw [L_append, L_append]; rfl
        rw [e, T_cons, if_pos (by decide), T_sep (by decide) [] (L s).length (L s) (Nat.le_refl _), hT, T_nil]; simp
      have hTK : TK ((⟨#[32]⟩ : ByteArray) ++ s ++ (⟨#[10]⟩ : ByteArray)) = (ts.map ba, true) := by
        unfold TK TKl; rw [if_neg (by omega), hTT]; simp
      rw [hTK]; simp only [if_true]
      rw [same_ok _ (by omega) (by omega)]; rfl

end Go.Proofs.Ytnjmmkbbckpobaa.Pure
namespace Go.Proofs.Ytnjmmkbbckpobaa.PrintWords
open Go Go.ChangeShapes Go.WideShapes
/-- The printed row asks for this word under this name. -/
theorem sized_ints {H : Type} {enc : TypeId × Value → H} {P : Program} {W : World} {base : Nat} {spare : Nat → Bool} {held : Bool} {t e : TypeId} {k : IntKind} {a : Option Addr} {len cap : Nat} {d : DataW H} {ps : List MemPlace} {ts : List TypeId} {ds : List (DataW H)} {j : Nat}
    (hsz : (DataW.weightsEach P ts ds).all (· ≤ reachBytes) = true) (ht : ts[j]? = some t) (hd : ds[j]? = some d) (hu : P.underlying t = some (.slice e)) (he : P.underlying e = some (.int k)) (hc : P.cellsOf e = 1) {B : Nat} (hB : P.bytesOf e = B)
    (h : DataW.Trod enc P W base spare held t (.slice a len cap) d ps) : len * B ≤ 140737488351232 :=
  Go.Proofs.YtnjmmkbbckpobaaW.PrintWords.sized_ints hsz ht hd hu he hc hB h
end Go.Proofs.Ytnjmmkbbckpobaa.PrintWords
