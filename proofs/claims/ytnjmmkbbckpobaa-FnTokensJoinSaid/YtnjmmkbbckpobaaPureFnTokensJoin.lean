/- The law FnTokensJoin, 'Texts are joined', answers true for every input: what the program's functions compute is shown to answer it; conditions: none beyond the given statement's own. -/
import Derived.Test.YtnjmmkbbckpobaaGiven
import Derived.Test.YtnjmmkbbckpobaaToks
import Derived.Test.YtnjmmkbbckpobaaLinkC
import Derived.Test.YtnjmmkbbckpobaaQx14
import Derived.Test.YtnjmmkbbckpobaaWSized
namespace Go.Proofs.Ytnjmmkbbckpobaa.Pure
open Go.Proofs.Ytnjmmkbbckpobaa.Given
open Go.Proofs.Ytnjmmkbbckpobaa.Toks
open Go.Proofs.Ytnjmmkbbckpobaa.Link
open Go Go.RowKit Go.Proofs.Ytnjmmkbbckpobaa.Q Go.Proofs.YtnjmmkbbckpobaaW.PrintWords Go.Proofs.YtnjmmkbbckpobaaW.PrintLast Go.Proofs.YtnjmmkbbckpobaaW.PrintMore
set_option linter.unusedVariables false
set_option linter.unusedSimpArgs false

theorem map_L_ba (ts : List (List UInt8)) : (ts.map ba).map L = ts := by
  rw [List.map_map]
  have : (L ∘ ba) = id := by funext l; exact L_ba l
  rw [this, List.map_id]
theorem map_ba_L (l : List ByteArray) : (l.map L).map ba = l := by
  rw [List.map_map]
  have : (ba ∘ L) = id := by funext s; exact ba_L s
  rw [this, List.map_id]
theorem join_le (ts : List (List UInt8)) : (Lib.join ts [32]).length ≤ (ts.map List.length).sum + ts.length := by
  cases ts with
  | nil => simp [Lib.join, List.intercalate]
  | cons t ts => have := join_len (t :: ts) (by simp); omega
/-- Valid tokens are read back from their text. -/
theorem TK_TT {l : List ByteArray} (hv : ∀ t ∈ l, valid (L t) = true) (hs : (TT l).size ≤ 20000) : TK (TT l) = (l, true) := by
  have ha : l.all (fun t => valid (L t)) = true := List.all_eq_true.mpr hv
  have e : TT l = ba (Lib.join (l.map L) [32]) := by unfold TT; rw [if_pos ha]
  rw [e] at hs ⊢
  unfold TK TKl
  rw [if_neg (by omega), L_ba, T_join _ (fun t ht => by
    obtain ⟨u, hu, rfl⟩ := List.mem_map.mp ht
    exact hv u hu)]
  simp only [List.nil_append, map_ba_L]
theorem ba_nil_eq : ((ba []).toList == ([] : List UInt8)) = true := by rw [Lib.toList_data]; rfl

theorem FnTokensJoin : laws_FnTokensJoin.Pure := by
  intro l0 l1 _ _ hw _ _ hw1
  obtain ⟨K, hK⟩ : ∃ K : Nat, 90000 ≤ K := ⟨90000, Nat.le_refl _⟩
  refine ⟨K + 4, ?_⟩
  have main : laws_FnTokensJoin.j0 (K + 4) l0 l1 false = some true := by
    rw [laws_FnTokensJoin.j0, if_neg (by decide)]
    obtain ⟨s, es, hs⟩ := drawTokens_ok hw (k := K + 3) (by omega)
    rw [es]; simp only [Option.bind_some]
    rw [implTokens_ok s (by omega), specTokens_ok s (by omega)]; simp only [Option.bind_some]
    rw [bne_self_eq_false, if_neg (by decide)]
    rcases TK_cases s with h | ⟨ts, hT, h, hs2, hv, hsum, hlen⟩
    · rw [h]; simp only
      rw [same_ok [] (by simp) (by simp)]; simp only [Option.bind_some, if_true]
      rw [laws_FnTokensJoin.j1, if_pos (by decide), if_pos (by decide), same_ok [] (by simp) (by simp)]; rfl
    · rw [h]; simp only
      have hml : (ts.map ba).length = ts.length := List.length_map _
      rw [same_ok _ (by omega) (by omega)]; simp only [Option.bind_some, if_true]
      obtain ⟨t, et, ht⟩ := drawTokens_ok hw1 (k := K + 2) (by omega)
      rw [laws_FnTokensJoin.j1, if_neg (by decide), et]; simp only [Option.bind_some]
      rw [implTokens_ok t (by omega)]; simp only [Option.bind_some]
      rcases TK_cases t with h' | ⟨us, hU, h', ht2, hv2, hsum2, hlen2⟩
      · rw [h']; simp only [Bool.false_eq_true, if_false]
        rw [laws_FnTokensJoin.j2, if_pos rfl]
      · rw [h']; simp only [if_true]
        have hml2 : (us.map ba).length = us.length := List.length_map _
        rw [show wrap64 ((s.size : Int) + (t.size : Int)) = (s.size : Int) + (t.size : Int) by (unfold wrap64; omega), laws_FnTokensJoin.j2]
        split
        · rfl
        · rename_i hz
          have hz2 : ¬ ((s.size : Int) + (t.size : Int) ≥ 20000) := by simpa using hz
          have e1 : (s ++ (⟨#[32]⟩ : ByteArray)).size = s.size + 1 := ByteArray.size_append
          have e2 : (s ++ (⟨#[32]⟩ : ByteArray) ++ t).size = s.size + 1 + t.size := by rw [ByteArray.size_append, e1]
          have hTT : T (L (s ++ (⟨#[32]⟩ : ByteArray) ++ t)) = some (ts ++ us) := by
            have e : L (s ++ (⟨#[32]⟩ : ByteArray) ++ t) = L s ++ 32 :: L t := by rw [L_append, L_append, List.append_assoc]; rfl
            rw [e, T_sep (by decide) (L t) (L s).length (L s) (Nat.le_refl _), hT, hU]; rfl
          have hTK : TK (s ++ (⟨#[32]⟩ : ByteArray) ++ t) = ((ts ++ us).map ba, true) := by
            unfold TK TKl; rw [if_neg (by omega), hTT]; simp
          rw [if_pos (by omega), if_pos (by omega), implTokens_ok _ (by omega), hTK]; simp only [Option.bind_some, if_true]
          rw [if_pos (by simp only [List.length_nil]; omega)]; simp only [Option.bind_some, List.nil_append]
          rw [if_pos (by omega), List.map_append, same_ok _ (by rw [List.length_append]; omega) (by rw [List.length_append]; omega)]; rfl
  unfold laws_FnTokensJoin.f
  split
  · rw [laws_FnTokensJoin.j0, if_pos rfl]
  · by_cases h1 : (l1.length : Int) > 1048576
    · rw [decide_eq_true h1, laws_FnTokensJoin.j0, if_pos rfl]
    · rw [decide_eq_false h1]; exact main

end Go.Proofs.Ytnjmmkbbckpobaa.Pure
namespace Go.Proofs.Ytnjmmkbbckpobaa.PrintWords
open Go Go.ChangeShapes Go.WideShapes
/-- The printed row asks for this word under this name. -/
theorem sized_ints {H : Type} {enc : TypeId × Value → H} {P : Program} {W : World} {base : Nat} {spare : Nat → Bool} {held : Bool} {t e : TypeId} {k : IntKind} {a : Option Addr} {len cap : Nat} {d : DataW H} {ps : List MemPlace} {ts : List TypeId} {ds : List (DataW H)} {j : Nat}
    (hsz : (DataW.weightsEach P ts ds).all (· ≤ reachBytes) = true) (ht : ts[j]? = some t) (hd : ds[j]? = some d) (hu : P.underlying t = some (.slice e)) (he : P.underlying e = some (.int k)) (hc : P.cellsOf e = 1) {B : Nat} (hB : P.bytesOf e = B)
    (h : DataW.Trod enc P W base spare held t (.slice a len cap) d ps) : len * B ≤ 140737488351232 :=
  Go.Proofs.YtnjmmkbbckpobaaW.PrintWords.sized_ints hsz ht hd hu he hc hB h
end Go.Proofs.Ytnjmmkbbckpobaa.PrintWords
