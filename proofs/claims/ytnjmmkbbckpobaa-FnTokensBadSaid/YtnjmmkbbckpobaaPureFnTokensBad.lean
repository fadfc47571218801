/- The law FnTokensBad, 'An unknown byte is noticed', answers true for every input: what the program's functions compute is shown to answer it; conditions: none beyond the given statement's own. -/
import Derived.Test.YtnjmmkbbckpobaaGiven
import Derived.Test.YtnjmmkbbckpobaaToks
import Derived.Test.YtnjmmkbbckpobaaLinkC
import Derived.Test.YtnjmmkbbckpobaaQx12
import Derived.Test.YtnjmmkbbckpobaaWSized
namespace Go.Proofs.Ytnjmmkbbckpobaa.Pure
open Go.Proofs.Ytnjmmkbbckpobaa.Given
open Go.Proofs.Ytnjmmkbbckpobaa.Toks
open Go.Proofs.Ytnjmmkbbckpobaa.Link
open Go Go.RowKit Go.Proofs.Ytnjmmkbbckpobaa.Q Go.Proofs.YtnjmmkbbckpobaaW.PrintWords Go.Proofs.YtnjmmkbbckpobaaW.PrintLast Go.Proofs.YtnjmmkbbckpobaaW.PrintMore
set_option linter.unusedVariables false
set_option linter.unusedSimpArgs false

theorem map_L_ba (ts : List (List UInt8)) : (ts.map ba).map L = ts := by
  rw [List.map_map]
  have : (L ∘ ba) = id := by funext l; exact L_ba l
  rw [this, List.map_id]
theorem map_ba_L (l : List ByteArray) : (l.map L).map ba = l := by
  rw [List.map_map]
  have : (ba ∘ L) = id := by funext s; exact ba_L s
  rw [this, List.map_id]
theorem join_le (ts : List (List UInt8)) : (Lib.join ts [32]).length ≤ (ts.map List.length).sum + ts.length := by
  cases ts with
  | nil => simp [Lib.join, List.intercalate]
  | cons t ts => have := join_len (t :: ts) (by simp); omega
/-- Valid tokens are read back from their text. -/
theorem TK_TT {l : List ByteArray} (hv : ∀ t ∈ l, valid (L t) = true) (hs : (TT l).size ≤ 20000) : TK (TT l) = (l, true) := by
  have ha : l.all (fun t => valid (L t)) = true := List.all_eq_true.mpr hv
  have e : TT l = ba (Lib.join (l.map L) [32]) := by unfold TT; rw [if_pos ha]
  rw [e] at hs ⊢
  unfold TK TKl
  rw [if_neg (by omega), L_ba, T_join _ (fun t ht => by
    obtain ⟨u, hu, rfl⟩ := List.mem_map.mp ht
    exact hv u hu)]
  simp only [List.nil_append, map_ba_L]
theorem ba_nil_eq : ((ba []).toList == ([] : List UInt8)) = true := by rw [Lib.toList_data]; rfl

theorem wrap_succ (n : Nat) (h : n ≤ 1000000000) : wrap64 ((n : Int) + 1) = (n : Int) + 1 := by unfold wrap64; omega
theorem lt_K {K : Nat} (h : 90000 ≤ K) : 20000 < K + 2 := by omega
theorem succ_ne (n : Nat) : ¬ ((n : Int) + 1 = 0) := by omega

theorem FnTokensBad : laws_FnTokensBad.Pure := by
  intro l0 l1 _ _ hw _ _ _
  obtain ⟨K, hK⟩ : ∃ K : Nat, 90000 ≤ K := ⟨90000, Nat.le_refl _⟩
  refine ⟨K + 3, ?_⟩
  have main : laws_FnTokensBad.j0 (K + 3) l0 l1 false = some true := by
    rw [laws_FnTokensBad.j0, if_neg (by decide)]
    obtain ⟨s, es, hs⟩ := drawTokens_ok hw (k := K + 2) (by omega)
    rw [es]; simp only [Option.bind_some]
    rw [implTokens_ok s (by omega), specTokens_ok s (by omega)]; simp only [Option.bind_some]
    rw [bne_self_eq_false, if_neg (by decide)]
    rcases TK_cases s with h | ⟨ts, hT, h, hs2, hv, hsum, hlen⟩
    · rw [h]; simp only
      rw [same_ok [] (by simp) (by simp)]; simp only [Option.bind_some, if_true]
      rw [laws_FnTokensBad.j1, if_pos (by decide), if_pos (by decide), same_ok [] (by simp) (by simp)]; rfl
    · rw [h]; simp only
      have hsz : s.size ≤ 1000000000 := by clear h hv; omega
      have hml : (ts.map ba).length = ts.length := List.length_map _
      have hl1 : (ts.map ba).length ≤ 20000 := by clear h hv hsum; omega
      have hsm : laws_sameTexts.f (K + 2) (ts.map ba) (ts.map ba) = some true := same_ok _ (Nat.lt_of_le_of_lt hl1 (lt_K hK)) (Nat.le_trans hl1 (by decide))
      rw [hsm, Option.bind_some, if_pos rfl]
      rw [laws_FnTokensBad.j1, if_neg (by decide), wrap_succ s.size hsz, if_neg (succ_ne s.size)]
      have hc0 := Int.emod_nonneg (l1.length : Int) (b := (s.size : Int) + 1) (by omega)
      have hc1 := Int.emod_lt_of_pos (l1.length : Int) (b := (s.size : Int) + 1) (by omega)
      obtain ⟨c, hc⟩ := Int.eq_ofNat_of_zero_le hc0
      rw [hc] at hc1 ⊢
      have q : ((c : Nat) : Int).toNat = c := by omega
      have e1 : (s.extract 0 c).size = c := by rw [ByteArray.size_extract]; omega
      have e2 : (s.extract c s.size).size = s.size - c := by rw [ByteArray.size_extract]; omega
      have e3 : (s.extract 0 c ++ (⟨#[33]⟩ : ByteArray)).size = c + 1 := by rw [ByteArray.size_append, e1]; rfl
      rw [if_pos (by omega), if_pos (by omega), q, if_pos (by omega), if_pos (by omega), implTokens_ok _ (by omega)]; simp only [Option.bind_some]
      have hTT : T (L (s.extract 0 c ++ (⟨#[33]⟩ : ByteArray) ++ s.extract c s.size)) = none := by
        have e : L (s.extract 0 c ++ (⟨#[33]⟩ : ByteArray) ++ s.extract c s.size) = L (s.extract 0 c) ++ 33 :: L (s.extract c s.size) := by
          rw [L_append, L_append, List.append_assoc]; rfl
        rw [e]; exact T_bad stop_33 (by decide) _ _ _ (Nat.le_refl _)
      have hTK : (TK (s.extract 0 c ++ (⟨#[33]⟩ : ByteArray) ++ s.extract c s.size)).2 = false := by
        unfold TK TKl; rw [hTT]; split <;> rfl
      rw [hTK]; rfl
  unfold laws_FnTokensBad.f
  split
  · rw [laws_FnTokensBad.j0, if_pos rfl]
  · by_cases h1 : (l1.length : Int) > 1048576
    · rw [decide_eq_true h1, laws_FnTokensBad.j0, if_pos rfl]
    · rw [decide_eq_false h1]; exact main

end Go.Proofs.Ytnjmmkbbckpobaa.Pure
namespace Go.Proofs.Ytnjmmkbbckpobaa.PrintWords
open Go Go.ChangeShapes Go.WideShapes
/-- The printed row asks for this word under this name. -/
theorem sized_ints {H : Type} {enc : TypeId × Value → H} {P : Program} {W : World} {base : Nat} {spare : Nat → Bool} {held : Bool} {t e : TypeId} {k : IntKind} {a : Option Addr} {len cap : Nat} {d : DataW H} {ps : List MemPlace} {ts : List TypeId} {ds : List (DataW H)} {j : Nat}
    (hsz : (DataW.weightsEach P ts ds).all (· ≤ reachBytes) = true) (ht : ts[j]? = some t) (hd : ds[j]? = some d) (hu : P.underlying t = some (.slice e)) (he : P.underlying e = some (.int k)) (hc : P.cellsOf e = 1) {B : Nat} (hB : P.bytesOf e = B)
    (h : DataW.Trod enc P W base spare held t (.slice a len cap) d ps) : len * B ≤ 140737488351232 :=
  Go.Proofs.YtnjmmkbbckpobaaW.PrintWords.sized_ints hsz ht hd hu he hc hB h
end Go.Proofs.Ytnjmmkbbckpobaa.PrintWords
