/- The law FnTokens, 'Tokens are valid', answers true for every input: what the program's functions compute is shown to answer it; conditions: none beyond the given statement's own. -/
import Derived.Test.YtnjmmkbbckpobaaGiven
import Derived.Test.YtnjmmkbbckpobaaToks
import Derived.Test.YtnjmmkbbckpobaaLinkC
import Derived.Test.YtnjmmkbbckpobaaQx15
import Derived.Test.YtnjmmkbbckpobaaWSized
namespace Go.Proofs.Ytnjmmkbbckpobaa.Pure
open Go.Proofs.Ytnjmmkbbckpobaa.Given
open Go.Proofs.Ytnjmmkbbckpobaa.Toks
open Go.Proofs.Ytnjmmkbbckpobaa.Link
open Go Go.RowKit Go.Proofs.Ytnjmmkbbckpobaa.Q Go.Proofs.YtnjmmkbbckpobaaW.PrintWords Go.Proofs.YtnjmmkbbckpobaaW.PrintLast Go.Proofs.YtnjmmkbbckpobaaW.PrintMore
set_option linter.unusedVariables false
set_option linter.unusedSimpArgs false

theorem map_L_ba (ts : List (List UInt8)) : (ts.map ba).map L = ts := by
  rw [List.map_map]
  have : (L ∘ ba) = id := by funext l; exact L_ba l
  rw [this, List.map_id]
theorem map_ba_L (l : List ByteArray) : (l.map L).map ba = l := by
  rw [List.map_map]
  have : (ba ∘ L) = id := by funext s; exact ba_L s
  rw [this, List.map_id]
theorem join_le (ts : List (List UInt8)) : (Lib.join ts [32]).length ≤ (ts.map List.length).sum + ts.length := by
  cases ts with
  | nil => simp [Lib.join, List.intercalate]
  | cons t ts => have := join_len (t :: ts) (by simp); omega
/-- Valid tokens are read back from their text. -/
theorem TK_TT {l : List ByteArray} (hv : ∀ t ∈ l, valid (L t) = true) (hs : (TT l).size ≤ 20000) : TK (TT l) = (l, true) := by
  have ha : l.all (fun t => valid (L t)) = true := List.all_eq_true.mpr hv
  have e : TT l = ba (Lib.join (l.map L) [32]) := by unfold TT; rw [if_pos ha]
  rw [e] at hs ⊢
  unfold TK TKl
  rw [if_neg (by omega), L_ba, T_join _ (fun t ht => by
    obtain ⟨u, hu, rfl⟩ := List.mem_map.mp ht
    exact hv u hu)]
  simp only [List.nil_append, map_ba_L]
theorem ba_nil_eq : ((ba []).toList == ([] : List UInt8)) = true := by rw [Lib.toList_data]; rfl

theorem all_l {s : ByteArray} (hs : s.size ≤ 20000) {l : List ByteArray} (hv : ∀ t ∈ l, valid (L t) = true) (hz : ∀ t ∈ l, t.size ≤ 20000) (hn : l.length ≤ 20000) {k : Nat} :
    ∀ (d i m : Nat), l.length - i = d → i ≤ l.length → m + ((l.drop i).map ByteArray.size).sum ≤ s.size → d < k → laws_FnTokens.l0 k s l (m : Int) i = some true := by
  induction k with
  | zero => intro d i m _ _ _ h; omega
  | succ k ih =>
    intro d i m hd hi hm hk
    rw [laws_FnTokens.l0]
    by_cases h : i < l.length
    · have hdr : l.drop i = l[i] :: l.drop (i + 1) := List.drop_eq_getElem_cons h
      rw [hdr, List.map_cons, List.sum_cons] at hm
      have h1 := hz _ (List.getElem_mem h)
      have e : wrap64 ((i : Int) + 1) = ((i + 1 : Nat) : Int) := by unfold wrap64; omega
      have e2 : wrap64 ((m : Int) + (l[i].size : Int)) = ((m + l[i].size : Nat) : Int) := by unfold wrap64; omega
      rw [if_pos (by omega), if_pos (by omega), rdOf_get h, implValid_ok (by omega), hv _ (List.getElem_mem h)]; simp only [Option.bind_some, if_true]
      rw [e, e2]
      clear e e2
      exact ih (d - 1) (i + 1) _ (by omega) (by omega) (by omega) (by omega)
    · rw [if_neg (by omega)]
      congr 1
      exact decide_eq_true (by omega)
theorem FnTokens : laws_FnTokens.Pure := by
  intro l0 _ _ hw
  obtain ⟨K, hK⟩ : ∃ K : Nat, 90000 ≤ K := ⟨90000, Nat.le_refl _⟩
  refine ⟨K + 3, ?_⟩
  unfold laws_FnTokens.f
  split
  · rfl
  obtain ⟨s, es, hs⟩ := drawTokens_ok hw (k := K + 3) (by omega)
  rw [es]; simp only [Option.bind_some]
  rw [implTokens_ok s (by omega), specTokens_ok s (by omega)]; simp only [Option.bind_some]
  rw [bne_self_eq_false, if_neg (by decide)]
  rcases TK_cases s with h | ⟨ts, hT, h, hs2, hv, hsum, hlen⟩
  · rw [h]; simp only
    rw [same_ok [] (by simp) (by simp)]; simp only [Option.bind_some, if_true]
    rw [laws_FnTokens.j0, if_pos (by decide), if_pos (by decide), same_ok [] (by simp) (by simp)]; rfl
  · rw [h]; simp only
    have hml : (ts.map ba).length = ts.length := List.length_map _
    have hfun : (ByteArray.size ∘ ba) = List.length := by funext t; exact ba_size t
    have hms : ((ts.map ba).map ByteArray.size).sum = (ts.map List.length).sum := by rw [List.map_map, hfun]
    have hz : ∀ t ∈ ts.map ba, t.size ≤ 20000 := fun t ht => by
      obtain ⟨u, hu, rfl⟩ := List.mem_map.mp ht
      have : u.length ≤ (ts.map List.length).sum := by
        clear hT h hv hlen hsum ht hml hms
        induction ts with
        | nil => cases hu
        | cons a ts ih =>
          rw [List.map_cons, List.sum_cons]
          rcases List.mem_cons.mp hu with rfl | hu
          · omega
          · have := ih hu; omega
      rw [ba_size]; omega
    rw [same_ok _ (by omega) (by omega)]; simp only [Option.bind_some, if_true]
    rw [laws_FnTokens.j0, if_neg (by decide)]
    exact all_l hs2 (fun t ht => by
      obtain ⟨u, hu, rfl⟩ := List.mem_map.mp ht
      rw [L_ba]; exact hv u hu) hz (by omega) (ts.map ba).length 0 0 (by omega) (by omega) (by rw [List.drop_zero]; omega) (by omega)

end Go.Proofs.Ytnjmmkbbckpobaa.Pure
namespace Go.Proofs.Ytnjmmkbbckpobaa.PrintWords
open Go Go.ChangeShapes Go.WideShapes
/-- The printed row asks for this word under this name. -/
theorem sized_ints {H : Type} {enc : TypeId × Value → H} {P : Program} {W : World} {base : Nat} {spare : Nat → Bool} {held : Bool} {t e : TypeId} {k : IntKind} {a : Option Addr} {len cap : Nat} {d : DataW H} {ps : List MemPlace} {ts : List TypeId} {ds : List (DataW H)} {j : Nat}
    (hsz : (DataW.weightsEach P ts ds).all (· ≤ reachBytes) = true) (ht : ts[j]? = some t) (hd : ds[j]? = some d) (hu : P.underlying t = some (.slice e)) (he : P.underlying e = some (.int k)) (hc : P.cellsOf e = 1) {B : Nat} (hB : P.bytesOf e = B)
    (h : DataW.Trod enc P W base spare held t (.slice a len cap) d ps) : len * B ≤ 140737488351232 :=
  Go.Proofs.YtnjmmkbbckpobaaW.PrintWords.sized_ints hsz ht hd hu he hc hB h
end Go.Proofs.Ytnjmmkbbckpobaa.PrintWords
