/- The law FnTokensLength, 'A space stands between tokens', answers true for every input: what the program's functions compute is shown to answer it; conditions: none beyond the given statement's own. -/
import Derived.Test.YtnjmmkbbckpobaaGiven
import Derived.Test.YtnjmmkbbckpobaaToks
import Derived.Test.YtnjmmkbbckpobaaLinkC
import Derived.Test.YtnjmmkbbckpobaaQx15
import Derived.Test.YtnjmmkbbckpobaaWSized
namespace Go.Proofs.Ytnjmmkbbckpobaa.Pure
open Go.Proofs.Ytnjmmkbbckpobaa.Given
open Go.Proofs.Ytnjmmkbbckpobaa.Toks
open Go.Proofs.Ytnjmmkbbckpobaa.Link
open Go Go.RowKit Go.Proofs.Ytnjmmkbbckpobaa.Q Go.Proofs.YtnjmmkbbckpobaaW.PrintWords Go.Proofs.YtnjmmkbbckpobaaW.PrintLast Go.Proofs.YtnjmmkbbckpobaaW.PrintMore
set_option linter.unusedVariables false
set_option linter.unusedSimpArgs false

theorem map_L_ba (ts : List (List UInt8)) : (ts.map ba).map L = ts := by
  rw [List.map_map]
  have : (L ∘ ba) = id := by funext l; exact L_ba l
  rw [this, List.map_id]
theorem map_ba_L (l : List ByteArray) : (l.map L).map ba = l := by
  rw [List.map_map]
  have : (ba ∘ L) = id := by funext s; exact ba_L s
  rw [this, List.map_id]
theorem join_le (ts : List (List UInt8)) : (Lib.join ts [32]).length ≤ (ts.map List.length).sum + ts.length := by
  cases ts with
  | nil => simp [Lib.join, List.intercalate]
  | cons t ts => have := join_len (t :: ts) (by simp); omega
/-- Valid tokens are read back from their text. -/
theorem TK_TT {l : List ByteArray} (hv : ∀ t ∈ l, valid (L t) = true) (hs : (TT l).size ≤ 20000) : TK (TT l) = (l, true) := by
  have ha : l.all (fun t => valid (L t)) = true := List.all_eq_true.mpr hv
  have e : TT l = ba (Lib.join (l.map L) [32]) := by unfold TT; rw [if_pos ha]
  rw [e] at hs ⊢
  unfold TK TKl
  rw [if_neg (by omega), L_ba, T_join _ (fun t ht => by
    obtain ⟨u, hu, rfl⟩ := List.mem_map.mp ht
    exact hv u hu)]
  simp only [List.nil_append, map_ba_L]
theorem ba_nil_eq : ((ba []).toList == ([] : List UInt8)) = true := by rw [Lib.toList_data]; rfl

theorem len_l {l : List ByteArray} (h9 : l.length ≤ 9) (h20 : ∀ t ∈ l, t.size ≤ 20) (s : ByteArray) {k : Nat} : ∀ (d i : Nat) (m : Nat), l.length - i = d → i ≤ l.length → m ≤ 30 * i + 10 → d < k →
    laws_FnTokensLength.l0 k l s (m : Int) i = some ((s.size : Int) == ((m + ((l.drop i).map ByteArray.size).sum : Nat) : Int)) := by
  induction k with
  | zero => intro d i m _ _ _ h; omega
  | succ k ih =>
    intro d i m hd hi hm hk
    rw [laws_FnTokensLength.l0]
    by_cases h : i < l.length
    · have h1 := h20 _ (List.getElem_mem h)
      have e : wrap64 ((i : Int) + 1) = ((i + 1 : Nat) : Int) := by unfold wrap64; omega
      have e2 : wrap64 ((m : Int) + (l[i].size : Int)) = ((m + l[i].size : Nat) : Int) := by unfold wrap64; omega
      rw [if_pos (by omega), if_pos (by omega), rdOf_get h, e, e2, ih (d - 1) (i + 1) _ (by omega) (by omega) (by omega) (by omega)]
      rw [List.drop_eq_getElem_cons h, List.map_cons, List.sum_cons, Nat.add_assoc]
    · rw [if_neg (by omega), List.drop_eq_nil_of_le (by omega)]; simp
theorem FnTokensLength : laws_FnTokensLength.Pure := by
  intro l0 _ _ hw
  refine ⟨60000, ?_⟩
  unfold laws_FnTokensLength.f
  split
  · rfl
  obtain ⟨l, el, h9, h20⟩ := drawTexts_ok hw (k := 60000) (by omega)
  have hfun : (List.length ∘ L) = ByteArray.size := by funext t; exact L_len t
  have hsum : ((l.map L).map List.length).sum ≤ 20 * l.length := by
    rw [List.map_map]
    clear el h9
    induction l with
    | nil => simp
    | cons t l ih =>
      have h1 := h20 t List.mem_cons_self
      have h2 := ih (fun u hu => h20 u (List.mem_cons_of_mem _ hu))
      have h3 : ((List.length ∘ L) t) = t.size := L_len t
      rw [List.map_cons, List.sum_cons, List.length_cons, h3]; omega
  have hj := join_le (l.map L)
  rw [List.length_map] at hj
  rw [el]; simp only [Option.bind_some]
  rw [implText_ok (fun t ht => by have := h20 t ht; omega) (by omega) (by omega) (by omega), specText_ok (K0 := 20) h20 (by omega) (by omega) (by omega) (by omega)]; simp only [Option.bind_some, if_true]
  rw [laws_FnTokensLength.j0]
  by_cases hall : l.all (fun t => valid (L t)) = true
  · split
    · simp
    · rename_i hne
      have ht : TT l = ba (Lib.join (l.map L) [32]) := by unfold TT; rw [if_pos hall]
      have hl : l ≠ [] := by intro q; subst q; exact hne (by rw [ht]; exact ba_nil_eq)
      have hpos : 0 < l.length := List.length_pos_iff.mpr hl
      have hjl := join_len (l.map L) (by simpa using hl)
      rw [List.map_map, hfun, List.length_map] at hjl
      have e : wrap64 ((l.length : Int) - 1) = ((l.length - 1 : Nat) : Int) := by unfold wrap64; omega
      have hm := len_l h9 h20 (TT l) (k := 59999) l.length 0 (l.length - 1) (by omega) (by omega) (by omega) (by omega)
      rw [show ((0 : Nat) : Int) = 0 from rfl, List.drop_zero] at hm
      rw [e, hm, ht, ba_size]
      congr 1
      rw [beq_iff_eq]
      omega
  · have : TT l = ba [] := by unfold TT; rw [if_neg hall]
    rw [this, if_pos ba_nil_eq]; simp

end Go.Proofs.Ytnjmmkbbckpobaa.Pure
namespace Go.Proofs.Ytnjmmkbbckpobaa.PrintWords
open Go Go.ChangeShapes Go.WideShapes
/-- The printed row asks for this word under this name. -/
theorem sized_ints {H : Type} {enc : TypeId × Value → H} {P : Program} {W : World} {base : Nat} {spare : Nat → Bool} {held : Bool} {t e : TypeId} {k : IntKind} {a : Option Addr} {len cap : Nat} {d : DataW H} {ps : List MemPlace} {ts : List TypeId} {ds : List (DataW H)} {j : Nat}
    (hsz : (DataW.weightsEach P ts ds).all (· ≤ reachBytes) = true) (ht : ts[j]? = some t) (hd : ds[j]? = some d) (hu : P.underlying t = some (.slice e)) (he : P.underlying e = some (.int k)) (hc : P.cellsOf e = 1) {B : Nat} (hB : P.bytesOf e = B)
    (h : DataW.Trod enc P W base spare held t (.slice a len cap) d ps) : len * B ≤ 140737488351232 :=
  Go.Proofs.YtnjmmkbbckpobaaW.PrintWords.sized_ints hsz ht hd hu he hc hB h
end Go.Proofs.Ytnjmmkbbckpobaa.PrintWords
