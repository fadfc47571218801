/- The law FnExactTokensText, 'The program's TokensText returns what the reference's returns, for all arguments', answers true for every input: what the program's functions compute is shown to answer it; conditions: none beyond the given statement's own. -/
import Derived.Test.YtnjmmkbbckpobaaToks
import Derived.Test.YtnjmmkbbckpobaaLinkB
import Derived.Test.YtnjmmkbbckpobaaExactTokensTextWalk
namespace Go.Proofs.Ytnjmmkbbckpobaa.Pure
open Go.Proofs.Ytnjmmkbbckpobaa.Toks
open Go.Proofs.Ytnjmmkbbckpobaa.Link
open Go Go.RowKit Go.Proofs.Ytnjmmkbbckpobaa.Q Go.Proofs.YtnjmmkbbckpobaaW.PrintWords Go.Proofs.YtnjmmkbbckpobaaW.PrintLast Go.Proofs.YtnjmmkbbckpobaaW.PrintMore
set_option linter.unusedVariables false
set_option linter.unusedSimpArgs false

theorem sz_l (l : List ByteArray) (hn : l.length ≤ 1048576) (hs : ∀ s ∈ l, s.size ≤ 9223372036854775807) {k : Nat} : ∀ (d i : Nat) (x : Int), l.length - i = d → i ≤ l.length → 0 ≤ x → x ≤ 1048576 → d < k →
    ∃ v, laws_szStringS.l0 k l x (i : Int) = some v ∧ (v < 0 ∨ ((((l.drop i).map ByteArray.size).sum : Nat) : Int) ≤ x) := by
  induction k with
  | zero => intro d i x _ _ _ _ h; omega
  | succ k ih =>
    intro d i x hd hi h0 h1 hk
    rw [laws_szStringS.l0]
    by_cases h : i < l.length
    · have hb := hs l[i] (List.getElem_mem h)
      have e : wrap64 ((i : Int) + 1) = ((i + 1 : Nat) : Int) := by unfold wrap64; omega
      have e2 : wrap64 (x - (l[i].size : Int)) = x - (l[i].size : Int) := by unfold wrap64; omega
      rw [if_pos (by omega), if_pos (by omega), rdOf_get h, e2, e]
      clear e e2
      by_cases hz : x - (l[i].size : Int) < 0
      · rw [if_pos hz]; exact ⟨_, rfl, .inl (by decide)⟩
      · rw [if_neg hz]
        obtain ⟨v, ev, hv⟩ := ih (d - 1) (i + 1) (x - (l[i].size : Int)) (by omega) (by omega) (by omega) (by omega) (by omega)
        refine ⟨v, ev, hv.imp id fun hle => ?_⟩
        rw [List.drop_eq_getElem_cons h, List.map_cons, List.sum_cons]
        omega
    · rw [if_neg (by omega), List.drop_eq_nil_of_le (by omega)]
      exact ⟨_, rfl, .inr (by simpa using h0)⟩
theorem sz_ok (l : List ByteArray) (hn : l.length ≤ 9223372036854775807) (hs : ∀ s ∈ l, s.size ≤ 9223372036854775807) {k : Nat} (hk : 2000000 ≤ k) :
    ∃ v, laws_szStringS.f k l 1048576 = some v ∧ (v < 0 ∨ (l.length ≤ 1048576 ∧ (l.map ByteArray.size).sum ≤ 1048576)) := by
  unfold laws_szStringS.f
  have e2 : wrap64 (1048576 - (l.length : Int)) = 1048576 - (l.length : Int) := by unfold wrap64; omega
  rw [e2]
  clear e2
  by_cases hz : 1048576 - (l.length : Int) < 0
  · rw [if_pos hz]; exact ⟨_, rfl, .inl (by decide)⟩
  · rw [if_neg hz]
    obtain ⟨v, ev, hv⟩ := sz_l l (by omega) hs (k := k) l.length 0 (1048576 - (l.length : Int)) (by omega) (by omega) (by omega) (by omega) (by omega)
    refine ⟨v, ev, hv.imp id fun hle => ?_⟩
    rw [List.drop_zero] at hle
    exact ⟨by omega, by omega⟩
theorem toS_l (l : List ByteArray) (hn : l.length ≤ 1048576) {k : Nat} : ∀ (d i : Nat) (x : List ByteArray), l.length - i = d → i ≤ l.length → x.length = l.length → (∀ j, j < i → x[j]? = l[j]?) → d < k →
    laws_toStringS.l0 k l x (i : Int) = some l := by
  induction k with
  | zero => intro d i x _ _ _ _ h; omega
  | succ k ih =>
    intro d i x hd hi hx hj hk
    rw [laws_toStringS.l0]
    by_cases h : i < l.length
    · have e : wrap64 ((i : Int) + 1) = ((i + 1 : Nat) : Int) := by unfold wrap64; omega
      have q : ((i : Int)).toNat = i := by omega
      rw [if_pos (by omega), if_pos (by omega), if_pos (by omega), rdOf_get h, q, e]
      clear e
      refine ih (d - 1) (i + 1) _ (by omega) (by omega) (by rw [List.length_set]; exact hx) (fun j hj' => ?_) (by omega)
      rw [List.getElem?_set]
      by_cases hji : i = j
      · subst hji
        rw [if_pos rfl, if_pos (by omega), List.getElem?_eq_getElem h]
      · rw [if_neg hji]
        exact hj j (by omega)
    · rw [if_neg (by omega)]
      congr 1
      refine List.ext_getElem? fun j => ?_
      by_cases hjl : j < i
      · exact hj j hjl
      · rw [List.getElem?_eq_none (by omega), List.getElem?_eq_none (by omega)]
theorem toS_ok (l : List ByteArray) (hn : l.length ≤ 1048576) {k : Nat} (hk : 2000000 ≤ k) : laws_toStringS.f k l = some l := by
  unfold laws_toStringS.f
  rw [if_pos (by omega), if_pos (by omega)]
  exact toS_l l hn l.length 0 _ (by omega) (by omega) (by rw [List.length_replicate]; omega) (fun j hj => by omega) (by omega)
theorem joinTail_len (r : List (List UInt8)) : (Lib.joinTail [32] r).length = (r.map List.length).sum + r.length := by
  induction r with
  | nil => rfl
  | cons x r ih => rw [joinTail_cons, List.length_cons, List.length_append, ih, List.map_cons, List.sum_cons, List.length_cons]; omega
theorem join_len (l : List ByteArray) : (Lib.join (l.map L) [32]).length ≤ (l.map ByteArray.size).sum + l.length := by
  cases l with
  | nil => rw [List.map_nil, Lib.join_nil]; simp
  | cons t l =>
    rw [List.map_cons, Lib.join_cons, List.length_append, joinTail_len, List.map_map, List.map_cons, List.sum_cons, List.length_map, List.length_cons, L_len]
    have e : (List.length ∘ L) = ByteArray.size := by funext s; exact L_len s
    rw [e]
    omega
theorem size_le_sum (l : List ByteArray) : ∀ s ∈ l, s.size ≤ (l.map ByteArray.size).sum := by
  induction l with
  | nil => intro s hs; cases hs
  | cons t l ih =>
    intro s hs
    rw [List.map_cons, List.sum_cons]
    rcases List.mem_cons.mp hs with rfl | hs
    · omega
    · have := ih s hs; omega
theorem FnExactTokensText : laws_FnExactTokensText.Pure := by
  intro l hn hs
  obtain ⟨K, hK⟩ : ∃ K : Nat, 3000000 ≤ K := ⟨3000000, Nat.le_refl _⟩
  refine ⟨K, ?_⟩
  unfold laws_FnExactTokensText.f
  obtain ⟨v, ev, hv⟩ := sz_ok l hn hs (k := K) (by omega)
  rw [ev, Option.bind_some]
  by_cases h : v < 0
  · rw [if_pos h]
  · rw [if_neg h]
    obtain ⟨h1, h2⟩ : l.length ≤ 1048576 ∧ (l.map ByteArray.size).sum ≤ 1048576 := hv.resolve_left h
    have hj := join_len l
    have hv2 : ∀ t ∈ l, t.size ≤ 1048576 := fun t ht => Nat.le_trans (size_le_sum l t ht) h2
    have hT := toS_ok l h1 (k := K) (by omega)
    have hS : spec_TokensText.f K l = some (TT l) := specText_ok (K0 := 1048576) hv2 (by omega) (by omega) (by omega) (by omega)
    have hI : impl_TokensText.f K l = some (TT l) := implText_ok (fun t ht => Nat.le_trans (hv2 t ht) (by decide)) (by omega) (by omega) (by omega)
    have hE : laws_eqStringS.f K l l = some true := eqS_ok l (by omega) (by omega)
    rw [hT, Option.bind_some, hS, Option.bind_some, Option.bind_some, hI, Option.bind_some, if_pos rfl, Option.bind_some, hE, Option.bind_some, if_pos rfl]

end Go.Proofs.Ytnjmmkbbckpobaa.Pure
