/- The law FnExactTokens, 'The program's Tokens returns what the reference's returns, for all arguments', answers true for every input: what the program's functions compute is shown to answer it; conditions: none beyond the given statement's own. -/
import Derived.Test.YtnjmmkbbckpobaaToks
import Derived.Test.YtnjmmkbbckpobaaLinkB
import Derived.Test.YtnjmmkbbckpobaaQx5
namespace Go.Proofs.Ytnjmmkbbckpobaa.Pure
open Go.Proofs.Ytnjmmkbbckpobaa.Toks
open Go.Proofs.Ytnjmmkbbckpobaa.Link
open Go Go.RowKit Go.Proofs.Ytnjmmkbbckpobaa.Q Go.Proofs.YtnjmmkbbckpobaaW.PrintWords Go.Proofs.YtnjmmkbbckpobaaW.PrintLast Go.Proofs.YtnjmmkbbckpobaaW.PrintMore
set_option linter.unusedVariables false
set_option linter.unusedSimpArgs false

theorem strOfNums_size_ (xs : List Int) : (strOfNums xs).size = xs.length := by
  unfold strOfNums
  rw [← L_len]; simp [L]

theorem markText_l : ∀ (d : Nat) {k : Nat} {n : Int} (acc : ByteArray), 0 ≤ n → n < 10 ^ d → d ≤ 12 → d < k → acc.size + d ≤ 1000 → ∃ r, laws_markText.l0 k n acc = some r := by
  intro d
  induction d with
  | zero =>
    intro k n acc h0 h1 _ hk ha
    obtain ⟨k, rfl⟩ : ∃ m, k = m + 1 := ⟨k - 1, by omega⟩
    rw [laws_markText.l0, if_neg (by simp at h1; omega), if_pos (by omega)]
    exact ⟨_, rfl⟩
  | succ d ih =>
    intro k n acc h0 h1 hd hk ha
    obtain ⟨k, rfl⟩ : ∃ m, k = m + 1 := ⟨k - 1, by omega⟩
    rw [laws_markText.l0]
    by_cases h : n > 0
    · have hp : (10 : Int) ^ (d + 1) ≤ 10 ^ 12 := by
        have e1 : ((10 : Int) ^ (d + 1)) = ((10 ^ (d + 1) : Nat) : Int) := by simp
        rw [e1]; exact_mod_cast Nat.pow_le_pow_right (by decide) (by omega)
      have hs : (10 : Int) ^ (d + 1) = 10 ^ d * 10 := Int.pow_succ 10 d
      have e : wrap64 (Int.tdiv n 10) = n / 10 := by rw [Int.tdiv_eq_ediv_of_nonneg h0]; unfold wrap64; omega
      rw [if_pos h, e]; simp only [Option.bind_some]
      have h2 : (strOfNums ([(wrap64 (48 + (Int.tmod n 10))) % 256] : List Int)).size = 1 := by rw [strOfNums_size_]; rfl
      rw [if_pos (by omega)]
      exact ih (k := k) _ (by omega) (by omega) (by omega) (by omega) (by rw [ByteArray.size_append]; omega)
    · rw [if_neg h, if_pos (by omega)]; exact ⟨_, rfl⟩
/-- The mark of a number. -/
theorem mark_ok (n : Int) (h0 : 1 ≤ n) (h1 : n ≤ 30000) : ∃ r, ∀ k, 20 ≤ k → laws_markText.f k n = some r := by
  obtain ⟨r, hr⟩ := markText_l 5 (k := 20) (n := n) (⟨#[]⟩ : ByteArray) (by omega) (by omega) (by omega) (by omega) (by decide)
  refine ⟨r, fun k hk => ?_⟩
  have h20 : laws_markText.f 20 n = some r := by unfold laws_markText.f; rw [if_neg (by omega)]; exact hr
  exact at_rounds (fun k => laws_markText.mono n k) hk h20
noncomputable def mk_ (n : Int) : ByteArray := Classical.epsilon fun r => ∀ k, 20 ≤ k → laws_markText.f k n = some r
theorem mk_ok {n : Int} (h0 : 1 ≤ n) (h1 : n ≤ 30000) {k : Nat} (hk : 20 ≤ k) : laws_markText.f k n = some (mk_ n) :=
  Classical.epsilon_spec (mark_ok n h0 h1) k hk
noncomputable def marks (n : Nat) : List ByteArray := (List.range n).map fun (j : Nat) => mk_ ((j : Int) + 1)
theorem marks_len (n : Nat) : (marks n).length = n := by simp [marks]
theorem marks_get {n i : Nat} (h : i < n) : (marks n)[i]'(by rw [marks_len]; exact h) = mk_ ((i : Int) + 1) := by simp [marks]
theorem markS_l {N : Nat} (hN : N ≤ 20000) {k : Nat} : ∀ (d i : Nat) (l : List ByteArray), l.length = N → N - i = d → i ≤ N → l.take i = (marks N).take i → d + 25 ≤ k →
    laws_markStringS.l0 k l ((i : Int) + 1) i = some ((N : Int) + 1, marks N) := by
  induction k with
  | zero => intro d i l _ _ _ _ h; omega
  | succ k ih =>
    intro d i l hl hd hi ht hk
    rw [laws_markStringS.l0]
    by_cases h : i < N
    · have e : wrap64 ((i : Int) + 1) = ((i + 1 : Nat) : Int) := by unfold wrap64; omega
      have e2 : wrap64 ((i : Int) + 1 + 1) = ((i + 1 : Nat) : Int) + 1 := by unfold wrap64; omega
      have q : ((i : Int)).toNat = i := by omega
      rw [if_pos (by omega), mk_ok (by omega) (by omega) (by omega)]; simp only [Option.bind_some]
      rw [if_pos (by omega), e, e2, q]
      refine ih (d - 1) (i + 1) _ (by rw [List.length_set]; exact hl) (by omega) (by omega) ?_ (by omega)
      have hm : i < (marks N).length := by rw [marks_len]; exact h
      rw [List.take_succ_eq_append_getElem (by rw [List.length_set]; omega), List.take_succ_eq_append_getElem hm, List.getElem_set_self, marks_get h, List.take_set_of_le (by omega), ht]
    · have : i = N := by omega
      subst this
      rw [if_neg (by omega)]
      rw [List.take_of_length_le (by omega), List.take_of_length_le (by rw [marks_len]; omega)] at ht
      rw [ht]
theorem heldS_l {N : Nat} (hN : N ≤ 20000) {k : Nat} : ∀ (d i : Nat), N - i = d → i ≤ N → d + 25 ≤ k →
    laws_heldStringS.l0 k (marks N) ((i : Int) + 1) i = some ((N : Int) + 1) := by
  have hm := marks_len N
  induction k with
  | zero => intro d i _ _ h; omega
  | succ k ih =>
    intro d i hd hi hk
    rw [laws_heldStringS.l0]
    by_cases h : i < N
    · have e : wrap64 ((i : Int) + 1) = ((i + 1 : Nat) : Int) := by unfold wrap64; omega
      have e2 : wrap64 ((i : Int) + 1 + 1) = ((i + 1 : Nat) : Int) + 1 := by unfold wrap64; omega
      rw [if_pos (by omega), if_pos (by omega), mk_ok (by omega) (by omega) (by omega)]; simp only [Option.bind_some]
      rw [rdOf_get (by omega), marks_get h, if_pos rfl, e, e2]
      exact ih (d - 1) (i + 1) (by omega) (by omega) (by omega)
    · have : i = N := by omega
      subst this
      rw [if_neg (by omega)]
theorem TK_len (s : ByteArray) : (TK s).1.length ≤ 20000 := by
  rcases TK_cases s with h | ⟨ts, _, h, h1, _, _, h2⟩
  · rw [h]; simp
  · rw [h]; simp; omega
theorem FnExactTokens : laws_FnExactTokens.Pure := by
  intro s _
  refine ⟨60000, ?_⟩
  unfold laws_FnExactTokens.f
  split
  · rfl
  rw [specTokens_ok s (by omega), implTokens_ok s (by omega)]; simp only [Option.bind_some]
  have hl := TK_len s
  rw [eqS_ok _ (by omega) (by omega)]; simp only [Option.bind_some, if_true]
  rw [bne_self_eq_false, laws_FnExactTokens.j0, if_neg (by decide)]
  unfold laws_markStringS.f laws_heldStringS.f
  have m1 := markS_l (N := (TK s).1.length) hl (k := 59999) (TK s).1.length 0 (TK s).1 rfl (by omega) (by omega) (by simp) (by omega)
  have h1 : ∀ k, 30000 ≤ k → laws_heldStringS.l0 k (marks (TK s).1.length) 1 0 = some (((TK s).1.length : Int) + 1) := fun k hk =>
    heldS_l (N := (TK s).1.length) hl (k := k) (TK s).1.length 0 (by omega) (by omega) (by omega)
  have m2 : laws_markStringS.l0 59999 (TK s).1 1 0 = some (((TK s).1.length : Int) + 1, marks (TK s).1.length) := m1
  rw [m2]; simp only [Option.bind_some]
  rw [h1 _ (by omega)]; simp only [Option.bind_some, if_true]
  rw [if_neg (by omega), implTokens_ok s (by omega)]; simp only [Option.bind_some]
  rw [eqS_ok _ (by omega) (by omega)]; simp only [Option.bind_some, if_true]
  rw [bne_self_eq_false, laws_FnExactTokens.j1, if_neg (by decide)]
  unfold laws_heldStringS.f
  rw [h1 _ (by omega)]; simp only [Option.bind_some]
  rw [if_neg (by omega), if_pos trivial]

end Go.Proofs.Ytnjmmkbbckpobaa.Pure
