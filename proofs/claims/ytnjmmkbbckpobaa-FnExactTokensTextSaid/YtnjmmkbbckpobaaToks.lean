/- The plain law of tokens: what a text's tokens are, that blanks part texts, that an unknown byte is noticed, that tokens are valid and are read back from their text; of lists of bytes alone, for all of them. -/
import Derived.Test.YtnjmmkbbckpobaaGiven
namespace Go.Proofs.Ytnjmmkbbckpobaa.Toks
open Go Go.RowKit Go.Proofs.Ytnjmmkbbckpobaa.Given
set_option linter.unusedVariables false
set_option linter.unusedSimpArgs false

/-- Do two bytes that are a symbol stand in front? -/
def two (l : List UInt8) : Bool := l.take 2 == [61, 61] || (l.take 2 == [60, 60] || l.take 2 == [62, 62])
/-- Does a byte that is a symbol stand in front? -/
def sym (c : UInt8) : Bool := [124, 94, 38, 60, 43, 45, 42, 47, 37, 40, 41, 123, 125, 61, 59].contains c
def one : List UInt8 → Bool
  | [] => false
  | c :: _ => sym c
/-- The length of the token in front of a text, 0 if there is none. -/
def tokN (l : List UInt8) : Nat :=
  if 0 < run dig l then run dig l else if 0 < run let_ l then run let_ l else if two l = true then 2 else if one l = true then 1 else 0
def isBlank (c : UInt8) : Bool := c == 32 || c == 10

theorem hasPrefix_two (l : List UInt8) (a : UInt8) : Lib.hasPrefix l [a, a] = (l.take 2 == [a, a]) := by
  unfold Lib.hasPrefix
  cases l with
  | nil => rfl
  | cons x l =>
    cases l with
    | nil => simp [List.isPrefixOf]
    | cons y l =>
      have e : ∀ u v : UInt8, (u == v) = (v == u) := fun u v => by
        by_cases h : u = v
        · subst h; rfl
        · have h2 : ¬ v = u := fun q => h q.symm
          rw [beq_eq_false_iff_ne.mpr h, beq_eq_false_iff_ne.mpr h2]
      show (a == x && (a == y && true)) = (x == a && (y == a && true))
      rw [e a x, e a y]
theorem indexByte_has (l : List UInt8) (c : UInt8) : 0 ≤ Lib.indexByte l c ↔ l.contains c = true := by
  induction l with
  | nil => simp [Lib.indexByte]
  | cons b l ih =>
    have hge := Lib.indexByte_ge l c
    unfold Lib.indexByte
    by_cases h : b = c
    · subst h; simp
    · have h1 : (b == c) = false := by simpa using h
      have h2 : (c == b) = false := by simpa using (fun e => h e.symm)
      rw [h1]
      simp only [Bool.false_eq_true, if_false]
      rw [List.contains_cons, h2, Bool.false_or, ← ih]
      split
      · rename_i he
        have he' : Lib.indexByte l c = -1 := by simpa using he
        omega
      · rename_i he
        have he' : ¬ Lib.indexByte l c = -1 := by simpa using he
        omega
theorem one_eq (l : List UInt8) : (l ≠ [] ∧ 0 ≤ Lib.indexByte [124, 94, 38, 60, 43, 45, 42, 47, 37, 40, 41, 123, 125, 61, 59] (l.headD 0)) ↔ one l = true := by
  cases l with
  | nil => simp [one]
  | cons c l => rw [indexByte_has]; simp [one, sym]
theorem tokLen_eq (l : List UInt8) : tokLen l = (tokN l : Int) := by
  unfold tokLen tokN two
  rw [hasPrefix_two, hasPrefix_two, hasPrefix_two]
  split
  · rfl
  · split
    · rfl
    · by_cases h : (l.take 2 == [61, 61]) = true ∨ (l.take 2 == [60, 60]) = true ∨ (l.take 2 == [62, 62]) = true
      · have hb : (l.take 2 == [61, 61] || (l.take 2 == [60, 60] || l.take 2 == [62, 62])) = true := by simpa using h
        rw [if_pos h, if_pos hb]; rfl
      · have hb : ¬ (l.take 2 == [61, 61] || (l.take 2 == [60, 60] || l.take 2 == [62, 62])) = true := by simpa using h
        rw [if_neg h, if_neg hb]
        by_cases h1 : one l = true
        · rw [if_pos ((one_eq l).mpr h1), if_pos h1]; rfl
        · rw [if_neg (fun h => h1 ((one_eq l).mp h)), if_neg h1]; rfl

/-! ### a byte that is in no token -/
/-- A byte that stands in no token. -/
def stop (c : UInt8) : Prop := dig c = false ∧ let_ c = false ∧ sym c = false ∧ c ≠ 62
theorem stop_blank {c : UInt8} (h : isBlank c = true) : stop c := by
  have : c = 32 ∨ c = 10 := by simpa [isBlank] using h
  rcases this with h | h <;> subst h <;> exact ⟨by decide, by decide, by decide, by decide⟩
theorem stop_33 : stop 33 := ⟨by decide, by decide, by decide, by decide⟩
theorem run_sep (p : UInt8 → Bool) {b : UInt8} (hb : p b = false) (l m : List UInt8) : run p (l ++ b :: m) = run p l := by
  unfold run
  induction l with
  | nil => simp [List.takeWhile_cons, hb]
  | cons a l ih =>
    rw [List.cons_append, List.takeWhile_cons, List.takeWhile_cons]
    split
    · simp [ih]
    · rfl
theorem two_sep {b : UInt8} (hb : stop b) (l m : List UInt8) : two (l ++ b :: m) = two l := by
  have h61 : b ≠ 61 := by intro h; subst h; exact absurd hb.2.2.1 (by decide)
  have h60 : b ≠ 60 := by intro h; subst h; exact absurd hb.2.2.1 (by decide)
  have h62 := hb.2.2.2
  unfold two
  cases l with
  | nil =>
    cases m with
    | nil => simp [h61, h60, h62]
    | cons y m => simp [h61, h60, h62]
  | cons x l =>
    cases l with
    | nil => simp [h61, h60, h62]
    | cons y l => simp
theorem one_sep {b : UInt8} (hb : stop b) (l m : List UInt8) : one (l ++ b :: m) = one l := by
  cases l with
  | nil => simp [one, hb.2.2.1]
  | cons x l => rfl
theorem tokN_sep {b : UInt8} (hb : stop b) (l m : List UInt8) : tokN (l ++ b :: m) = tokN l := by
  unfold tokN
  rw [run_sep dig hb.1, run_sep let_ hb.2.1, two_sep hb, one_sep hb]
theorem tokN_nil : tokN [] = 0 := by decide
theorem tokN_stop {b : UInt8} (hb : stop b) (m : List UInt8) : tokN (b :: m) = 0 := tokN_sep hb [] m
theorem two_len {l : List UInt8} (h : two l = true) : 2 ≤ l.length := by
  cases l with
  | nil => simp [two] at h
  | cons x l =>
    cases l with
    | nil => simp [two] at h
    | cons y l => simp
theorem tokN_le (l : List UInt8) : tokN l ≤ l.length := by
  have h1 := run_le dig l
  have h2 := run_le let_ l
  unfold tokN
  split
  · exact h1
  · split
    · exact h2
    · split
      · rename_i h; exact two_len h
      · split
        · rename_i h
          cases l with
          | nil => simp [one] at h
          | cons x l => simp
        · omega
theorem run_take (p : UInt8 → Bool) (l : List UInt8) : run p (l.take (run p l)) = run p l := by
  unfold run
  induction l with
  | nil => rfl
  | cons a l ih =>
    rw [List.takeWhile_cons]
    split
    · rename_i h
      simp only [List.length_cons, List.take_succ_cons]
      rw [List.takeWhile_cons, if_pos h, List.length_cons, ih]
    · simp
theorem run_take_zero (p : UInt8 → Bool) {l : List UInt8} (h : run p l = 0) (n : Nat) : run p (l.take n) = 0 := by
  unfold run at *
  cases n with
  | zero => rfl
  | succ n =>
    cases l with
    | nil => rfl
    | cons a l =>
      rw [List.takeWhile_cons] at h
      split at h
      · simp at h
      · rename_i ha
        rw [List.take_succ_cons, List.takeWhile_cons, if_neg ha]; rfl
/-- A token is valid. -/
theorem tokN_take (l : List UInt8) : tokN (l.take (tokN l)) = tokN l := by
  by_cases h1 : 0 < run dig l
  · have e : tokN l = run dig l := by unfold tokN; rw [if_pos h1]
    rw [e]; unfold tokN; rw [run_take, if_pos h1]
  · have z1 : run dig l = 0 := by omega
    by_cases h2 : 0 < run let_ l
    · have e : tokN l = run let_ l := by unfold tokN; rw [if_neg h1, if_pos h2]
      rw [e]; unfold tokN; rw [run_take_zero dig z1, if_neg (by omega), run_take, if_pos h2]
    · have z2 : run let_ l = 0 := by omega
      by_cases h3 : two l = true
      · have e : tokN l = 2 := by unfold tokN; rw [if_neg h1, if_neg h2, if_pos h3]
        have h3' : two (l.take 2) = true := by unfold two at *; rw [List.take_take]; simpa using h3
        rw [e]; unfold tokN; rw [run_take_zero dig z1, if_neg (by omega), run_take_zero let_ z2, if_neg (by omega), if_pos h3']
      · by_cases h4 : one l = true
        · have e : tokN l = 1 := by unfold tokN; rw [if_neg h1, if_neg h2, if_neg h3, if_pos h4]
          cases l with
          | nil => simp [one] at h4
          | cons c l =>
            have h3' : ¬ two [c] = true := by simp [two]
            rw [e]
            show tokN [c] = 1
            have y1 : run dig [c] = 0 := run_take_zero dig z1 1
            have y2 : run let_ [c] = 0 := run_take_zero let_ z2 1
            unfold tokN; rw [y1, if_neg (by omega), y2, if_neg (by omega), if_neg h3', if_pos (show one [c] = true from h4)]
        · have e : tokN l = 0 := by unfold tokN; rw [if_neg h1, if_neg h2, if_neg h3, if_neg h4]
          rw [e]; rfl

/-! ### a text's tokens -/
def toks : Nat → List UInt8 → Option (List (List UInt8))
  | _, [] => some []
  | 0, _ :: _ => none
  | f + 1, c :: l => if isBlank c = true then toks f l else if tokN (c :: l) = 0 then none else (toks f ((c :: l).drop (tokN (c :: l)))).map fun r => (c :: l).take (tokN (c :: l)) :: r
theorem toks_nil (f : Nat) : toks f [] = some [] := by cases f <;> rfl
theorem toks_more : ∀ (f g : Nat) (l : List UInt8), l.length ≤ f → l.length ≤ g → toks f l = toks g l := by
  intro f
  induction f with
  | zero => intro g l h _; rw [List.eq_nil_of_length_eq_zero (by omega : l.length = 0), toks_nil, toks_nil]
  | succ f ih =>
    intro g l hf hg
    cases l with
    | nil => rw [toks_nil, toks_nil]
    | cons c l =>
      cases g with
      | zero => simp at hg
      | succ g =>
        simp only [List.length_cons] at hf hg
        simp only [toks]
        split
        · exact ih g l (by omega) (by omega)
        · split
          · rfl
          · rename_i hz
            rw [ih g _ (by rw [List.length_drop, List.length_cons]; omega) (by rw [List.length_drop, List.length_cons]; omega)]
/-- The tokens of a text, or none. -/
def T (l : List UInt8) : Option (List (List UInt8)) := toks l.length l
theorem T_nil : T [] = some [] := rfl
theorem T_cons (c : UInt8) (l : List UInt8) : T (c :: l) = if isBlank c = true then T l else if tokN (c :: l) = 0 then none else (T ((c :: l).drop (tokN (c :: l)))).map fun r => (c :: l).take (tokN (c :: l)) :: r := by
  unfold T
  rw [List.length_cons, toks]
  split
  · rfl
  · split
    · rfl
    · rename_i hz
      rw [toks_more l.length ((c :: l).drop (tokN (c :: l))).length _ (by rw [List.length_drop, List.length_cons]; omega) (Nat.le_refl _)]
/-- Texts are joined by a isBlank. -/
theorem T_sep {b : UInt8} (hb : isBlank b = true) (m : List UInt8) : ∀ (n : Nat) (l : List UInt8), l.length ≤ n → T (l ++ b :: m) = (T l).bind fun x => (T m).map fun y => x ++ y := by
  have hs := stop_blank hb
  intro n
  induction n with
  | zero =>
    intro l h
    rw [List.eq_nil_of_length_eq_zero (by omega : l.length = 0), List.nil_append, T_cons, if_pos hb, T_nil]
    simp
  | succ n ih =>
    intro l h
    cases l with
    | nil => rw [List.nil_append, T_cons, if_pos hb, T_nil]; simp
    | cons c l =>
      simp only [List.length_cons] at h
      have hle := tokN_le (c :: l)
      have e : tokN (c :: (l ++ b :: m)) = tokN (c :: l) := tokN_sep hs (c :: l) m
      rw [List.cons_append, T_cons, T_cons, e]
      split
      · exact ih l (by omega)
      · split
        · rfl
        · rename_i hz
          have e1 : (c :: (l ++ b :: m)).drop (tokN (c :: l)) = (c :: l).drop (tokN (c :: l)) ++ b :: m := by
            rw [← List.cons_append, List.drop_append_of_le_length hle]
          have e2 : (c :: (l ++ b :: m)).take (tokN (c :: l)) = (c :: l).take (tokN (c :: l)) := by
            rw [← List.cons_append, List.take_append_of_le_length hle]
          rw [e1, e2, ih _ (by rw [List.length_drop, List.length_cons]; omega)]
          cases T ((c :: l).drop (tokN (c :: l))) with
          | none => rfl
          | some x => cases T m <;> simp
/-- A byte that is in no token, and no isBlank, is noticed. -/
theorem T_bad {b : UInt8} (hs : stop b) (hb : isBlank b = false) (m : List UInt8) : ∀ (n : Nat) (l : List UInt8), l.length ≤ n → T (l ++ b :: m) = none := by
  intro n
  induction n with
  | zero =>
    intro l h
    rw [List.eq_nil_of_length_eq_zero (by omega : l.length = 0), List.nil_append, T_cons, if_neg (by simp [hb]), tokN_stop hs, if_pos rfl]
  | succ n ih =>
    intro l h
    cases l with
    | nil => rw [List.nil_append, T_cons, if_neg (by simp [hb]), tokN_stop hs, if_pos rfl]
    | cons c l =>
      simp only [List.length_cons] at h
      have hle := tokN_le (c :: l)
      have e : tokN (c :: (l ++ b :: m)) = tokN (c :: l) := tokN_sep hs (c :: l) m
      rw [List.cons_append, T_cons, e]
      split
      · exact ih l (by omega)
      · split
        · rfl
        · rename_i hz
          have e1 : (c :: (l ++ b :: m)).drop (tokN (c :: l)) = (c :: l).drop (tokN (c :: l)) ++ b :: m := by
            rw [← List.cons_append, List.drop_append_of_le_length hle]
          rw [e1, ih _ (by rw [List.length_drop, List.length_cons]; omega)]; rfl
/-- Is a text a token? -/
def valid (l : List UInt8) : Bool := decide (l ≠ [] ∧ tokN l = l.length)
theorem valid_tokN {l : List UInt8} (h : valid l = true) : l ≠ [] ∧ tokN l = l.length := of_decide_eq_true h
theorem valid_T {l : List UInt8} (h : valid l = true) : T l = some [l] := by
  obtain ⟨h0, h1⟩ := valid_tokN h
  cases l with
  | nil => exact absurd rfl h0
  | cons c l =>
    rw [T_cons]
    have hb : ¬ isBlank c = true := fun hb => by rw [tokN_stop (stop_blank hb)] at h1; simp at h1
    rw [if_neg hb, h1, if_neg (by simp), List.drop_length, List.take_length, T_nil]; rfl
/-- All tokens of a text are valid, and not longer than it. -/
theorem T_valid : ∀ (n : Nat) (l : List UInt8) (ts : List (List UInt8)), l.length ≤ n → T l = some ts → (∀ t ∈ ts, valid t = true) ∧ (ts.map List.length).sum ≤ l.length ∧ ts.length ≤ l.length := by
  intro n
  induction n with
  | zero =>
    intro l ts h ht
    rw [List.eq_nil_of_length_eq_zero (by omega : l.length = 0), T_nil] at ht
    obtain rfl := Option.some.inj ht
    simp
  | succ n ih =>
    intro l ts h ht
    cases l with
    | nil => rw [T_nil] at ht; obtain rfl := Option.some.inj ht; simp
    | cons c l =>
      simp only [List.length_cons] at h
      have hle := tokN_le (c :: l)
      rw [T_cons] at ht
      split at ht
      · obtain ⟨h1, h2, h3⟩ := ih l ts (by omega) ht
        exact ⟨h1, by rw [List.length_cons]; omega, by rw [List.length_cons]; omega⟩
      · split at ht
        · cases ht
        · rename_i hz
          rw [Option.map_eq_some_iff] at ht
          obtain ⟨r, hr, rfl⟩ := ht
          obtain ⟨h1, h2, h3⟩ := ih _ r (by rw [List.length_drop, List.length_cons]; omega) hr
          rw [List.length_drop] at h2 h3
          refine ⟨fun t ht => ?_, ?_, ?_⟩
          · rcases List.mem_cons.mp ht with rfl | ht
            · refine decide_eq_true ⟨fun hn => ?_, ?_⟩
              · have := congrArg List.length hn
                rw [List.length_take] at this; simp at this; omega
              · rw [tokN_take, List.length_take]; omega
            · exact h1 t ht
          · rw [List.map_cons, List.sum_cons, List.length_take]; omega
          · rw [List.length_cons]; omega
/-- Tokens are read back from their text. -/
theorem T_join : ∀ (ts : List (List UInt8)), (∀ t ∈ ts, valid t = true) → T (Lib.join ts [32]) = some ts := by
  intro ts
  induction ts with
  | nil => intro _; rfl
  | cons t ts ih =>
    intro h
    have ht := h t (List.mem_cons_self)
    have hr : ∀ u ∈ ts, valid u = true := fun u hu => h u (List.mem_cons_of_mem _ hu)
    cases ts with
    | nil => rw [Lib.join_one]; exact valid_T ht
    | cons u us =>
      have e : Lib.join (t :: u :: us) [32] = t ++ 32 :: Lib.join (u :: us) [32] := by
        unfold Lib.join; simp [List.intercalate]
      rw [e, T_sep (by decide) _ t.length t (Nat.le_refl _), valid_T ht, ih hr]; rfl
theorem join_len : ∀ (ts : List (List UInt8)), ts ≠ [] → (Lib.join ts [32]).length + 1 = (ts.map List.length).sum + ts.length := by
  intro ts
  induction ts with
  | nil => intro h; exact absurd rfl h
  | cons t ts ih =>
    intro _
    cases ts with
    | nil => rw [Lib.join_one]; simp
    | cons u us =>
      have e : Lib.join (t :: u :: us) [32] = t ++ 32 :: Lib.join (u :: us) [32] := by
        unfold Lib.join; simp [List.intercalate]
      rw [e, List.length_append, List.length_cons, List.map_cons, List.sum_cons, List.length_cons]
      have := ih (by simp)
      omega
end Go.Proofs.Ytnjmmkbbckpobaa.Toks
