/- The law FnExactExprUses, 'The program's ExprUses returns what the reference's returns, for all arguments', answers true for every input: what the program's functions compute is shown to answer it; conditions: none beyond the given statement's own. -/
import Derived.Test.YtjohbglkocgdjaaExactExprUsesWalk
namespace Go.Proofs.Ytjohbglkocgdjaa.Pure
open Go Go.RowKit Go.Proofs.Ytjohbglkocgdjaa.Q Go.Proofs.YtjohbglkocgdjaaW.PrintWords Go.Proofs.YtjohbglkocgdjaaW.PrintLast Go.Proofs.YtjohbglkocgdjaaW.PrintMore
set_option linter.unusedVariables false
set_option linter.unusedSimpArgs false

theorem w64 {n : Int} (h : -9223372036854775808 ≤ n) (h' : n ≤ 9223372036854775807) : wrap64 n = n := by unfold wrap64; omega
theorem w64_range (n : Int) : -9223372036854775808 ≤ wrap64 n ∧ wrap64 n ≤ 9223372036854775807 := by unfold wrap64; omega
theorem wf64 {n : Int} (h : (Lit.int .i64 n).wf = true) : -9223372036854775808 ≤ n ∧ n ≤ 9223372036854775807 := by
  simpa [Lit.wf, IntKind.min, IntKind.max, IntKind.signed, IntKind.bits] using h
theorem wf8 {n : Int} (h : (Lit.int .u8 n).wf = true) : 0 ≤ n ∧ n ≤ 255 := by
  simpa [Lit.wf, IntKind.min, IntKind.max, IntKind.signed, IntKind.bits] using h
theorem tm_range {x m : Int} (hx : 0 ≤ x) (hm : 0 < m) : 0 ≤ Int.tmod x m ∧ Int.tmod x m < m := by
  rw [Int.tmod_eq_emod_of_nonneg hx]; exact ⟨Int.emod_nonneg _ (by omega), Int.emod_lt_of_pos _ hm⟩
theorem td_range {x m : Int} (hx : 0 ≤ x) (hm : 0 < m) : 0 ≤ Int.tdiv x m ∧ Int.tdiv x m ≤ x := by
  rw [Int.tdiv_eq_ediv_of_nonneg hx]; exact ⟨Int.ediv_nonneg hx (by omega), Int.ediv_le_self _ hx⟩
theorem toInt_wrap (v : BitVec 64) : IntKind.i64.wrap (v.toNat : Int) = v.toInt := by
  rw [IntKind.wrap_i64, BitVec.toInt_eq_toNat_cond]
  have := v.isLt
  split <;> omega
theorem bits_and (x y : Int) : Go.bits .and .i64 x y = (BitVec.ofInt 64 x &&& BitVec.ofInt 64 y).toInt := toInt_wrap _
theorem bits_or (x y : Int) : Go.bits .or .i64 x y = (BitVec.ofInt 64 x ||| BitVec.ofInt 64 y).toInt := toInt_wrap _
theorem bits_xor (x y : Int) : Go.bits .xor .i64 x y = (BitVec.ofInt 64 x ^^^ BitVec.ofInt 64 y).toInt := toInt_wrap _
theorem xor_nonneg {x y : Int} (hx : 0 ≤ x) (hx' : x < 4611686018427387904) (hy : 0 ≤ y) (hy' : y < 4611686018427387904) :
    0 ≤ Go.bits .xor .i64 x y := by
  obtain ⟨a, rfl⟩ := Int.eq_ofNat_of_zero_le hx
  obtain ⟨b, rfl⟩ := Int.eq_ofNat_of_zero_le hy
  have ha : a < 2 ^ 62 := by omega
  have hb : b < 2 ^ 62 := by omega
  have h := Nat.xor_lt_two_pow ha hb
  rw [bits_xor, BitVec.toInt_eq_toNat_cond]
  have e : (BitVec.ofInt 64 (a : Int) ^^^ BitVec.ofInt 64 (b : Int)).toNat = a ^^^ b := by
    rw [BitVec.toNat_xor, BitVec.ofInt_natCast, BitVec.ofInt_natCast, BitVec.toNat_ofNat, BitVec.toNat_ofNat, Nat.mod_eq_of_lt (by omega), Nat.mod_eq_of_lt (by omega)]
  rw [e]
  split <;> omega
theorem rd_bytes {b : List Int} (hb : ∀ x ∈ b, 0 ≤ x ∧ x ≤ 255) (i : Int) : 0 ≤ rd b i ∧ rd b i ≤ 255 := by
  unfold rd
  rw [List.getD_eq_getElem?_getD]
  by_cases h : i.toNat < b.length
  · rw [List.getElem?_eq_getElem h]; exact hb _ (List.getElem_mem h)
  · rw [List.getElem?_eq_none (by omega)]; simp

theorem specOpValid_ok (n : Int) : spec_OpValid.f n = some (decide (1 ≤ n ∧ n ≤ 12)) := by
  unfold spec_OpValid.f spec_l6In.f
  split <;> simp <;> omega

theorem implOpValid_ok (n : Int) : impl_OpValid.f n = some (decide (1 ≤ n ∧ n ≤ 12)) := by
  unfold impl_OpValid.f
  split <;> simp <;> omega

/-- Is a tree valid, with at most some depth? -/
def okD : Nat → Int → Int → List S29 → Bool
  | 0, _, _, _ => false
  | d + 1, op, n, l =>
    if op = 0 then decide (0 ≤ n ∧ n ≤ 99999) && decide (l.length = 0)
    else if op = 13 then decide (0 ≤ n ∧ n ≤ 3) && decide (l.length = 0)
    else decide (1 ≤ op ∧ op ≤ 12) && (decide (n = 0) && (decide (l.length = 2) && (okD d (rd_T29 l 0).f0 (rd_T29 l 0).f1 (rd_T29 l 0).f2 && okD d (rd_T29 l 1).f0 (rd_T29 l 1).f1 (rd_T29 l 1).f2)))
theorem ok_leaf {d : Nat} {op n : Int} {l : List S29} (h : okD d op n l = true) (hl : l.length = 0) : op = 0 ∧ 0 ≤ n ∧ n ≤ 99999 ∨ op = 13 ∧ 0 ≤ n ∧ n ≤ 3 := by
  cases d with
  | zero => simp [okD] at h
  | succ d =>
    simp only [okD] at h
    split at h
    · simp at h; rename_i h0; exact .inl ⟨h0, h.1.1, h.1.2⟩
    · split at h
      · simp at h; rename_i h0; exact .inr ⟨h0, h.1.1, h.1.2⟩
      · simp [hl] at h
theorem ok_parts {d : Nat} {op n : Int} {l : List S29} (h : okD d op n l = true) (hl : l.length ≠ 0) :
    ∃ c, d = c + 1 ∧ (1 ≤ op ∧ op ≤ 12) ∧ n = 0 ∧ l.length = 2 ∧ okD c (rd_T29 l 0).f0 (rd_T29 l 0).f1 (rd_T29 l 0).f2 = true ∧ okD c (rd_T29 l 1).f0 (rd_T29 l 1).f1 (rd_T29 l 1).f2 = true := by
  cases d with
  | zero => simp [okD] at h
  | succ d =>
    simp only [okD] at h
    split at h
    · simp at h; exact absurd (by simp [h.2]) hl
    · split at h
      · simp at h; exact absurd (by simp [h.2]) hl
      · simp at h
        exact ⟨d, rfl, h.1, h.2.1, h.2.2.1, h.2.2.2.1, h.2.2.2.2⟩
theorem ok_more {d : Nat} : ∀ {op n : Int} {l : List S29}, okD d op n l = true → okD (d + 1) op n l = true := by
  induction d with
  | zero => intro op n l h; simp [okD] at h
  | succ d ih =>
    intro op n l h
    rw [okD]; rw [okD] at h
    split at h
    · rename_i h0; rw [if_pos h0]; exact h
    · rename_i h0; rw [if_neg h0]
      split at h
      · rename_i h1; rw [if_pos h1]; exact h
      · rename_i h1; rw [if_neg h1]
        simp only [Bool.and_eq_true] at h ⊢
        exact ⟨h.1, h.2.1, h.2.2.1, ih h.2.2.2.1, ih h.2.2.2.2⟩
theorem ok_le {d e : Nat} (he : d ≤ e) {op n : Int} {l : List S29} (h : okD d op n l = true) : okD e op n l = true := by
  obtain ⟨c, rfl⟩ : ∃ c, e = d + c := ⟨e - d, by omega⟩
  clear he
  induction c with
  | zero => exact h
  | succ c ih => exact ok_more ih

theorem implValid_l {d : Nat} : ∀ {k : Nat} {op n : Int} {l : List S29}, d ≤ 5 → d + 1 ≤ k → impl_exprValid.f k op n l (d : Int) = some (okD d op n l) := by
  induction d with
  | zero =>
    intro k op n l _ hk
    obtain ⟨k, rfl⟩ : ∃ m, k = m + 1 := ⟨k - 1, by omega⟩
    have hz : ¬ (((0 : Nat) : Int) > 1) := by omega
    simp only [impl_exprValid.f, okD, implOpValid_ok, Option.bind_some, if_neg hz]
    repeat' split
    all_goals first | rfl | simp
  | succ d ih =>
    intro k op n l hd hk
    obtain ⟨k, rfl⟩ : ∃ m, k = m + 1 := ⟨k - 1, by omega⟩
    have e : wrap64 (((d + 1 : Nat) : Int) - 1) = (d : Int) := by unfold wrap64; omega
    simp only [impl_exprValid.f, okD]
    rw [e]
    by_cases h0 : op = 0
    · rw [if_pos h0, if_pos h0]
      by_cases hn : n ≥ 0
      · rw [if_pos hn]
        by_cases hm : n ≤ 99999
        · rw [if_pos hm]
          by_cases hl : l.length = 0
          · rw [if_pos (by omega)]; simp [hl]; omega
          · rw [if_neg (by omega), decide_eq_false hl, Bool.and_false]
        · rw [if_neg hm]; simp [hm]
      · rw [if_neg hn]; simp; intro h; omega
    rw [if_neg h0, if_neg h0]
    by_cases h1 : op = 13
    · rw [if_pos h1, if_pos h1]
      by_cases hn : n ≥ 0
      · rw [if_pos hn]
        by_cases hm : n < 4
        · rw [if_pos hm]
          by_cases hl : l.length = 0
          · rw [if_pos (by omega)]; simp [hl]; omega
          · rw [if_neg (by omega), decide_eq_false hl, Bool.and_false]
        · rw [if_neg hm]; simp; omega
      · rw [if_neg hn]; simp; intro h; omega
    rw [if_neg h1, if_neg h1, implOpValid_ok]; simp only [Option.bind_some]
    by_cases h2 : 1 ≤ op ∧ op ≤ 12
    · rw [if_pos (by simpa using h2)]
      by_cases h3 : n = 0
      · rw [if_pos h3]
        by_cases h4 : l.length = 2
        · rw [if_pos (by omega)]
          simp only [h2, h3, h4, and_self, decide_true, Bool.true_and]
          by_cases h5 : ((d + 1 : Nat) : Int) > 1
          · rw [if_pos h5, if_pos (by omega), ih (by omega) (by omega)]; simp only [Option.bind_some]
            by_cases h6 : okD d (rd_T29 l 0).f0 (rd_T29 l 0).f1 (rd_T29 l 0).f2 = true
            · rw [if_pos h6, if_pos (by omega), ih (by omega) (by omega)]; simp [h6]
            · rw [if_neg h6]; simp [h6]
          · rw [if_neg h5]
            have : d = 0 := by omega
            subst this; simp [okD]
        · rw [if_neg (by omega)]; simp [h4]
      · rw [if_neg h3]; simp [h3]
    · rw [if_neg (by simpa using h2)]; simp [h2]
theorem implExprValid_ok {k : Nat} (hk : 6 ≤ k) (op n : Int) (l : List S29) : impl_ExprValid.f k op n l = some (okD 5 op n l) := by
  unfold impl_ExprValid.f
  rw [show (5 : Int) = ((5 : Nat) : Int) from rfl, implValid_l (by omega) (by omega)]; rfl
theorem specValid_l {d : Nat} : ∀ {k : Nat} {op n : Int} {l : List S29}, d ≤ 5 → d + 1 ≤ k → spec_l4Ok.f k op n l (d : Int) = some (okD d op n l) := by
  induction d with
  | zero =>
    intro k op n l _ hk
    obtain ⟨k, rfl⟩ : ∃ m, k = m + 1 := ⟨k - 1, by omega⟩
    simp only [spec_l4Ok.f, okD]
    rw [if_pos (by omega)]
  | succ d ih =>
    intro k op n l hd hk
    obtain ⟨k, rfl⟩ : ∃ m, k = m + 1 := ⟨k - 1, by omega⟩
    have e : wrap64 (((d + 1 : Nat) : Int) - 1) = (d : Int) := by unfold wrap64; omega
    simp only [spec_l4Ok.f, okD]
    rw [e, if_neg (by omega)]
    by_cases h0 : op = 0
    · rw [if_pos h0, if_pos h0]
      unfold spec_l6In.f
      by_cases hn : n ≥ 0
      · rw [if_pos hn]; simp only [Option.bind_some]
        by_cases hm : n ≤ 99999
        · rw [if_pos (by simpa using hm)]
          by_cases hl : l.length = 0
          · simp [hl]; omega
          · have : ((l.length : Int) == 0) = false := by simp; intro h; exact hl (by simp [h])
            rw [this, decide_eq_false hl, Bool.and_false]
        · rw [if_neg (by simpa using hm)]; simp [hm]
      · rw [if_neg hn]; simp; intro h; omega
    rw [if_neg h0, if_neg h0]
    by_cases h1 : op = 13
    · rw [if_pos h1, if_pos h1]
      unfold spec_l6In.f
      by_cases hn : n ≥ 0
      · rw [if_pos hn]; simp only [Option.bind_some]
        by_cases hm : n ≤ 3
        · rw [if_pos (by simpa using hm)]
          by_cases hl : l.length = 0
          · simp [hl]; omega
          · have : ((l.length : Int) == 0) = false := by simp; intro h; exact hl (by simp [h])
            rw [this, decide_eq_false hl, Bool.and_false]
        · rw [if_neg (by simpa using hm)]; simp; omega
      · rw [if_neg hn]; simp; intro h; omega
    rw [if_neg h1, if_neg h1, specOpValid_ok]; simp only [Option.bind_some]
    by_cases h2 : 1 ≤ op ∧ op ≤ 12
    · rw [if_pos (by simpa using h2)]
      by_cases h3 : n = 0
      · rw [if_pos h3]
        by_cases h4 : l.length = 2
        · rw [if_pos (by omega)]
          simp only [h2, h3, h4, and_self, decide_true, Bool.true_and]
          rw [if_pos (by omega), ih (by omega) (by omega)]; simp only [Option.bind_some]
          by_cases h6 : okD d (rd_T29 l 0).f0 (rd_T29 l 0).f1 (rd_T29 l 0).f2 = true
          · rw [if_pos h6, if_pos (by omega), ih (by omega) (by omega)]; simp [h6]
          · rw [if_neg h6]; simp [h6]
        · rw [if_neg (by omega)]; simp [h4]
      · rw [if_neg h3]; simp [h3]
    · rw [if_neg (by simpa using h2)]; simp [h2]
theorem specExprValid_ok {k : Nat} (hk : 6 ≤ k) (op n : Int) (l : List S29) : spec_ExprValid.f k op n l = some (okD 5 op n l) := by
  unfold spec_ExprValid.f
  rw [show (5 : Int) = ((5 : Nat) : Int) from rfl, specValid_l (by omega) (by omega)]; rfl

/-- Does a valid tree use a variable? -/
def usD : Nat → Int → Int → List S29 → Int → Bool
  | 0, _, _, _, _ => false
  | d + 1, op, n, l, v => if l.length = 0 then (if op = 13 then n == v else false) else usD d (rd_T29 l 0).f0 (rd_T29 l 0).f1 (rd_T29 l 0).f2 v || usD d (rd_T29 l 1).f0 (rd_T29 l 1).f1 (rd_T29 l 1).f2 v
theorem specUses_l {d : Nat} : ∀ {k : Nat} {op n : Int} {l : List S29} {v : Int}, d + 1 ≤ k → okD d op n l = true → spec_l4Uses.f k op n l v = some (usD d op n l v) := by
  induction d with
  | zero => intro k op n l v _ h; simp [okD] at h
  | succ d ih =>
    intro k op n l v hk h
    obtain ⟨k, rfl⟩ : ∃ m, k = m + 1 := ⟨k - 1, by omega⟩
    simp only [spec_l4Uses.f, usD]
    by_cases hl : l.length = 0
    · rw [if_pos (by omega), if_pos hl]; split <;> rfl
    · obtain ⟨c, hc, _, _, h2, h3, h4⟩ := ok_parts h hl
      obtain rfl : d = c := by omega
      rw [if_neg (by omega), if_neg hl, if_pos (by omega), ih (by omega) h3]; simp only [Option.bind_some]
      cases usD d (rd_T29 l 0).f0 (rd_T29 l 0).f1 (rd_T29 l 0).f2 v with
      | true => rfl
      | false => rw [if_neg (by decide), if_pos (by omega), ih (by omega) h4]; rfl
theorem implUses_l {d : Nat} : ∀ {k : Nat} {op n : Int} {l : List S29} {v : Int}, 4 * d + 4 ≤ k → okD d op n l = true → impl_exprUses.f k op n l v = some (usD d op n l v) := by
  induction d with
  | zero => intro k op n l v _ h; simp [okD] at h
  | succ d ih =>
    intro k op n l v hk h
    obtain ⟨k, rfl⟩ : ∃ m, k = m + 4 := ⟨k - 4, by omega⟩
    simp only [impl_exprUses.f, usD]
    by_cases hl : l.length = 0
    · rw [if_pos hl]
      by_cases h13 : op = 13
      · rw [if_pos h13, if_pos h13]
      · rw [if_neg h13, if_neg h13, impl_exprUses.l0, if_neg (by omega)]
    · obtain ⟨c, hc, h1, _, h2, h3, h4⟩ := ok_parts h hl
      obtain rfl : d = c := by omega
      have e1 : wrap64 (0 + 1) = 1 := by unfold wrap64; omega
      have e2 : wrap64 (1 + 1) = 2 := by unfold wrap64; omega
      rw [if_neg (by omega), if_neg hl, impl_exprUses.l0, if_pos (by omega), if_pos (by omega), if_pos (by omega), ih (by omega) h3]; simp only [Option.bind_some]
      cases usD d (rd_T29 l 0).f0 (rd_T29 l 0).f1 (rd_T29 l 0).f2 v with
      | true => rfl
      | false =>
        rw [if_neg (by decide), e1, impl_exprUses.l0, if_pos (by omega), if_pos (by omega), if_pos (by omega), ih (by omega) h4]; simp only [Option.bind_some]
        cases usD d (rd_T29 l 1).f0 (rd_T29 l 1).f1 (rd_T29 l 1).f2 v with
        | true => rfl
        | false => rw [if_neg (by decide), e2, impl_exprUses.l0, if_neg (by omega)]; rfl
theorem implExprUses_ok {k : Nat} (hk : 24 ≤ k) (op n : Int) (l : List S29) (v : Int) : impl_ExprUses.f k op n l v = some (if okD 5 op n l = true then usD 5 op n l v else false) := by
  unfold impl_ExprUses.f
  rw [implExprValid_ok (by omega)]; simp only [Option.bind_some]
  by_cases h : okD 5 op n l = true
  · rw [if_pos h, if_pos h, implUses_l (by omega) h]; rfl
  · rw [if_neg h, if_neg h]
theorem specExprUses_ok {k : Nat} (hk : 24 ≤ k) (op n : Int) (l : List S29) (v : Int) : spec_ExprUses.f k op n l v = some (if okD 5 op n l = true then usD 5 op n l v else false) := by
  unfold spec_ExprUses.f
  rw [specExprValid_ok (by omega)]; simp only [Option.bind_some]
  by_cases h : okD 5 op n l = true
  · rw [if_pos h, if_pos h, specUses_l (by omega) h]; rfl
  · rw [if_neg h, if_neg h]

theorem wr_succ {N i n : Nat} (hN : N ≤ 9223372036854775807) (hi : i < n) (hn : n ≤ N) : wrap64 ((i : Int) + 1) = ((i + 1 : Nat) : Int) := by unfold wrap64; omega
theorem sz_loop {N d : Nat} {l : List S24} (hN : N ≤ 9223372036854775807) (hl : l.length ≤ N)
    (ih : ∀ i : Nat, i < l.length → ∀ (k : Nat) (m : Int), d * (N + 1) ≤ k → 0 ≤ m → m ≤ 1048576 → ∃ r, laws_szExprS.f k (rd_T24 l (i : Int)).f2 m = some r ∧ (r = -1 ∨ 0 ≤ r ∧ r ≤ m ∧ smD 1048576 d (rd_T24 l (i : Int)).f2)) :
    ∀ (j i k : Nat) (m : Int), i + j = l.length → d * (N + 1) + j + 1 ≤ k → 0 ≤ m → m ≤ 1048576 →
      ∃ r, laws_szExprS.l0 k l m (i : Int) = some r ∧ (r = -1 ∨ 0 ≤ r ∧ r ≤ m ∧ ∀ q : Nat, i ≤ q → q < l.length → smD 1048576 d (rd_T24 l (q : Int)).f2) := by
  intro j
  induction j with
  | zero =>
    intro i k m hij hk h0 h1
    obtain ⟨k, rfl⟩ : ∃ c, k = c + 1 := ⟨k - 1, by omega⟩
    rw [laws_szExprS.l0_succ, if_neg (by omega)]
    exact ⟨m, rfl, .inr ⟨h0, Int.le_refl _, fun q a b => by omega⟩⟩
  | succ j ihj =>
    intro i k m hij hk h0 h1
    obtain ⟨k, rfl⟩ : ∃ c, k = c + 1 := ⟨k - 1, by omega⟩
    rw [laws_szExprS.l0_succ, if_pos (by omega), if_pos (by omega)]
    unfold laws_szExpr.f
    obtain ⟨r, e, hr⟩ := ih i (by omega) k m (by omega) h0 h1
    rw [e]; simp only [Option.bind_some]
    rcases hr with rfl | ⟨r0, r1, rs⟩
    · exact ⟨-1, by simp, .inl rfl⟩
    · rw [if_neg (by omega)]; simp only [Option.bind_some]
      rw [if_neg (by omega), wr_succ hN (by omega) hl]
      obtain ⟨r', e', hr'⟩ := ihj (i + 1) k r (by omega) (by omega) r0 (by omega)
      refine ⟨r', e', ?_⟩
      rcases hr' with h | ⟨g0, g1, gs⟩
      · exact .inl h
      · refine .inr ⟨g0, by omega, fun q a b => ?_⟩
        by_cases hq : q = i
        · subst hq; exact rs
        · exact gs q (by omega) b
theorem sz_ok {N : Nat} (hN : N ≤ 9223372036854775807) : ∀ (d : Nat) (l : List S24), smD N d l → ∀ (k : Nat) (m : Int), d * (N + 1) ≤ k → 0 ≤ m → m ≤ 1048576 →
    ∃ r, laws_szExprS.f k l m = some r ∧ (r = -1 ∨ 0 ≤ r ∧ r ≤ m ∧ smD 1048576 d l) := by
  intro d
  induction d with
  | zero => intro l h; exact h.elim
  | succ d ih =>
    intro l h k m hk h0 h1
    obtain ⟨hl, hs⟩ := h
    rw [Nat.succ_mul] at hk
    unfold laws_szExprS.f
    have e : wrap64 (m - (l.length : Int)) = m - (l.length : Int) := by unfold wrap64; omega
    rw [e]
    by_cases hm : m - (l.length : Int) < 0
    · rw [if_pos hm]; exact ⟨-1, rfl, .inl rfl⟩
    · rw [if_neg hm]
      obtain ⟨r, er, hr⟩ := sz_loop hN hl (fun i hi k m => ih _ (hs i hi) k m) l.length 0 k (m - (l.length : Int)) (by omega) (by omega) (by omega) (by omega)
      refine ⟨r, er, ?_⟩
      rcases hr with hr | ⟨r0, r1, rs⟩
      · exact .inl hr
      · exact .inr ⟨r0, by omega, by omega, fun i hi => rs i (by omega) hi⟩
/-- The same of the program's trees. -/
def smE (N : Nat) : Nat → List S29 → Prop
  | 0, _ => False
  | d + 1, l => l.length ≤ N ∧ ∀ i : Nat, i < l.length → smE N d (rd_T29 l (i : Int)).f2
theorem rd_set {x : List S29} {i q : Nat} {v : S29} (hi : i < x.length) : rd_T29 (x.set i v) (q : Int) = if q = i then v else rd_T29 x (q : Int) := by
  unfold rd_T29
  rw [List.getD_eq_getElem?_getD, List.getD_eq_getElem?_getD, List.getElem?_set]
  by_cases h : q = i
  · subst h; simp [hi]
  · rw [if_neg h, if_neg (by omega)]
theorem to_loop {N d : Nat} {l : List S24} (hN : N ≤ 1048576) (hl : l.length ≤ N)
    (ih : ∀ i : Nat, i < l.length → ∀ k : Nat, d * (N + 1) ≤ k → ∃ r, laws_toExprS.f k (rd_T24 l (i : Int)).f2 = some r ∧ smE N d r) :
    ∀ (j i k : Nat) (x : List S29), x.length = l.length → i + j = l.length → d * (N + 1) + j + 1 ≤ k → (∀ q : Nat, q < i → smE N d (rd_T29 x (q : Int)).f2) →
      ∃ r, laws_toExprS.l0 k l x (i : Int) = some r ∧ r.length = l.length ∧ ∀ q : Nat, q < l.length → smE N d (rd_T29 r (q : Int)).f2 := by
  intro j
  induction j with
  | zero =>
    intro i k x hx hij hk hq
    obtain ⟨k, rfl⟩ : ∃ c, k = c + 1 := ⟨k - 1, by omega⟩
    rw [laws_toExprS.l0_succ, if_neg (by omega)]
    exact ⟨x, rfl, hx, fun q h => hq q (by omega)⟩
  | succ j ihj =>
    intro i k x hx hij hk hq
    obtain ⟨k, rfl⟩ : ∃ c, k = c + 1 := ⟨k - 1, by omega⟩
    rw [laws_toExprS.l0_succ, if_pos (by omega), if_pos (by omega)]
    unfold laws_toExpr.f
    obtain ⟨r, e, hr⟩ := ih i (by omega) k (by omega)
    rw [e]; simp only [Option.bind_some]
    rw [if_pos (by omega), wr_succ (N := N) (by omega) (show i < l.length by omega) hl, Int.toNat_natCast]
    refine ihj (i + 1) k _ (by rw [List.length_set]; exact hx) (by omega) (by omega) (fun q h => ?_)
    rw [rd_set (by omega)]
    by_cases hqi : q = i
    · rw [if_pos hqi]; exact hr
    · rw [if_neg hqi]; exact hq q (by omega)
theorem to_ok {N : Nat} (hN : N ≤ 1048576) : ∀ (d : Nat) (l : List S24), smD N d l → ∀ k : Nat, d * (N + 1) ≤ k → ∃ r, laws_toExprS.f k l = some r ∧ smE N d r := by
  intro d
  induction d with
  | zero => intro l h; exact h.elim
  | succ d ih =>
    intro l h k hk
    obtain ⟨hl, hs⟩ := h
    rw [Nat.succ_mul] at hk
    unfold laws_toExprS.f
    rw [if_pos (by omega), if_pos (by omega), Int.toNat_natCast]
    obtain ⟨r, er, hr, hq⟩ := to_loop hN hl (fun i hi k => ih _ (hs i hi) k) l.length 0 k (List.replicate l.length z29) (by simp) (by omega) (by omega) (fun q h => absurd h (by omega))
    exact ⟨r, er, by omega, fun i hi => hq i (by omega)⟩
theorem eq_loop {N d : Nat} {l : List S29} (hN : N ≤ 1048576) (hl : l.length ≤ N)
    (ih : ∀ i : Nat, i < l.length → ∀ k : Nat, d * (N + 1) ≤ k → laws_eqExprS.f k (rd_T29 l (i : Int)).f2 (rd_T29 l (i : Int)).f2 = some true) :
    ∀ (j i k : Nat), i + j = l.length → d * (N + 1) + j + 1 ≤ k → laws_eqExprS.l0 k l l (i : Int) = some true := by
  intro j
  induction j with
  | zero =>
    intro i k hij hk
    obtain ⟨k, rfl⟩ : ∃ c, k = c + 1 := ⟨k - 1, by omega⟩
    rw [laws_eqExprS.l0_succ, if_neg (by omega)]
  | succ j ihj =>
    intro i k hij hk
    obtain ⟨k, rfl⟩ : ∃ c, k = c + 1 := ⟨k - 1, by omega⟩
    rw [laws_eqExprS.l0_succ, if_pos (by omega), if_pos (by omega), if_pos (by omega)]
    unfold laws_eqExpr.f
    rw [if_pos rfl, if_pos rfl, ih i (by omega) k (by omega)]; simp only [Option.bind_some, if_true]
    rw [wr_succ (N := N) (by omega) (show i < l.length by omega) hl]
    exact ihj (i + 1) k (by omega) (by omega)
theorem eq_ok {N : Nat} (hN : N ≤ 1048576) : ∀ (d : Nat) (l : List S29), smE N d l → ∀ k : Nat, d * (N + 1) ≤ k → laws_eqExprS.f k l l = some true := by
  intro d
  induction d with
  | zero => intro l h; exact h.elim
  | succ d ih =>
    intro l h k hk
    obtain ⟨hl, hs⟩ := h
    rw [Nat.succ_mul] at hk
    unfold laws_eqExprS.f
    rw [if_pos rfl]
    exact eq_loop hN hl (fun i hi k => ih _ (hs i hi) k) l.length 0 k (by omega) (by omega)
/-- Either the tree is too large, or it is copied, to a copy that is equal to itself. -/
theorem opened {op n : Int} {l : List S24} {d : Nat} (h : smD 9223372036854775807 d l) {k : Nat} (hk : d * (9223372036854775807 + 1) ≤ k) :
    laws_szExpr.f k op n l 1048576 = some (-1) ∨
    ∃ r X, laws_szExpr.f k op n l 1048576 = some r ∧ 0 ≤ r ∧ laws_toExpr.f k op n l = some (op, n, X) ∧ laws_eqExpr.f k op n X op n X = some true := by
  obtain ⟨r, e, hr⟩ := sz_ok (by omega) d l h k 1048576 hk (by omega) (by omega)
  unfold laws_szExpr.f
  rw [e]; simp only [Option.bind_some]
  rcases hr with rfl | ⟨h0, h1, hs⟩
  · left; simp
  · right
    rw [if_neg (by omega)]
    have hk2 : d * (1048576 + 1) ≤ k := Nat.le_trans (Nat.mul_le_mul_left d (by omega)) hk
    obtain ⟨X, eX, hX⟩ := to_ok (by omega) d l hs k hk2
    refine ⟨r, X, rfl, h0, ?_, ?_⟩
    · unfold laws_toExpr.f; rw [eX]; rfl
    · unfold laws_eqExpr.f; rw [if_pos rfl, if_pos rfl, eq_ok (by omega) d X hX k hk2]; rfl

theorem FnExactExprUses : laws_FnExactExprUses.Pure := by
  intro op n l v d h
  obtain ⟨k, hk, h24⟩ : ∃ k : Nat, d * (9223372036854775807 + 1) ≤ k ∧ 24 ≤ k := ⟨d * (9223372036854775807 + 1) + 24, Nat.le_add_right _ _, Nat.le_add_left _ _⟩
  refine ⟨k, ?_⟩
  unfold laws_FnExactExprUses.f
  rcases opened (op := op) (n := n) h hk with e | ⟨r, X, e, h0, eT, eE⟩
  · rw [e]; simp
  · rw [e]; simp only [Option.bind_some]
    rw [if_neg (by omega), eT]; simp only [Option.bind_some]
    rw [specExprUses_ok (by omega), implExprUses_ok (by omega), eE]; simp

end Go.Proofs.Ytjohbglkocgdjaa.Pure
