/- The law FnDepth, 'A depth is that of the operands, and 1', answers true for every input: what the program's functions compute is shown to answer it; conditions: none beyond the given statement's own. -/
import Derived.Test.YtjohbglkocgdjaaQx6
import Derived.Test.YtjohbglkocgdjaaWSized
namespace Go.Proofs.Ytjohbglkocgdjaa.Pure
open Go Go.RowKit Go.Proofs.Ytjohbglkocgdjaa.Q Go.Proofs.YtjohbglkocgdjaaW.PrintWords Go.Proofs.YtjohbglkocgdjaaW.PrintLast Go.Proofs.YtjohbglkocgdjaaW.PrintMore
set_option linter.unusedVariables false
set_option linter.unusedSimpArgs false

theorem w64 {n : Int} (h : -9223372036854775808 ≤ n) (h' : n ≤ 9223372036854775807) : wrap64 n = n := by unfold wrap64; omega
theorem w64_range (n : Int) : -9223372036854775808 ≤ wrap64 n ∧ wrap64 n ≤ 9223372036854775807 := by unfold wrap64; omega
theorem wf64 {n : Int} (h : (Lit.int .i64 n).wf = true) : -9223372036854775808 ≤ n ∧ n ≤ 9223372036854775807 := by
  simpa [Lit.wf, IntKind.min, IntKind.max, IntKind.signed, IntKind.bits] using h
theorem wf8 {n : Int} (h : (Lit.int .u8 n).wf = true) : 0 ≤ n ∧ n ≤ 255 := by
  simpa [Lit.wf, IntKind.min, IntKind.max, IntKind.signed, IntKind.bits] using h
theorem tm_range {x m : Int} (hx : 0 ≤ x) (hm : 0 < m) : 0 ≤ Int.tmod x m ∧ Int.tmod x m < m := by
  rw [Int.tmod_eq_emod_of_nonneg hx]; exact ⟨Int.emod_nonneg _ (by omega), Int.emod_lt_of_pos _ hm⟩
theorem td_range {x m : Int} (hx : 0 ≤ x) (hm : 0 < m) : 0 ≤ Int.tdiv x m ∧ Int.tdiv x m ≤ x := by
  rw [Int.tdiv_eq_ediv_of_nonneg hx]; exact ⟨Int.ediv_nonneg hx (by omega), Int.ediv_le_self _ hx⟩
theorem toInt_wrap (v : BitVec 64) : IntKind.i64.wrap (v.toNat : Int) = v.toInt := by
  rw [IntKind.wrap_i64, BitVec.toInt_eq_toNat_cond]
  have := v.isLt
  split <;> omega
theorem bits_and (x y : Int) : Go.bits .and .i64 x y = (BitVec.ofInt 64 x &&& BitVec.ofInt 64 y).toInt := toInt_wrap _
theorem bits_or (x y : Int) : Go.bits .or .i64 x y = (BitVec.ofInt 64 x ||| BitVec.ofInt 64 y).toInt := toInt_wrap _
theorem bits_xor (x y : Int) : Go.bits .xor .i64 x y = (BitVec.ofInt 64 x ^^^ BitVec.ofInt 64 y).toInt := toInt_wrap _
theorem xor_nonneg {x y : Int} (hx : 0 ≤ x) (hx' : x < 4611686018427387904) (hy : 0 ≤ y) (hy' : y < 4611686018427387904) :
    0 ≤ Go.bits .xor .i64 x y := by
  obtain ⟨a, rfl⟩ := Int.eq_ofNat_of_zero_le hx
  obtain ⟨b, rfl⟩ := Int.eq_ofNat_of_zero_le hy
  have ha : a < 2 ^ 62 := by omega
  have hb : b < 2 ^ 62 := by omega
  have h := Nat.xor_lt_two_pow ha hb
  rw [bits_xor, BitVec.toInt_eq_toNat_cond]
  have e : (BitVec.ofInt 64 (a : Int) ^^^ BitVec.ofInt 64 (b : Int)).toNat = a ^^^ b := by
    rw [BitVec.toNat_xor, BitVec.ofInt_natCast, BitVec.ofInt_natCast, BitVec.toNat_ofNat, BitVec.toNat_ofNat, Nat.mod_eq_of_lt (by omega), Nat.mod_eq_of_lt (by omega)]
  rw [e]
  split <;> omega
theorem rd_bytes {b : List Int} (hb : ∀ x ∈ b, 0 ≤ x ∧ x ≤ 255) (i : Int) : 0 ≤ rd b i ∧ rd b i ≤ 255 := by
  unfold rd
  rw [List.getD_eq_getElem?_getD]
  by_cases h : i.toNat < b.length
  · rw [List.getElem?_eq_getElem h]; exact hb _ (List.getElem_mem h)
  · rw [List.getElem?_eq_none (by omega)]; simp

theorem pick_ok {b : List Int} {p n : Int} {k : Nat} (hb : ∀ x ∈ b, 0 ≤ x ∧ x ≤ 255) (hp0 : 0 ≤ p) (hp : p ≤ 1000000) (hn : 1 ≤ n) (hk : 1 ≤ k) :
    ∃ v, spec_l6Rd_pick.f k b p n = some (v, p + 1) ∧ 0 ≤ v ∧ v < n := by
  obtain ⟨k, rfl⟩ : ∃ m, k = m + 1 := ⟨k - 1, by omega⟩
  have e0 : wrap64 (p + 1) = p + 1 := w64 (by omega) (by omega)
  have e1 : wrap64 (p + 1 - 1) = p := by unfold wrap64; omega
  unfold spec_l6Rd_pick.f
  rw [if_neg (by omega), e0]
  simp only [spec_l6Rd_pick.j0]
  rw [e1]
  by_cases h0 : b.length = 0
  · rw [if_pos (by simp [h0])]
    exact ⟨0, rfl, by omega, by omega⟩
  · have hl : 0 < (b.length : Int) := by omega
    rw [if_neg (by simp; intro h; exact h0 (by simp [h]))]
    by_cases h1 : p < (b.length : Int)
    · rw [if_pos h1, if_pos hp0, if_neg (by omega)]
      have hr := rd_bytes hb p
      rw [w64 (n := rd b p) (by omega) (by omega)]
      have ht := tm_range (x := rd b p) (m := n) hr.1 (by omega)
      exact ⟨_, rfl, ht.1, ht.2⟩
    · have t1 := tm_range (x := p) (m := (b.length : Int)) hp0 hl
      have e2 : wrap64 (wrap64 (p * 7) + 3) = p * 7 + 3 := by unfold wrap64; omega
      have t2 := tm_range (x := p * 7 + 3) (m := (b.length : Int)) (by omega) hl
      have t3 := td_range (x := p) (m := (b.length : Int)) hp0 hl
      rw [e2, if_neg h1, if_neg (by omega), if_pos t1.1, if_pos t1.2, if_pos t2.1, if_pos t2.2, if_neg (by omega)]
      have r1 := rd_bytes hb (Int.tmod p (b.length : Int))
      have r2 := rd_bytes hb (Int.tmod (p * 7 + 3) (b.length : Int))
      generalize rd b (Int.tmod p (b.length : Int)) = x1 at *
      generalize rd b (Int.tmod (p * 7 + 3) (b.length : Int)) = x2 at *
      generalize Int.tdiv p (b.length : Int) = q at *
      have e3 : wrap64 (wrap64 (wrap64 (wrap64 (wrap64 x1 * 131) + wrap64 (wrap64 x2 * 1117)) + wrap64 (p * 29)) + wrap64 (wrap64 q * 53)) = x1 * 131 + x2 * 1117 + p * 29 + q * 53 := by
        unfold wrap64; omega
      rw [e3]
      have hX : 0 ≤ x1 * 131 + x2 * 1117 + p * 29 + q * 53 ∧ x1 * 131 + x2 * 1117 + p * 29 + q * 53 < 1000000000 := by omega
      generalize x1 * 131 + x2 * 1117 + p * 29 + q * 53 = X at *
      have hd := td_range (x := X) (m := 64) hX.1 (by omega)
      have e4 : wrap64 (Int.tdiv X 64) = Int.tdiv X 64 := w64 (by omega) (by omega)
      rw [e4]
      have hx := xor_nonneg (x := X) (y := Int.tdiv X 64) hX.1 (by omega) hd.1 (by omega)
      have ht := tm_range (m := n) hx (by omega)
      exact ⟨_, rfl, ht.1, ht.2⟩
theorem open_ok {l : List Int} (hw : ∀ x ∈ l, (Lit.int .u8 x).wf = true) : ∃ b, spec_l6Open.f l = some (b, 0) ∧ ∀ x ∈ b, 0 ≤ x ∧ x ≤ 255 := by
  unfold spec_l6Open.f
  split
  · rw [if_pos (by omega)]
    exact ⟨_, rfl, fun x hx => wf8 (hw x (List.mem_of_mem_take hx))⟩
  · exact ⟨_, rfl, fun x hx => wf8 (hw x hx)⟩

theorem pow_nat (i : Nat) : ((2 : Int) ^ i) = ((2 ^ i : Nat) : Int) := by simp
theorem pow_le {i j : Nat} (h : i ≤ j) : (2 : Int) ^ i ≤ 2 ^ j := by
  rw [pow_nat, pow_nat]; exact_mod_cast Nat.pow_le_pow_right (by decide) h
theorem pow_pos' (i : Nat) : (0 : Int) < 2 ^ i := by rw [pow_nat]; exact_mod_cast Nat.two_pow_pos i
theorem shl_one {n : Int} (h0 : 0 ≤ n) (h1 : n ≤ 62) : shl .i64 1 n = (2 : Int) ^ n.toNat := by
  unfold shl
  have hm : min n.toNat (IntKind.i64.bits) = n.toNat := Nat.min_eq_left (by show n.toNat ≤ 64; omega)
  rw [hm, IntKind.wrap_i64]
  have h2 : (2 : Int) ^ n.toNat ≤ 2 ^ 62 := pow_le (by omega)
  have h3 := pow_pos' n.toNat
  omega
theorem shr_small' {x n : Int} (h0 : 0 ≤ n) (h1 : n ≤ 64) : shr .i64 x n = x / (2 : Int) ^ n.toNat := by
  unfold shr
  have hm : min n.toNat (IntKind.i64.bits) = n.toNat := Nat.min_eq_left (by show n.toNat ≤ 64; omega)
  rw [hm]
theorem wraps_i64 (n : Int) (h₀ : 0 ≤ n) (h₁ : n < 2 ^ 63) : IntKind.i64.wrap n = n := by rw [IntKind.wrap_i64]; omega
theorem mask {x n : Int} (hx0 : 0 ≤ x) (hx : x < 9223372036854775808) (h0 : 0 ≤ n) (h1 : n ≤ 62) : Go.bits .and .i64 x ((2 : Int) ^ n.toNat - 1) = x % (2 : Int) ^ n.toNat :=
  bits_mask .i64 63 (by decide) wraps_i64 n.toNat (by omega) x hx0 (by omega)
theorem pow_dvd {i j : Nat} (h : i ≤ j) : (2 : Int) ^ i ∣ 2 ^ j := ⟨(2 : Int) ^ (j - i), by rw [← Int.pow_add]; congr 1; omega⟩
/-- One bit more. -/
theorem mod_pow_succ (x : Int) (i : Nat) : x % (2 : Int) ^ (i + 1) = x % (2 : Int) ^ i + x / (2 : Int) ^ i % 2 * (2 : Int) ^ i := by
  have hp := pow_pos' i
  have e1 := Int.mul_ediv_add_emod x ((2 : Int) ^ i)
  have e2 := Int.mul_ediv_add_emod (x / (2 : Int) ^ i) 2
  have m0 := Int.emod_nonneg x (b := (2 : Int) ^ i) (by omega)
  have m1 := Int.emod_lt_of_pos x hp
  have hs : (2 : Int) ^ (i + 1) = (2 : Int) ^ i * 2 := Int.pow_succ 2 i
  generalize x / (2 : Int) ^ i / 2 = q at *
  have hb : x / (2 : Int) ^ i % 2 = 0 ∨ x / (2 : Int) ^ i % 2 = 1 := by omega
  have e3 : x = x % (2 : Int) ^ i + x / (2 : Int) ^ i % 2 * (2 : Int) ^ i + (2 : Int) ^ (i + 1) * q := by
    rw [hs, Int.mul_assoc]
    rw [← e2] at e1
    rw [Int.mul_add] at e1
    rw [Int.mul_comm (x / (2 : Int) ^ i % 2)]
    omega
  generalize hr : x % (2 : Int) ^ i + x / (2 : Int) ^ i % 2 * (2 : Int) ^ i = r at *
  have hr0 : 0 ≤ r ∧ r < (2 : Int) ^ (i + 1) := by
    rcases hb with hb | hb <;> rw [hb] at hr <;> omega
  rw [e3, Int.add_mul_emod_self_left, Int.emod_eq_of_lt hr0.1 hr0.2]

theorem specOpValid_ok (n : Int) : spec_OpValid.f n = some (decide (1 ≤ n ∧ n ≤ 12)) := by
  unfold spec_OpValid.f spec_l6In.f
  split <;> simp <;> omega

theorem implOpValid_ok (n : Int) : impl_OpValid.f n = some (decide (1 ≤ n ∧ n ≤ 12)) := by
  unfold impl_OpValid.f
  split <;> simp <;> omega

/-- Is a tree valid, with at most some depth? -/
def okD : Nat → Int → Int → List S29 → Bool
  | 0, _, _, _ => false
  | d + 1, op, n, l =>
    if op = 0 then decide (0 ≤ n ∧ n ≤ 99999) && decide (l.length = 0)
    else if op = 13 then decide (0 ≤ n ∧ n ≤ 3) && decide (l.length = 0)
    else decide (1 ≤ op ∧ op ≤ 12) && (decide (n = 0) && (decide (l.length = 2) && (okD d (rd_T29 l 0).f0 (rd_T29 l 0).f1 (rd_T29 l 0).f2 && okD d (rd_T29 l 1).f0 (rd_T29 l 1).f1 (rd_T29 l 1).f2)))
theorem ok_leaf {d : Nat} {op n : Int} {l : List S29} (h : okD d op n l = true) (hl : l.length = 0) : op = 0 ∧ 0 ≤ n ∧ n ≤ 99999 ∨ op = 13 ∧ 0 ≤ n ∧ n ≤ 3 := by
  cases d with
  | zero => simp [okD] at h
  | succ d =>
    simp only [okD] at h
    split at h
    · simp at h; rename_i h0; exact .inl ⟨h0, h.1.1, h.1.2⟩
    · split at h
      · simp at h; rename_i h0; exact .inr ⟨h0, h.1.1, h.1.2⟩
      · simp [hl] at h
theorem ok_parts {d : Nat} {op n : Int} {l : List S29} (h : okD d op n l = true) (hl : l.length ≠ 0) :
    ∃ c, d = c + 1 ∧ (1 ≤ op ∧ op ≤ 12) ∧ n = 0 ∧ l.length = 2 ∧ okD c (rd_T29 l 0).f0 (rd_T29 l 0).f1 (rd_T29 l 0).f2 = true ∧ okD c (rd_T29 l 1).f0 (rd_T29 l 1).f1 (rd_T29 l 1).f2 = true := by
  cases d with
  | zero => simp [okD] at h
  | succ d =>
    simp only [okD] at h
    split at h
    · simp at h; exact absurd (by simp [h.2]) hl
    · split at h
      · simp at h; exact absurd (by simp [h.2]) hl
      · simp at h
        exact ⟨d, rfl, h.1, h.2.1, h.2.2.1, h.2.2.2.1, h.2.2.2.2⟩
theorem ok_more {d : Nat} : ∀ {op n : Int} {l : List S29}, okD d op n l = true → okD (d + 1) op n l = true := by
  induction d with
  | zero => intro op n l h; simp [okD] at h
  | succ d ih =>
    intro op n l h
    rw [okD]; rw [okD] at h
    split at h
    · rename_i h0; rw [if_pos h0]; exact h
    · rename_i h0; rw [if_neg h0]
      split at h
      · rename_i h1; rw [if_pos h1]; exact h
      · rename_i h1; rw [if_neg h1]
        simp only [Bool.and_eq_true] at h ⊢
        exact ⟨h.1, h.2.1, h.2.2.1, ih h.2.2.2.1, ih h.2.2.2.2⟩
theorem ok_le {d e : Nat} (he : d ≤ e) {op n : Int} {l : List S29} (h : okD d op n l = true) : okD e op n l = true := by
  obtain ⟨c, rfl⟩ : ∃ c, e = d + c := ⟨e - d, by omega⟩
  clear he
  induction c with
  | zero => exact h
  | succ c ih => exact ok_more ih

theorem implValid_l {d : Nat} : ∀ {k : Nat} {op n : Int} {l : List S29}, d ≤ 5 → d + 1 ≤ k → impl_exprValid.f k op n l (d : Int) = some (okD d op n l) := by
  induction d with
  | zero =>
    intro k op n l _ hk
    obtain ⟨k, rfl⟩ : ∃ m, k = m + 1 := ⟨k - 1, by omega⟩
    have hz : ¬ (((0 : Nat) : Int) > 1) := by omega
    simp only [impl_exprValid.f, okD, implOpValid_ok, Option.bind_some, if_neg hz]
    repeat' split
    all_goals first | rfl | simp
  | succ d ih =>
    intro k op n l hd hk
    obtain ⟨k, rfl⟩ : ∃ m, k = m + 1 := ⟨k - 1, by omega⟩
    have e : wrap64 (((d + 1 : Nat) : Int) - 1) = (d : Int) := by unfold wrap64; omega
    simp only [impl_exprValid.f, okD]
    rw [e]
    by_cases h0 : op = 0
    · rw [if_pos h0, if_pos h0]
      by_cases hn : n ≥ 0
      · rw [if_pos hn]
        by_cases hm : n ≤ 99999
        · rw [if_pos hm]
          by_cases hl : l.length = 0
          · rw [if_pos (by omega)]; simp [hl]; omega
          · rw [if_neg (by omega), decide_eq_false hl, Bool.and_false]
        · rw [if_neg hm]; simp [hm]
      · rw [if_neg hn]; simp; intro h; omega
    rw [if_neg h0, if_neg h0]
    by_cases h1 : op = 13
    · rw [if_pos h1, if_pos h1]
      by_cases hn : n ≥ 0
      · rw [if_pos hn]
        by_cases hm : n < 4
        · rw [if_pos hm]
          by_cases hl : l.length = 0
          · rw [if_pos (by omega)]; simp [hl]; omega
          · rw [if_neg (by omega), decide_eq_false hl, Bool.and_false]
        · rw [if_neg hm]; simp; omega
      · rw [if_neg hn]; simp; intro h; omega
    rw [if_neg h1, if_neg h1, implOpValid_ok]; simp only [Option.bind_some]
    by_cases h2 : 1 ≤ op ∧ op ≤ 12
    · rw [if_pos (by simpa using h2)]
      by_cases h3 : n = 0
      · rw [if_pos h3]
        by_cases h4 : l.length = 2
        · rw [if_pos (by omega)]
          simp only [h2, h3, h4, and_self, decide_true, Bool.true_and]
          by_cases h5 : ((d + 1 : Nat) : Int) > 1
          · rw [if_pos h5, if_pos (by omega), ih (by omega) (by omega)]; simp only [Option.bind_some]
            by_cases h6 : okD d (rd_T29 l 0).f0 (rd_T29 l 0).f1 (rd_T29 l 0).f2 = true
            · rw [if_pos h6, if_pos (by omega), ih (by omega) (by omega)]; simp [h6]
            · rw [if_neg h6]; simp [h6]
          · rw [if_neg h5]
            have : d = 0 := by omega
            subst this; simp [okD]
        · rw [if_neg (by omega)]; simp [h4]
      · rw [if_neg h3]; simp [h3]
    · rw [if_neg (by simpa using h2)]; simp [h2]
theorem implExprValid_ok {k : Nat} (hk : 6 ≤ k) (op n : Int) (l : List S29) : impl_ExprValid.f k op n l = some (okD 5 op n l) := by
  unfold impl_ExprValid.f
  rw [show (5 : Int) = ((5 : Nat) : Int) from rfl, implValid_l (by omega) (by omega)]; rfl
theorem specValid_l {d : Nat} : ∀ {k : Nat} {op n : Int} {l : List S29}, d ≤ 5 → d + 1 ≤ k → spec_l4Ok.f k op n l (d : Int) = some (okD d op n l) := by
  induction d with
  | zero =>
    intro k op n l _ hk
    obtain ⟨k, rfl⟩ : ∃ m, k = m + 1 := ⟨k - 1, by omega⟩
    simp only [spec_l4Ok.f, okD]
    rw [if_pos (by omega)]
  | succ d ih =>
    intro k op n l hd hk
    obtain ⟨k, rfl⟩ : ∃ m, k = m + 1 := ⟨k - 1, by omega⟩
    have e : wrap64 (((d + 1 : Nat) : Int) - 1) = (d : Int) := by unfold wrap64; omega
    simp only [spec_l4Ok.f, okD]
    rw [e, if_neg (by omega)]
    by_cases h0 : op = 0
    · rw [if_pos h0, if_pos h0]
      unfold spec_l6In.f
      by_cases hn : n ≥ 0
      · rw [if_pos hn]; simp only [Option.bind_some]
        by_cases hm : n ≤ 99999
        · rw [if_pos (by simpa using hm)]
          by_cases hl : l.length = 0
          · simp [hl]; omega
          · have : ((l.length : Int) == 0) = false := by simp; intro h; exact hl (by simp [h])
            rw [this, decide_eq_false hl, Bool.and_false]
        · rw [if_neg (by simpa using hm)]; simp [hm]
      · rw [if_neg hn]; simp; intro h; omega
    rw [if_neg h0, if_neg h0]
    by_cases h1 : op = 13
    · rw [if_pos h1, if_pos h1]
      unfold spec_l6In.f
      by_cases hn : n ≥ 0
      · rw [if_pos hn]; simp only [Option.bind_some]
        by_cases hm : n ≤ 3
        · rw [if_pos (by simpa using hm)]
          by_cases hl : l.length = 0
          · simp [hl]; omega
          · have : ((l.length : Int) == 0) = false := by simp; intro h; exact hl (by simp [h])
            rw [this, decide_eq_false hl, Bool.and_false]
        · rw [if_neg (by simpa using hm)]; simp; omega
      · rw [if_neg hn]; simp; intro h; omega
    rw [if_neg h1, if_neg h1, specOpValid_ok]; simp only [Option.bind_some]
    by_cases h2 : 1 ≤ op ∧ op ≤ 12
    · rw [if_pos (by simpa using h2)]
      by_cases h3 : n = 0
      · rw [if_pos h3]
        by_cases h4 : l.length = 2
        · rw [if_pos (by omega)]
          simp only [h2, h3, h4, and_self, decide_true, Bool.true_and]
          rw [if_pos (by omega), ih (by omega) (by omega)]; simp only [Option.bind_some]
          by_cases h6 : okD d (rd_T29 l 0).f0 (rd_T29 l 0).f1 (rd_T29 l 0).f2 = true
          · rw [if_pos h6, if_pos (by omega), ih (by omega) (by omega)]; simp [h6]
          · rw [if_neg h6]; simp [h6]
        · rw [if_neg (by omega)]; simp [h4]
      · rw [if_neg h3]; simp [h3]
    · rw [if_neg (by simpa using h2)]; simp [h2]
theorem specExprValid_ok {k : Nat} (hk : 6 ≤ k) (op n : Int) (l : List S29) : spec_ExprValid.f k op n l = some (okD 5 op n l) := by
  unfold spec_ExprValid.f
  rw [show (5 : Int) = ((5 : Nat) : Int) from rfl, specValid_l (by omega) (by omega)]; rfl

/-- The depth of a valid tree. -/
def dpD : Nat → List S29 → Int
  | 0, _ => 0
  | d + 1, l => if l.length = 0 then 1 else 1 + max (dpD d (rd_T29 l 0).f2) (dpD d (rd_T29 l 1).f2)
theorem mx_max (a b : Int) : mx a b = max a b := by unfold mx; omega
theorem dp_bounds {d : Nat} : ∀ {op n : Int} {l : List S29}, okD d op n l = true → 1 ≤ dpD d l ∧ dpD d l ≤ d := by
  induction d with
  | zero => intro op n l h; simp [okD] at h
  | succ d ih =>
    intro op n l h
    simp only [dpD]
    by_cases hl : l.length = 0
    · rw [if_pos hl]; omega
    · rw [if_neg hl]
      obtain ⟨c, hc, _, _, _, h1, h2⟩ := ok_parts h hl
      obtain rfl : d = c := by omega
      have i1 := ih h1
      have i2 := ih h2
      omega
theorem dp_more {d : Nat} : ∀ {op n : Int} {l : List S29}, okD d op n l = true → dpD (d + 1) l = dpD d l := by
  induction d with
  | zero => intro op n l h; simp [okD] at h
  | succ d ih =>
    intro op n l h
    rw [show dpD (d + 1 + 1) l = if l.length = 0 then 1 else 1 + max (dpD (d + 1) (rd_T29 l 0).f2) (dpD (d + 1) (rd_T29 l 1).f2) from rfl, show dpD (d + 1) l = if l.length = 0 then 1 else 1 + max (dpD d (rd_T29 l 0).f2) (dpD d (rd_T29 l 1).f2) from rfl]
    by_cases hl : l.length = 0
    · rw [if_pos hl, if_pos hl]
    · rw [if_neg hl, if_neg hl]
      obtain ⟨c, hc, _, _, _, h1, h2⟩ := ok_parts h hl
      obtain rfl : d = c := by omega
      rw [ih h1, ih h2]
theorem implDepth_l {d : Nat} : ∀ {k : Nat} {op n : Int} {l : List S29}, d ≤ 5 → 4 * d + 4 ≤ k → okD d op n l = true → impl_exprDepth.f k op n l = some (dpD d l) := by
  induction d with
  | zero => intro k op n l _ _ h; simp [okD] at h
  | succ d ih =>
    intro k op n l hd hk h
    obtain ⟨k, rfl⟩ : ∃ m, k = m + 4 := ⟨k - 4, by omega⟩
    simp only [impl_exprDepth.f]
    by_cases hl : l.length = 0
    · simp only [impl_exprDepth.l0]
      rw [if_neg (by omega)]; simp [dpD, hl]; unfold wrap64; omega
    · obtain ⟨c, hc, _, _, h2, h3, h4⟩ := ok_parts h hl
      obtain rfl : d = c := by omega
      have b3 := dp_bounds h3
      have b4 := dp_bounds h4
      have e1 : wrap64 (0 + 1) = 1 := by unfold wrap64; omega
      have e2 : wrap64 (1 + 1) = 2 := by unfold wrap64; omega
      have e3 : max 0 (dpD d (rd_T29 l 0).f2) = dpD d (rd_T29 l 0).f2 := by omega
      have e4 : wrap64 (max (dpD d (rd_T29 l 0).f2) (dpD d (rd_T29 l 1).f2) + 1) = 1 + max (dpD d (rd_T29 l 0).f2) (dpD d (rd_T29 l 1).f2) := by unfold wrap64; omega
      rw [impl_exprDepth.l0]
      rw [if_pos (by omega), if_pos (by omega), if_pos (by omega), ih (by omega) (by omega) h3]; simp only [Option.bind_some]
      rw [e1, mx_max, e3, impl_exprDepth.l0]
      rw [if_pos (by omega), if_pos (by omega), if_pos (by omega), ih (by omega) (by omega) h4]; simp only [Option.bind_some]
      rw [e2, mx_max, impl_exprDepth.l0]
      rw [if_neg (by omega), e4]; simp [dpD, hl]
theorem implExprDepth_ok {k : Nat} (hk : 24 ≤ k) (op n : Int) (l : List S29) : impl_ExprDepth.f k op n l = some (if okD 5 op n l = true then dpD 5 l else 0) := by
  unfold impl_ExprDepth.f
  rw [implExprValid_ok (by omega)]; simp only [Option.bind_some]
  by_cases h : okD 5 op n l = true
  · rw [if_pos h, if_pos h, implDepth_l (by omega) (by omega) h]; rfl
  · rw [if_neg h, if_neg h]

theorem specDepth_l {d : Nat} : ∀ {k : Nat} {op n : Int} {l : List S29}, d ≤ 5 → d + 1 ≤ k → okD d op n l = true → spec_l4Depth.f k op n l = some (dpD d l) := by
  induction d with
  | zero => intro k op n l _ _ h; simp [okD] at h
  | succ d ih =>
    intro k op n l hd hk h
    obtain ⟨k, rfl⟩ : ∃ m, k = m + 1 := ⟨k - 1, by omega⟩
    simp only [spec_l4Depth.f]
    by_cases hl : l.length = 0
    · rw [if_pos (by omega)]; simp [dpD, hl]
    · obtain ⟨c, hc, _, _, h2, h3, h4⟩ := ok_parts h hl
      obtain rfl : d = c := by omega
      have b3 := dp_bounds h3
      have b4 := dp_bounds h4
      have e4 : wrap64 (1 + max (dpD d (rd_T29 l 0).f2) (dpD d (rd_T29 l 1).f2)) = 1 + max (dpD d (rd_T29 l 0).f2) (dpD d (rd_T29 l 1).f2) := by unfold wrap64; omega
      rw [if_neg (by omega), if_pos (by omega), ih (by omega) (by omega) h3]; simp only [Option.bind_some]
      rw [if_pos (by omega), ih (by omega) (by omega) h4]; simp only [Option.bind_some]
      rw [mx_max, e4]; simp [dpD, hl]
theorem specExprDepth_ok {k : Nat} (hk : 24 ≤ k) (op n : Int) (l : List S29) : spec_ExprDepth.f k op n l = some (if okD 5 op n l = true then dpD 5 l else 0) := by
  unfold spec_ExprDepth.f
  rw [specExprValid_ok (by omega)]; simp only [Option.bind_some]
  by_cases h : okD 5 op n l = true
  · rw [if_pos h, if_pos h, specDepth_l (by omega) (by omega) h]; rfl
  · rw [if_neg h, if_neg h]

theorem rd_any {xs : List Int} (i : Int) : ∃ v, rd xs i = v := ⟨_, rfl⟩
theorem leaf_ok {b : List Int} {p : Int} {k : Nat} (hb : ∀ x ∈ b, 0 ≤ x ∧ x ≤ 255) (hp0 : 0 ≤ p) (hp : p ≤ 900000) (hk : 1 ≤ k) :
    ∃ op n q, spec_l91Leaf.f k b p = some (op, n, [], q) ∧ p ≤ q ∧ q ≤ p + 2 := by
  unfold spec_l91Leaf.f spec_l4Leaf.f
  obtain ⟨c, ec, hc0, hc1⟩ := pick_ok (n := 4) hb hp0 (by omega) (by omega) hk
  obtain ⟨d, ed, hd0, hd1⟩ := pick_ok (p := p + 1) (n := 4) hb (by omega) (by omega) (by omega) hk
  obtain ⟨g, eg, hg0, hg1⟩ := pick_ok (p := p + 1) (n := 8) hb (by omega) (by omega) (by omega) hk
  rw [ec]; simp only [Option.bind_some]
  rw [ed, eg]; simp only [Option.bind_some]
  split
  · exact ⟨_, _, _, rfl, by omega, by omega⟩
  · split
    · first | rw [if_pos hg0, if_pos (by simpa using hg1)] | rw [if_pos (by simpa using hg1)]
      exact ⟨_, _, _, rfl, by omega, by omega⟩
    · exact ⟨_, _, _, rfl, by omega, by omega⟩
theorem expr_ok {b : List Int} (hb : ∀ x ∈ b, 0 ≤ x ∧ x ≤ 255) : ∀ (d : Nat) {k : Nat} {p a : Int}, a ≤ d → d ≤ 5 → 0 ≤ p → p ≤ 800000 - 5 * (2 : Int) ^ d → 2 * d + 4 ≤ k → -100 ≤ a →
    ∃ op n l q, spec_l91Expr.f k b p a = some (op, n, l, q) ∧ p ≤ q ∧ q ≤ p + (5 * (2 : Int) ^ d - 2) ∧ l.length ≤ 2 := by
  intro d
  induction d with
  | zero =>
    intro k p a ha _ hp0 hp hk _
    rw [Int.pow_zero] at hp
    obtain ⟨k, rfl⟩ : ∃ m, k = m + 2 := ⟨k - 2, by omega⟩
    rw [spec_l91Expr.f, if_pos (by omega), spec_l91Expr.j0, if_pos rfl]
    obtain ⟨op, n, q, e, h0, h1⟩ := leaf_ok (k := k) hb hp0 (by omega) (by omega)
    rw [e]; exact ⟨op, n, [], q, rfl, h0, by rw [Int.pow_zero]; omega, by simp⟩
  | succ d ih =>
    intro k p a ha hd5 hp0 hp hk ha2
    obtain ⟨k, rfl⟩ : ∃ m, k = m + 2 := ⟨k - 2, by omega⟩
    have hp2 := pow_pos' d
    have hp3 : (2 : Int) ^ d ≤ 2 ^ 5 := pow_le (by omega)
    have hs : (2 : Int) ^ (d + 1) = (2 : Int) ^ d * 2 := Int.pow_succ 2 d
    rw [spec_l91Expr.f]
    by_cases h : a < 2
    · rw [if_pos h, spec_l91Expr.j0, if_pos rfl]
      obtain ⟨op, n, q, e, h0, h1⟩ := leaf_ok (k := k) hb hp0 (by omega) (by omega)
      rw [e]; exact ⟨op, n, [], q, rfl, h0, by omega, by simp⟩
    · rw [if_neg h]
      obtain ⟨c, ec, hc0, hc1⟩ := pick_ok (n := 3) (k := k + 1) hb hp0 (by omega) (by omega) (by omega)
      rw [ec]; simp only [Option.bind_some]
      rw [spec_l91Expr.j0]
      split
      · obtain ⟨op, n, q, e, h0, h1⟩ := leaf_ok (k := k) (p := p + 1) hb (by omega) (by omega) (by omega)
        rw [e]; exact ⟨op, n, [], q, rfl, by omega, by omega, by simp⟩
      · unfold spec_l91Op.f spec_l4Both.f
        obtain ⟨g, eg, hg0, hg1⟩ := pick_ok (p := p + 1) (n := 12) (k := k) hb (by omega) (by omega) (by omega) (by omega)
        rw [eg]; simp only [Option.bind_some]
        have e1 : wrap64 (a - 1) = a - 1 := by unfold wrap64; omega
        rw [e1]
        obtain ⟨op1, n1, l1, q1, f1, i1, j1, _⟩ := ih (k := k) (p := p + 1 + 1) (a := a - 1) (by omega) (by omega) (by omega) (by omega) (by omega) (by omega)
        rw [f1]; simp only [Option.bind_some]
        obtain ⟨op2, n2, l2, q2, f2, i2, j2, _⟩ := ih (k := k) (p := q1) (a := a - 1) (by omega) (by omega) (by omega) (by omega) (by omega) (by omega)
        rw [f2]; simp only [Option.bind_some]
        exact ⟨_, _, _, _, rfl, by omega, by omega, by simp⟩
theorem spoilt_ok {b : List Int} {p : Int} {k : Nat} (hb : ∀ x ∈ b, 0 ≤ x ∧ x ≤ 255) (hp0 : 0 ≤ p) (hp : p ≤ 700000) (hk : 20 ≤ k) :
    ∃ op n l q, spec_l91Spoilt.f k b p = some (op, n, l, q) := by
  unfold spec_l91Spoilt.f spec_l4Both.f spec_l91Op.f spec_l4Leaf.f
  have h32 : (5 : Int) * 2 ^ 5 - 2 = 158 := by decide
  obtain ⟨c, ec, hc0, hc1⟩ := pick_ok (n := 4) hb hp0 (by omega) (by omega) (k := k) (by omega)
  rw [ec]; simp only [Option.bind_some]
  have e1 : wrap64 (2 + c) = 2 + c := by unfold wrap64; omega
  rw [e1]
  obtain ⟨op, n, l, q, e, h0, h1, hl⟩ := expr_ok hb 5 (k := k) (p := p + 1) (a := 2 + c) (by omega) (by omega) (by omega) (by omega) (by omega) (by omega)
  rw [e]; simp only [Option.bind_some]
  obtain ⟨d, ed, hd0, hd1⟩ := pick_ok (p := q) (n := 40) (k := k) hb (by omega) (by omega) (by omega) (by omega)
  rw [ed]; simp only [Option.bind_some]
  obtain ⟨g, eg, hg0, hg1⟩ := pick_ok (p := q + 1) (n := 2) (k := k) hb (by omega) (by omega) (by omega) (by omega)
  obtain ⟨op1, n1, q1, f1, i1, j1⟩ := leaf_ok (k := k) (p := q + 1) hb (by omega) (by omega) (by omega)
  obtain ⟨op2, n2, l2, q2, f2, _, _, _⟩ := expr_ok hb 5 (k := k) (p := q1) (a := 5) (by omega) (by omega) (by omega) (by omega) (by omega) (by omega)
  obtain ⟨g3, eg3, _, _⟩ := pick_ok (p := q + 1) (n := 12) (k := k) hb (by omega) (by omega) (by omega) (by omega)
  obtain ⟨op3, n3, l3, q3, f3, _, _, _⟩ := expr_ok hb 5 (k := k) (p := q + 1 + 1) (a := 4) (by omega) (by omega) (by omega) (by omega) (by omega) (by omega)
  rw [eg, f1]; simp only [Option.bind_some]
  rw [f2, eg3]; simp only [Option.bind_some]
  rw [f3]; simp only [Option.bind_some]
  split
  · first | rw [if_pos hg0, if_pos (by simpa using hg1)] | rw [if_pos (by simpa using hg1)]
    exact ⟨_, _, _, _, rfl⟩
  · split
    · first | rw [if_pos hg0, if_pos (by simpa using hg1)] | rw [if_pos (by simpa using hg1)]
      exact ⟨_, _, _, _, rfl⟩
    · split
      · rw [if_pos (by omega)]; exact ⟨_, _, _, _, rfl⟩
      · split
        · exact ⟨_, _, _, _, rfl⟩
        · split <;> exact ⟨_, _, _, _, rfl⟩

theorem FnDepth : laws_FnDepth.Pure := by
  intro l0 _ _ hw
  refine ⟨40, ?_⟩
  unfold laws_FnDepth.f spec_DrawExprDepth.f
  split
  · rfl
  obtain ⟨b, eb, hb⟩ := open_ok hw
  rw [eb]; simp only [Option.bind_some]
  obtain ⟨op, n, l, q, ed⟩ := spoilt_ok (p := 0) (k := 40) hb (by omega) (by omega) (by omega)
  rw [ed]; simp only [Option.bind_some]
  rw [implExprDepth_ok (by omega), specExprDepth_ok (by omega)]; simp only [Option.bind_some, if_true]
  simp only [laws_FnDepth.j0]
  by_cases h : okD 5 op n l = true
  · simp only [if_pos h]
    have hb := dp_bounds h
    rw [if_neg (by simp; omega)]
    by_cases hl : l.length = 0
    · rw [if_pos (by omega)]; simp [dpD, hl]
    · obtain ⟨c, hc, _, _, h2, h3, h4⟩ := ok_parts h hl
      obtain rfl : c = 4 := by omega
      have b3 := dp_bounds h3
      have b4 := dp_bounds h4
      have e4 : wrap64 (1 + max (dpD 4 (rd_T29 l 0).f2) (dpD 4 (rd_T29 l 1).f2)) = dpD 5 l := by
        have : dpD 5 l = 1 + max (dpD 4 (rd_T29 l 0).f2) (dpD 4 (rd_T29 l 1).f2) := by rw [dpD, if_neg hl]
        rw [this]; unfold wrap64; omega
      rw [if_neg (by omega), if_pos (by omega), if_pos (by omega), implExprDepth_ok (by omega), if_pos (ok_more h3)]; simp only [Option.bind_some]
      rw [if_pos (by omega), implExprDepth_ok (by omega), if_pos (ok_more h4)]; simp only [Option.bind_some]
      rw [dp_more h3, dp_more h4, mx_max, e4]; simp
  · simp [h]

end Go.Proofs.Ytjohbglkocgdjaa.Pure
namespace Go.Proofs.Ytjohbglkocgdjaa.PrintWords
open Go Go.ChangeShapes Go.WideShapes
/-- The printed row asks for this word under this name. -/
theorem sized_ints {H : Type} {enc : TypeId × Value → H} {P : Program} {W : World} {base : Nat} {spare : Nat → Bool} {held : Bool} {t e : TypeId} {k : IntKind} {a : Option Addr} {len cap : Nat} {d : DataW H} {ps : List MemPlace} {ts : List TypeId} {ds : List (DataW H)} {j : Nat}
    (hsz : (DataW.weightsEach P ts ds).all (· ≤ reachBytes) = true) (ht : ts[j]? = some t) (hd : ds[j]? = some d) (hu : P.underlying t = some (.slice e)) (he : P.underlying e = some (.int k)) (hc : P.cellsOf e = 1) {B : Nat} (hB : P.bytesOf e = B)
    (h : DataW.Trod enc P W base spare held t (.slice a len cap) d ps) : len * B ≤ 140737488351232 :=
  Go.Proofs.YtjohbglkocgdjaaW.PrintWords.sized_ints hsz ht hd hu he hc hB h
end Go.Proofs.Ytjohbglkocgdjaa.PrintWords
