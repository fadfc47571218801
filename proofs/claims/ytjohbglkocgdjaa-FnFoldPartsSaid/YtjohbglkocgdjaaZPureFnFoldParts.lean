/- The law FnFoldParts, 'Operands are simplified first', answers true for every input: what the program's functions compute is shown to answer it; conditions: none beyond the given statement's own. -/
import Derived.Test.YtjohbglkocgdjaaZQx14
import Derived.Test.YtjohbglkocgdjaaZWSized
namespace Go.Proofs.Ytjohbglkocgdjaa.Pure
open Go Go.RowKit Go.Proofs.Ytjohbglkocgdjaa.Q Go.Proofs.YtjohbglkocgdjaaW.PrintWords Go.Proofs.YtjohbglkocgdjaaW.PrintLast Go.Proofs.YtjohbglkocgdjaaW.PrintMore
set_option linter.unusedVariables false
set_option linter.unusedSimpArgs false

theorem w64 {n : Int} (h : -9223372036854775808 ≤ n) (h' : n ≤ 9223372036854775807) : wrap64 n = n := by unfold wrap64; omega
theorem w64_range (n : Int) : -9223372036854775808 ≤ wrap64 n ∧ wrap64 n ≤ 9223372036854775807 := by unfold wrap64; omega
theorem wf8 {n : Int} (h : (Lit.int .u8 n).wf = true) : 0 ≤ n ∧ n ≤ 255 := by
  simpa [Lit.wf, IntKind.min, IntKind.max, IntKind.signed, IntKind.bits] using h
theorem tm_range {x m : Int} (hx : 0 ≤ x) (hm : 0 < m) : 0 ≤ Int.tmod x m ∧ Int.tmod x m < m := by
  rw [Int.tmod_eq_emod_of_nonneg hx]; exact ⟨Int.emod_nonneg _ (by omega), Int.emod_lt_of_pos _ hm⟩
theorem td_range {x m : Int} (hx : 0 ≤ x) (hm : 0 < m) : 0 ≤ Int.tdiv x m ∧ Int.tdiv x m ≤ x := by
  rw [Int.tdiv_eq_ediv_of_nonneg hx]; exact ⟨Int.ediv_nonneg hx (by omega), Int.ediv_le_self _ hx⟩
theorem toInt_wrap (v : BitVec 64) : IntKind.i64.wrap (v.toNat : Int) = v.toInt := by
  rw [IntKind.wrap_i64, BitVec.toInt_eq_toNat_cond]
  have := v.isLt
  split <;> omega
theorem bits_and (x y : Int) : Go.bits .and .i64 x y = (BitVec.ofInt 64 x &&& BitVec.ofInt 64 y).toInt := toInt_wrap _
theorem bits_or (x y : Int) : Go.bits .or .i64 x y = (BitVec.ofInt 64 x ||| BitVec.ofInt 64 y).toInt := toInt_wrap _
theorem bits_xor (x y : Int) : Go.bits .xor .i64 x y = (BitVec.ofInt 64 x ^^^ BitVec.ofInt 64 y).toInt := toInt_wrap _
theorem xor_nonneg {x y : Int} (hx : 0 ≤ x) (hx' : x < 4611686018427387904) (hy : 0 ≤ y) (hy' : y < 4611686018427387904) :
    0 ≤ Go.bits .xor .i64 x y := by
  obtain ⟨a, rfl⟩ := Int.eq_ofNat_of_zero_le hx
  obtain ⟨b, rfl⟩ := Int.eq_ofNat_of_zero_le hy
  have ha : a < 2 ^ 62 := by omega
  have hb : b < 2 ^ 62 := by omega
  have h := Nat.xor_lt_two_pow ha hb
  rw [bits_xor, BitVec.toInt_eq_toNat_cond]
  have e : (BitVec.ofInt 64 (a : Int) ^^^ BitVec.ofInt 64 (b : Int)).toNat = a ^^^ b := by
    rw [BitVec.toNat_xor, BitVec.ofInt_natCast, BitVec.ofInt_natCast, BitVec.toNat_ofNat, BitVec.toNat_ofNat, Nat.mod_eq_of_lt (by omega), Nat.mod_eq_of_lt (by omega)]
  rw [e]
  split <;> omega
theorem rd_bytes {b : List Int} (hb : ∀ x ∈ b, 0 ≤ x ∧ x ≤ 255) (i : Int) : 0 ≤ rd b i ∧ rd b i ≤ 255 := by
  unfold rd
  rw [List.getD_eq_getElem?_getD]
  by_cases h : i.toNat < b.length
  · rw [List.getElem?_eq_getElem h]; exact hb _ (List.getElem_mem h)
  · rw [List.getElem?_eq_none (by omega)]; simp

theorem specWrap_ok (n : Int) (h : -9223372036854775808 ≤ n ∧ n ≤ 9223372036854775807) : spec_Wrap.f n = some (wrap32 n) := by
  unfold spec_Wrap.f
  have hm : Int.tmod n 4294967296 = if 0 ≤ n then n % 4294967296 else -((-n) % 4294967296) := by
    split
    · exact Int.tmod_eq_emod_of_nonneg (by omega)
    · have := Int.neg_tmod (-n) 4294967296
      rw [Int.neg_neg] at this
      rw [this, Int.tmod_eq_emod_of_nonneg (by omega)]
  rw [hm]
  generalize hq : (if 0 ≤ n then n % 4294967296 else -((-n) % 4294967296)) = q
  have hq' : (q - n) % 4294967296 = 0 ∧ -4294967296 < q ∧ q < 4294967296 := by subst hq; split <;> omega
  unfold wrap32 wrap64
  split
  · congr 1; omega
  · split
    · congr 1; omega
    · congr 1; omega
theorem pick_ok {b : List Int} {p n : Int} {k : Nat} (hb : ∀ x ∈ b, 0 ≤ x ∧ x ≤ 255) (hp0 : 0 ≤ p) (hp : p ≤ 1000000) (hn : 1 ≤ n) (hk : 1 ≤ k) :
    ∃ v, spec_l6Rd_pick.f k b p n = some (v, p + 1) ∧ 0 ≤ v ∧ v < n := by
  obtain ⟨k, rfl⟩ : ∃ m, k = m + 1 := ⟨k - 1, by omega⟩
  have e0 : wrap64 (p + 1) = p + 1 := w64 (by omega) (by omega)
  have e1 : wrap64 (p + 1 - 1) = p := by unfold wrap64; omega
  unfold spec_l6Rd_pick.f
  rw [if_neg (by omega), e0]
  simp only [spec_l6Rd_pick.j0]
  rw [e1]
  by_cases h0 : b.length = 0
  · rw [if_pos (by simp [h0])]
    exact ⟨0, rfl, by omega, by omega⟩
  · have hl : 0 < (b.length : Int) := by omega
    rw [if_neg (by simp; intro h; exact h0 (by simp [h]))]
    by_cases h1 : p < (b.length : Int)
    · rw [if_pos h1, if_pos hp0, if_neg (by omega)]
      have hr := rd_bytes hb p
      rw [w64 (n := rd b p) (by omega) (by omega)]
      have ht := tm_range (x := rd b p) (m := n) hr.1 (by omega)
      exact ⟨_, rfl, ht.1, ht.2⟩
    · have t1 := tm_range (x := p) (m := (b.length : Int)) hp0 hl
      have e2 : wrap64 (wrap64 (p * 7) + 3) = p * 7 + 3 := by unfold wrap64; omega
      have t2 := tm_range (x := p * 7 + 3) (m := (b.length : Int)) (by omega) hl
      have t3 := td_range (x := p) (m := (b.length : Int)) hp0 hl
      rw [e2, if_neg h1, if_neg (by omega), if_pos t1.1, if_pos t1.2, if_pos t2.1, if_pos t2.2, if_neg (by omega)]
      have r1 := rd_bytes hb (Int.tmod p (b.length : Int))
      have r2 := rd_bytes hb (Int.tmod (p * 7 + 3) (b.length : Int))
      generalize rd b (Int.tmod p (b.length : Int)) = x1 at *
      generalize rd b (Int.tmod (p * 7 + 3) (b.length : Int)) = x2 at *
      generalize Int.tdiv p (b.length : Int) = q at *
      have e3 : wrap64 (wrap64 (wrap64 (wrap64 (wrap64 x1 * 131) + wrap64 (wrap64 x2 * 1117)) + wrap64 (p * 29)) + wrap64 (wrap64 q * 53)) = x1 * 131 + x2 * 1117 + p * 29 + q * 53 := by
        unfold wrap64; omega
      rw [e3]
      have hX : 0 ≤ x1 * 131 + x2 * 1117 + p * 29 + q * 53 ∧ x1 * 131 + x2 * 1117 + p * 29 + q * 53 < 1000000000 := by omega
      generalize x1 * 131 + x2 * 1117 + p * 29 + q * 53 = X at *
      have hd := td_range (x := X) (m := 64) hX.1 (by omega)
      have e4 : wrap64 (Int.tdiv X 64) = Int.tdiv X 64 := w64 (by omega) (by omega)
      rw [e4]
      have hx := xor_nonneg (x := X) (y := Int.tdiv X 64) hX.1 (by omega) hd.1 (by omega)
      have ht := tm_range (m := n) hx (by omega)
      exact ⟨_, rfl, ht.1, ht.2⟩
theorem open_ok {l : List Int} (hw : ∀ x ∈ l, (Lit.int .u8 x).wf = true) : ∃ b, spec_l6Open.f l = some (b, 0) ∧ ∀ x ∈ b, 0 ≤ x ∧ x ≤ 255 := by
  unfold spec_l6Open.f
  split
  · rw [if_pos (by omega)]
    exact ⟨_, rfl, fun x hx => wf8 (hw x (List.mem_of_mem_take hx))⟩
  · exact ⟨_, rfl, fun x hx => wf8 (hw x hx)⟩

def Word (v : Int) : Prop := -2147483648 ≤ v ∧ v ≤ 2147483647
instance (v : Int) : Decidable (Word v) := by unfold Word; infer_instance

theorem implWrap_ok (n : Int) : impl_Wrap.f n = some (wrap32 n) := by
  unfold impl_Wrap.f
  congr 1
  unfold wrap64 wrap32; omega

theorem implWordValid_ok (n : Int) : impl_WordValid.f n = some (decide (-2147483648 ≤ n ∧ n ≤ 2147483647)) := by
  unfold impl_WordValid.f
  split <;> simp <;> omega

theorem specWordValid_ok (n : Int) : spec_WordValid.f n = some (decide (-2147483648 ≤ n ∧ n ≤ 2147483647)) := by
  unfold spec_WordValid.f spec_l6In.f
  split <;> simp <;> omega

theorem specOpValid_ok (n : Int) : spec_OpValid.f n = some (decide (1 ≤ n ∧ n ≤ 12)) := by
  unfold spec_OpValid.f spec_l6In.f
  split <;> simp <;> omega

theorem implOpValid_ok (n : Int) : impl_OpValid.f n = some (decide (1 ≤ n ∧ n ≤ 12)) := by
  unfold impl_OpValid.f
  split <;> simp <;> omega

theorem pow_nat (i : Nat) : ((2 : Int) ^ i) = ((2 ^ i : Nat) : Int) := by simp
theorem pow_le {i j : Nat} (h : i ≤ j) : (2 : Int) ^ i ≤ 2 ^ j := by
  rw [pow_nat, pow_nat]; exact_mod_cast Nat.pow_le_pow_right (by decide) h
theorem pow_pos' (i : Nat) : (0 : Int) < 2 ^ i := by rw [pow_nat]; exact_mod_cast Nat.two_pow_pos i
/-- The word of 32 bits that is congruent to a number. -/
def B (n : Int) : BitVec 32 := BitVec.ofInt 32 n
theorem B_word {n : Int} (h : Word n) : (B n).toInt = n := by
  unfold Word at h
  exact BitVec.toInt_ofInt_eq_self (by decide) (by show -2147483648 ≤ n; omega) (by show n < 2147483648; omega)
theorem B64 {n : Int} (h : Word n) : BitVec.ofInt 64 n = (B n).signExtend 64 := by
  apply BitVec.eq_of_toInt_eq
  rw [BitVec.toInt_signExtend_of_le (by decide), B_word h]
  unfold Word at h
  exact BitVec.toInt_ofInt_eq_self (by decide) (by show -9223372036854775808 ≤ n; omega) (by show n < 9223372036854775808; omega)
theorem or32 {a b : Int} (ha : Word a) (hb : Word b) : Go.bits .or .i64 a b = (B a ||| B b).toInt := by
  rw [bits_or, B64 ha, B64 hb, ← BitVec.signExtend_or, BitVec.toInt_signExtend_of_le (by decide)]
theorem xor32 {a b : Int} (ha : Word a) (hb : Word b) : Go.bits .xor .i64 a b = (B a ^^^ B b).toInt := by
  rw [bits_xor, B64 ha, B64 hb, ← BitVec.signExtend_xor, BitVec.toInt_signExtend_of_le (by decide)]
theorem and32 {a b : Int} (ha : Word a) (hb : Word b) : Go.bits .and .i64 a b = (B a &&& B b).toInt := by
  rw [bits_and, B64 ha, B64 hb, ← BitVec.signExtend_and, BitVec.toInt_signExtend_of_le (by decide)]
theorem and31 (b : Int) : Go.bits .and .i64 b 31 = b % 32 := by
  rw [bits_and, BitVec.toInt_eq_toNat_cond]
  have e : (BitVec.ofInt 64 b &&& BitVec.ofInt 64 31).toNat = (b % 32).toNat := by
    have h31 : (BitVec.ofInt 64 31).toNat = 2 ^ 5 - 1 := by decide
    rw [BitVec.toNat_and, h31, BitVec.toNat_ofInt, Nat.and_two_pow_sub_one_eq_mod]
    omega
  rw [e]
  split <;> omega

/-- What an operator answers for two words. -/
def ap (op a b : Int) : Int :=
  if op = 1 then (B a ||| B b).toInt else if op = 2 then (B a ^^^ B b).toInt else if op = 3 then (B a &&& B b).toInt
  else if op = 4 then (if a = b then 1 else 0) else if op = 5 then (if a < b then 1 else 0)
  else if op = 6 then wrap32 (a * (2 : Int) ^ (b % 32).toNat) else if op = 7 then a / (2 : Int) ^ (b % 32).toNat
  else if op = 8 then wrap32 (a + b) else if op = 9 then wrap32 (a - b) else if op = 10 then wrap32 (a * b)
  else if op = 11 then (if b = 0 then -1 else wrap32 (Int.tdiv a b)) else (if b = 0 then a else Int.tmod a b)
theorem wrap32_wrap64 (n : Int) : wrap32 (wrap64 n) = wrap32 n := by unfold wrap32 wrap64; omega
theorem shl32 (a b : Int) : wrap32 (shl .i64 a (b % 32)) = wrap32 (a * (2 : Int) ^ (b % 32).toNat) := by
  unfold shl
  have hm : min (b % 32).toNat (IntKind.i64.bits) = (b % 32).toNat := Nat.min_eq_left (by show _ ≤ 64; omega)
  rw [hm, i64_w]
  exact wrap32_wrap64 _
theorem shr32 (a b : Int) : shr .i64 a (b % 32) = a / (2 : Int) ^ (b % 32).toNat := by
  unfold shr
  have hm : min (b % 32).toNat (IntKind.i64.bits) = (b % 32).toNat := Nat.min_eq_left (by show _ ≤ 64; omega)
  rw [hm]
theorem shl_range (a n : Int) : -9223372036854775808 ≤ shl .i64 a n ∧ shl .i64 a n ≤ 9223372036854775807 := by
  unfold shl
  rw [IntKind.wrap_i64]; omega
theorem implapply_ok {op a b : Int} (ha : Word a) (hb : Word b) : impl_apply.f op a b = some (ap op a b) := by
  have h0 : 0 ≤ b % 32 := by omega
  unfold impl_apply.f ap impl_truth.f
  simp only [implWrap_ok, Option.bind_some, and31, h0, if_true, wrap32_wrap64, shl32, shr32, or32 ha hb, xor32 ha hb, and32 ha hb]
  by_cases h1 : op = 1
  · rw [if_pos h1, if_pos h1]
  rw [if_neg h1, if_neg h1]
  by_cases h2 : op = 2
  · rw [if_pos h2, if_pos h2]
  rw [if_neg h2, if_neg h2]
  by_cases h3 : op = 3
  · rw [if_pos h3, if_pos h3]
  rw [if_neg h3, if_neg h3]
  by_cases h4 : op = 4
  · rw [if_pos h4, if_pos h4]
    by_cases hab : a = b <;> simp [hab]
  rw [if_neg h4, if_neg h4]
  by_cases h5 : op = 5
  · rw [if_pos h5, if_pos h5]
    by_cases hab : a < b <;> simp [hab]
  rw [if_neg h5, if_neg h5]
  by_cases h6 : op = 6
  · rw [if_pos h6, if_pos h6]
  rw [if_neg h6, if_neg h6]
  by_cases h7 : op = 7
  · rw [if_pos h7, if_pos h7]
  rw [if_neg h7, if_neg h7]
  by_cases h8 : op = 8
  · rw [if_pos h8, if_pos h8]
  rw [if_neg h8, if_neg h8]
  by_cases h9 : op = 9
  · rw [if_pos h9, if_pos h9]
  rw [if_neg h9, if_neg h9]
  by_cases h10 : op = 10
  · rw [if_pos h10, if_pos h10]
  rw [if_neg h10, if_neg h10]
  by_cases h11 : op = 11
  · rw [if_pos h11, if_pos h11]
    split <;> rfl
  rw [if_neg h11, if_neg h11]
  split <;> rfl
theorem implApply_ok (op a b : Int) : impl_Apply.f op a b = some (if (1 ≤ op ∧ op ≤ 12) ∧ Word a ∧ Word b then (ap op a b, true) else (0, false)) := by
  unfold impl_Apply.f
  rw [implOpValid_ok, implWordValid_ok, implWordValid_ok]; simp only [Option.bind_some]
  by_cases h1 : 1 ≤ op ∧ op ≤ 12
  · rw [if_pos (by simpa using h1)]
    by_cases h2 : Word a
    · rw [if_pos (by simpa [Word] using h2)]
      by_cases h3 : Word b
      · have hc : (1 ≤ op ∧ op ≤ 12) ∧ Word a ∧ Word b := ⟨h1, h2, h3⟩
        rw [if_pos (by simpa [Word] using h3), implapply_ok h2 h3, if_pos hc]; rfl
      · rw [if_neg (by simpa [Word] using h3), if_neg (by simp [h3])]
    · rw [if_neg (by simpa [Word] using h2), if_neg (by simp [h2])]
  · rw [if_neg (by simpa using h1), if_neg (by simp [h1])]
theorem specApply_ok {k : Nat} (hk : 1 ≤ k) (op a b : Int) : spec_Apply.f k op a b = some (if (1 ≤ op ∧ op ≤ 12) ∧ Word a ∧ Word b then (ap op a b, true) else (0, false)) := by
  obtain ⟨k, rfl⟩ : ∃ m, k = m + 1 := ⟨k - 1, by omega⟩
  have h0 : 0 ≤ b % 32 := by omega
  unfold spec_Apply.f
  simp only [spec_Apply.j0]
  rw [specOpValid_ok, specWordValid_ok, specWordValid_ok]; simp only [Option.bind_some]
  by_cases h1 : 1 ≤ op ∧ op ≤ 12
  · rw [if_pos (by simpa using h1)]
    by_cases h2 : Word a
    · rw [if_pos (by simpa [Word] using h2)]
      by_cases h3 : Word b
      · have hc : (1 ≤ op ∧ op ≤ 12) ∧ Word a ∧ Word b := ⟨h1, h2, h3⟩
        rw [if_neg (by simp; exact h3), if_pos hc]
        unfold ap spec_l2Flag.f spec_l2Shift.f spec_l2Divide.f spec_l2Remain.f
        simp only [specWrap_ok _ (w64_range _), specWrap_ok _ (shl_range _ _), Option.bind_some, and31, h0, if_true, wrap32_wrap64, shl32, shr32, or32 h2 h3, xor32 h2 h3, and32 h2 h3]
        by_cases h1 : op = 1
        · rw [if_pos h1, if_pos h1]
        rw [if_neg h1, if_neg h1]
        by_cases h2 : op = 2
        · rw [if_pos h2, if_pos h2]
        rw [if_neg h2, if_neg h2]
        by_cases h3 : op = 3
        · rw [if_pos h3, if_pos h3]
        rw [if_neg h3, if_neg h3]
        by_cases h4 : op = 4
        · rw [if_pos h4, if_pos h4]
          by_cases hab : a = b <;> simp [hab]
        rw [if_neg h4, if_neg h4]
        by_cases h5 : op = 5
        · rw [if_pos h5, if_pos h5]
          by_cases hab : a < b <;> simp [hab]
        rw [if_neg h5, if_neg h5]
        by_cases h6 : op = 6
        · rw [if_pos h6, if_pos h6]; rfl
        rw [if_neg h6, if_neg h6]
        by_cases h7 : op = 7
        · rw [if_pos h7, if_pos h7]
        rw [if_neg h7, if_neg h7]
        by_cases h8 : op = 8
        · rw [if_pos h8, if_pos h8]
        rw [if_neg h8, if_neg h8]
        by_cases h9 : op = 9
        · rw [if_pos h9, if_pos h9]
        rw [if_neg h9, if_neg h9]
        by_cases h10 : op = 10
        · rw [if_pos h10, if_pos h10]
        rw [if_neg h10, if_neg h10]
        by_cases h11 : op = 11
        · rw [if_pos h11, if_pos h11]
          split <;> rfl
        rw [if_neg h11, if_neg h11]
        split <;> rfl
      · rw [if_pos (by simp; unfold Word at h3; omega), if_neg (by simp [h3])]
    · rw [if_neg (by simpa [Word] using h2), if_pos trivial, if_neg (by simp [h2])]
  · rw [if_neg (by simpa using h1), if_pos trivial, if_neg (by simp [h1])]

/-- Is a tree valid, with at most some depth? -/
def okD : Nat → Int → Int → List S29 → Bool
  | 0, _, _, _ => false
  | d + 1, op, n, l =>
    if op = 0 then decide (0 ≤ n ∧ n ≤ 99999) && decide (l.length = 0)
    else if op = 13 then decide (0 ≤ n ∧ n ≤ 3) && decide (l.length = 0)
    else decide (1 ≤ op ∧ op ≤ 12) && (decide (n = 0) && (decide (l.length = 2) && (okD d (rd_T29 l 0).f0 (rd_T29 l 0).f1 (rd_T29 l 0).f2 && okD d (rd_T29 l 1).f0 (rd_T29 l 1).f1 (rd_T29 l 1).f2)))
theorem ok_parts {d : Nat} {op n : Int} {l : List S29} (h : okD d op n l = true) (hl : l.length ≠ 0) :
    ∃ c, d = c + 1 ∧ (1 ≤ op ∧ op ≤ 12) ∧ n = 0 ∧ l.length = 2 ∧ okD c (rd_T29 l 0).f0 (rd_T29 l 0).f1 (rd_T29 l 0).f2 = true ∧ okD c (rd_T29 l 1).f0 (rd_T29 l 1).f1 (rd_T29 l 1).f2 = true := by
  cases d with
  | zero => simp [okD] at h
  | succ d =>
    simp only [okD] at h
    split at h
    · simp at h; exact absurd (by simp [h.2]) hl
    · split at h
      · simp at h; exact absurd (by simp [h.2]) hl
      · simp at h
        exact ⟨d, rfl, h.1, h.2.1, h.2.2.1, h.2.2.2.1, h.2.2.2.2⟩
theorem ok_more {d : Nat} : ∀ {op n : Int} {l : List S29}, okD d op n l = true → okD (d + 1) op n l = true := by
  induction d with
  | zero => intro op n l h; simp [okD] at h
  | succ d ih =>
    intro op n l h
    rw [okD]; rw [okD] at h
    split at h
    · rename_i h0; rw [if_pos h0]; exact h
    · rename_i h0; rw [if_neg h0]
      split at h
      · rename_i h1; rw [if_pos h1]; exact h
      · rename_i h1; rw [if_neg h1]
        simp only [Bool.and_eq_true] at h ⊢
        exact ⟨h.1, h.2.1, h.2.2.1, ih h.2.2.2.1, ih h.2.2.2.2⟩
theorem implValid_l {d : Nat} : ∀ {k : Nat} {op n : Int} {l : List S29}, d ≤ 5 → d + 1 ≤ k → impl_exprValid.f k op n l (d : Int) = some (okD d op n l) := by
  induction d with
  | zero =>
    intro k op n l _ hk
    obtain ⟨k, rfl⟩ : ∃ m, k = m + 1 := ⟨k - 1, by omega⟩
    have hz : ¬ (((0 : Nat) : Int) > 1) := by omega
    simp only [impl_exprValid.f, okD, implOpValid_ok, Option.bind_some, if_neg hz]
    repeat' split
    all_goals first | rfl | simp
  | succ d ih =>
    intro k op n l hd hk
    obtain ⟨k, rfl⟩ : ∃ m, k = m + 1 := ⟨k - 1, by omega⟩
    have e : wrap64 (((d + 1 : Nat) : Int) - 1) = (d : Int) := by unfold wrap64; omega
    simp only [impl_exprValid.f, okD]
    rw [e]
    by_cases h0 : op = 0
    · rw [if_pos h0, if_pos h0]
      by_cases hn : n ≥ 0
      · rw [if_pos hn]
        by_cases hm : n ≤ 99999
        · rw [if_pos hm]
          by_cases hl : l.length = 0
          · rw [if_pos (by omega)]; simp [hl]; omega
          · rw [if_neg (by omega), decide_eq_false hl, Bool.and_false]
        · rw [if_neg hm]; simp [hm]
      · rw [if_neg hn]; simp; intro h; omega
    rw [if_neg h0, if_neg h0]
    by_cases h1 : op = 13
    · rw [if_pos h1, if_pos h1]
      by_cases hn : n ≥ 0
      · rw [if_pos hn]
        by_cases hm : n < 4
        · rw [if_pos hm]
          by_cases hl : l.length = 0
          · rw [if_pos (by omega)]; simp [hl]; omega
          · rw [if_neg (by omega), decide_eq_false hl, Bool.and_false]
        · rw [if_neg hm]; simp; omega
      · rw [if_neg hn]; simp; intro h; omega
    rw [if_neg h1, if_neg h1, implOpValid_ok]; simp only [Option.bind_some]
    by_cases h2 : 1 ≤ op ∧ op ≤ 12
    · rw [if_pos (by simpa using h2)]
      by_cases h3 : n = 0
      · rw [if_pos h3]
        by_cases h4 : l.length = 2
        · rw [if_pos (by omega)]
          simp only [h2, h3, h4, and_self, decide_true, Bool.true_and]
          by_cases h5 : ((d + 1 : Nat) : Int) > 1
          · rw [if_pos h5, if_pos (by omega), ih (by omega) (by omega)]; simp only [Option.bind_some]
            by_cases h6 : okD d (rd_T29 l 0).f0 (rd_T29 l 0).f1 (rd_T29 l 0).f2 = true
            · rw [if_pos h6, if_pos (by omega), ih (by omega) (by omega)]; simp [h6]
            · rw [if_neg h6]; simp [h6]
          · rw [if_neg h5]
            have : d = 0 := by omega
            subst this; simp [okD]
        · rw [if_neg (by omega)]; simp [h4]
      · rw [if_neg h3]; simp [h3]
    · rw [if_neg (by simpa using h2)]; simp [h2]
theorem implExprValid_ok {k : Nat} (hk : 6 ≤ k) (op n : Int) (l : List S29) : impl_ExprValid.f k op n l = some (okD 5 op n l) := by
  unfold impl_ExprValid.f
  rw [show (5 : Int) = ((5 : Nat) : Int) from rfl, implValid_l (by omega) (by omega)]; rfl
theorem specValid_l {d : Nat} : ∀ {k : Nat} {op n : Int} {l : List S29}, d ≤ 5 → d + 1 ≤ k → spec_l4Ok.f k op n l (d : Int) = some (okD d op n l) := by
  induction d with
  | zero =>
    intro k op n l _ hk
    obtain ⟨k, rfl⟩ : ∃ m, k = m + 1 := ⟨k - 1, by omega⟩
    simp only [spec_l4Ok.f, okD]
    rw [if_pos (by omega)]
  | succ d ih =>
    intro k op n l hd hk
    obtain ⟨k, rfl⟩ : ∃ m, k = m + 1 := ⟨k - 1, by omega⟩
    have e : wrap64 (((d + 1 : Nat) : Int) - 1) = (d : Int) := by unfold wrap64; omega
    simp only [spec_l4Ok.f, okD]
    rw [e, if_neg (by omega)]
    by_cases h0 : op = 0
    · rw [if_pos h0, if_pos h0]
      unfold spec_l6In.f
      by_cases hn : n ≥ 0
      · rw [if_pos hn]; simp only [Option.bind_some]
        by_cases hm : n ≤ 99999
        · rw [if_pos (by simpa using hm)]
          by_cases hl : l.length = 0
          · simp [hl]; omega
          · have : ((l.length : Int) == 0) = false := by simp; intro h; exact hl (by simp [h])
            rw [this, decide_eq_false hl, Bool.and_false]
        · rw [if_neg (by simpa using hm)]; simp [hm]
      · rw [if_neg hn]; simp; intro h; omega
    rw [if_neg h0, if_neg h0]
    by_cases h1 : op = 13
    · rw [if_pos h1, if_pos h1]
      unfold spec_l6In.f
      by_cases hn : n ≥ 0
      · rw [if_pos hn]; simp only [Option.bind_some]
        by_cases hm : n ≤ 3
        · rw [if_pos (by simpa using hm)]
          by_cases hl : l.length = 0
          · simp [hl]; omega
          · have : ((l.length : Int) == 0) = false := by simp; intro h; exact hl (by simp [h])
            rw [this, decide_eq_false hl, Bool.and_false]
        · rw [if_neg (by simpa using hm)]; simp; omega
      · rw [if_neg hn]; simp; intro h; omega
    rw [if_neg h1, if_neg h1, specOpValid_ok]; simp only [Option.bind_some]
    by_cases h2 : 1 ≤ op ∧ op ≤ 12
    · rw [if_pos (by simpa using h2)]
      by_cases h3 : n = 0
      · rw [if_pos h3]
        by_cases h4 : l.length = 2
        · rw [if_pos (by omega)]
          simp only [h2, h3, h4, and_self, decide_true, Bool.true_and]
          rw [if_pos (by omega), ih (by omega) (by omega)]; simp only [Option.bind_some]
          by_cases h6 : okD d (rd_T29 l 0).f0 (rd_T29 l 0).f1 (rd_T29 l 0).f2 = true
          · rw [if_pos h6, if_pos (by omega), ih (by omega) (by omega)]; simp [h6]
          · rw [if_neg h6]; simp [h6]
        · rw [if_neg (by omega)]; simp [h4]
      · rw [if_neg h3]; simp [h3]
    · rw [if_neg (by simpa using h2)]; simp [h2]
theorem specExprValid_ok {k : Nat} (hk : 6 ≤ k) (op n : Int) (l : List S29) : spec_ExprValid.f k op n l = some (okD 5 op n l) := by
  unfold spec_ExprValid.f
  rw [show (5 : Int) = ((5 : Nat) : Int) from rfl, specValid_l (by omega) (by omega)]; rfl

theorem leaf_ok {b : List Int} {p : Int} {k : Nat} (hb : ∀ x ∈ b, 0 ≤ x ∧ x ≤ 255) (hp0 : 0 ≤ p) (hp : p ≤ 900000) (hk : 1 ≤ k) :
    ∃ op n q, spec_l91Leaf.f k b p = some (op, n, [], q) ∧ p ≤ q ∧ q ≤ p + 2 := by
  unfold spec_l91Leaf.f spec_l4Leaf.f
  obtain ⟨c, ec, hc0, hc1⟩ := pick_ok (n := 4) hb hp0 (by omega) (by omega) hk
  obtain ⟨d, ed, hd0, hd1⟩ := pick_ok (p := p + 1) (n := 4) hb (by omega) (by omega) (by omega) hk
  obtain ⟨g, eg, hg0, hg1⟩ := pick_ok (p := p + 1) (n := 8) hb (by omega) (by omega) (by omega) hk
  rw [ec]; simp only [Option.bind_some]
  rw [ed, eg]; simp only [Option.bind_some]
  split
  · exact ⟨_, _, _, rfl, by omega, by omega⟩
  · split
    · first | rw [if_pos hg0, if_pos (by simpa using hg1)] | rw [if_pos (by simpa using hg1)]
      exact ⟨_, _, _, rfl, by omega, by omega⟩
    · exact ⟨_, _, _, rfl, by omega, by omega⟩
theorem expr_ok {b : List Int} (hb : ∀ x ∈ b, 0 ≤ x ∧ x ≤ 255) : ∀ (d : Nat) {k : Nat} {p a : Int}, a ≤ d → d ≤ 5 → 0 ≤ p → p ≤ 800000 - 5 * (2 : Int) ^ d → 2 * d + 4 ≤ k → -100 ≤ a →
    ∃ op n l q, spec_l91Expr.f k b p a = some (op, n, l, q) ∧ p ≤ q ∧ q ≤ p + (5 * (2 : Int) ^ d - 2) ∧ l.length ≤ 2 := by
  intro d
  induction d with
  | zero =>
    intro k p a ha _ hp0 hp hk _
    rw [Int.pow_zero] at hp
    obtain ⟨k, rfl⟩ : ∃ m, k = m + 2 := ⟨k - 2, by omega⟩
    rw [spec_l91Expr.f, if_pos (by omega), spec_l91Expr.j0, if_pos rfl]
    obtain ⟨op, n, q, e, h0, h1⟩ := leaf_ok (k := k) hb hp0 (by omega) (by omega)
    rw [e]; exact ⟨op, n, [], q, rfl, h0, by rw [Int.pow_zero]; omega, by simp⟩
  | succ d ih =>
    intro k p a ha hd5 hp0 hp hk ha2
    obtain ⟨k, rfl⟩ : ∃ m, k = m + 2 := ⟨k - 2, by omega⟩
    have hp2 := pow_pos' d
    have hp3 : (2 : Int) ^ d ≤ 2 ^ 5 := pow_le (by omega)
    have hs : (2 : Int) ^ (d + 1) = (2 : Int) ^ d * 2 := Int.pow_succ 2 d
    rw [spec_l91Expr.f]
    by_cases h : a < 2
    · rw [if_pos h, spec_l91Expr.j0, if_pos rfl]
      obtain ⟨op, n, q, e, h0, h1⟩ := leaf_ok (k := k) hb hp0 (by omega) (by omega)
      rw [e]; exact ⟨op, n, [], q, rfl, h0, by omega, by simp⟩
    · rw [if_neg h]
      obtain ⟨c, ec, hc0, hc1⟩ := pick_ok (n := 3) (k := k + 1) hb hp0 (by omega) (by omega) (by omega)
      rw [ec]; simp only [Option.bind_some]
      rw [spec_l91Expr.j0]
      split
      · obtain ⟨op, n, q, e, h0, h1⟩ := leaf_ok (k := k) (p := p + 1) hb (by omega) (by omega) (by omega)
        rw [e]; exact ⟨op, n, [], q, rfl, by omega, by omega, by simp⟩
      · unfold spec_l91Op.f spec_l4Both.f
        obtain ⟨g, eg, hg0, hg1⟩ := pick_ok (p := p + 1) (n := 12) (k := k) hb (by omega) (by omega) (by omega) (by omega)
        rw [eg]; simp only [Option.bind_some]
        have e1 : wrap64 (a - 1) = a - 1 := by unfold wrap64; omega
        rw [e1]
        obtain ⟨op1, n1, l1, q1, f1, i1, j1, _⟩ := ih (k := k) (p := p + 1 + 1) (a := a - 1) (by omega) (by omega) (by omega) (by omega) (by omega) (by omega)
        rw [f1]; simp only [Option.bind_some]
        obtain ⟨op2, n2, l2, q2, f2, i2, j2, _⟩ := ih (k := k) (p := q1) (a := a - 1) (by omega) (by omega) (by omega) (by omega) (by omega) (by omega)
        rw [f2]; simp only [Option.bind_some]
        exact ⟨_, _, _, _, rfl, by omega, by omega, by simp⟩
theorem spoilt_ok {b : List Int} {p : Int} {k : Nat} (hb : ∀ x ∈ b, 0 ≤ x ∧ x ≤ 255) (hp0 : 0 ≤ p) (hp : p ≤ 700000) (hk : 20 ≤ k) :
    ∃ op n l q, spec_l91Spoilt.f k b p = some (op, n, l, q) := by
  unfold spec_l91Spoilt.f spec_l4Both.f spec_l91Op.f spec_l4Leaf.f
  have h32 : (5 : Int) * 2 ^ 5 - 2 = 158 := by decide
  obtain ⟨c, ec, hc0, hc1⟩ := pick_ok (n := 4) hb hp0 (by omega) (by omega) (k := k) (by omega)
  rw [ec]; simp only [Option.bind_some]
  have e1 : wrap64 (2 + c) = 2 + c := by unfold wrap64; omega
  rw [e1]
  obtain ⟨op, n, l, q, e, h0, h1, hl⟩ := expr_ok hb 5 (k := k) (p := p + 1) (a := 2 + c) (by omega) (by omega) (by omega) (by omega) (by omega) (by omega)
  rw [e]; simp only [Option.bind_some]
  obtain ⟨d, ed, hd0, hd1⟩ := pick_ok (p := q) (n := 40) (k := k) hb (by omega) (by omega) (by omega) (by omega)
  rw [ed]; simp only [Option.bind_some]
  obtain ⟨g, eg, hg0, hg1⟩ := pick_ok (p := q + 1) (n := 2) (k := k) hb (by omega) (by omega) (by omega) (by omega)
  obtain ⟨op1, n1, q1, f1, i1, j1⟩ := leaf_ok (k := k) (p := q + 1) hb (by omega) (by omega) (by omega)
  obtain ⟨op2, n2, l2, q2, f2, _, _, _⟩ := expr_ok hb 5 (k := k) (p := q1) (a := 5) (by omega) (by omega) (by omega) (by omega) (by omega) (by omega)
  obtain ⟨g3, eg3, _, _⟩ := pick_ok (p := q + 1) (n := 12) (k := k) hb (by omega) (by omega) (by omega) (by omega)
  obtain ⟨op3, n3, l3, q3, f3, _, _, _⟩ := expr_ok hb 5 (k := k) (p := q + 1 + 1) (a := 4) (by omega) (by omega) (by omega) (by omega) (by omega) (by omega)
  rw [eg, f1]; simp only [Option.bind_some]
  rw [f2, eg3]; simp only [Option.bind_some]
  rw [f3]; simp only [Option.bind_some]
  split
  · first | rw [if_pos hg0, if_pos (by simpa using hg1)] | rw [if_pos (by simpa using hg1)]
    exact ⟨_, _, _, _, rfl⟩
  · split
    · first | rw [if_pos hg0, if_pos (by simpa using hg1)] | rw [if_pos (by simpa using hg1)]
      exact ⟨_, _, _, _, rfl⟩
    · split
      · rw [if_pos (by omega)]; exact ⟨_, _, _, _, rfl⟩
      · split
        · exact ⟨_, _, _, _, rfl⟩
        · split <;> exact ⟨_, _, _, _, rfl⟩

/-- An expression folded. -/
def fo : Nat → Int → Int → List S29 → Int × Int × List S29
  | 0, op, n, l => (op, n, l)
  | d + 1, op, n, l =>
    if l.length = 0 then (op, n, [])
    else
      if ((fo d (rd_T29 l 0).f0 (rd_T29 l 0).f1 (rd_T29 l 0).f2).1 = 0 ∧ (fo d (rd_T29 l 1).f0 (rd_T29 l 1).f1 (rd_T29 l 1).f2).1 = 0) ∧
          (0 ≤ ap op (fo d (rd_T29 l 0).f0 (rd_T29 l 0).f1 (rd_T29 l 0).f2).2.1 (fo d (rd_T29 l 1).f0 (rd_T29 l 1).f1 (rd_T29 l 1).f2).2.1 ∧
            ap op (fo d (rd_T29 l 0).f0 (rd_T29 l 0).f1 (rd_T29 l 0).f2).2.1 (fo d (rd_T29 l 1).f0 (rd_T29 l 1).f1 (rd_T29 l 1).f2).2.1 ≤ 99999) then
        (0, ap op (fo d (rd_T29 l 0).f0 (rd_T29 l 0).f1 (rd_T29 l 0).f2).2.1 (fo d (rd_T29 l 1).f0 (rd_T29 l 1).f1 (rd_T29 l 1).f2).2.1, [])
      else (op, 0, [⟨(fo d (rd_T29 l 0).f0 (rd_T29 l 0).f1 (rd_T29 l 0).f2).1, (fo d (rd_T29 l 0).f0 (rd_T29 l 0).f1 (rd_T29 l 0).f2).2.1, (fo d (rd_T29 l 0).f0 (rd_T29 l 0).f1 (rd_T29 l 0).f2).2.2⟩,
        ⟨(fo d (rd_T29 l 1).f0 (rd_T29 l 1).f1 (rd_T29 l 1).f2).1, (fo d (rd_T29 l 1).f0 (rd_T29 l 1).f1 (rd_T29 l 1).f2).2.1, (fo d (rd_T29 l 1).f0 (rd_T29 l 1).f1 (rd_T29 l 1).f2).2.2⟩])
theorem rd29_0 (x y : S29) : rd_T29 [x, y] 0 = x := rfl
theorem rd29_1 (x y : S29) : rd_T29 [x, y] 1 = y := rfl
/-- The three ways a fold ends. -/
theorem fo_cases {d : Nat} {op n : Int} {l : List S29} (hl : l.length ≠ 0) {a b : Int × Int × List S29}
    (ha : fo d (rd_T29 l 0).f0 (rd_T29 l 0).f1 (rd_T29 l 0).f2 = a) (hb : fo d (rd_T29 l 1).f0 (rd_T29 l 1).f1 (rd_T29 l 1).f2 = b) :
    fo (d + 1) op n l = if (a.1 = 0 ∧ b.1 = 0) ∧ (0 ≤ ap op a.2.1 b.2.1 ∧ ap op a.2.1 b.2.1 ≤ 99999) then (0, ap op a.2.1 b.2.1, []) else (op, 0, [⟨a.1, a.2.1, a.2.2⟩, ⟨b.1, b.2.1, b.2.2⟩]) := by
  subst ha; subst hb
  rw [fo, if_neg hl]
theorem fo_ok {d : Nat} : ∀ {op n : Int} {l : List S29}, okD d op n l = true → okD d (fo d op n l).1 (fo d op n l).2.1 (fo d op n l).2.2 = true := by
  induction d with
  | zero => intro op n l h; simp [okD] at h
  | succ d ih =>
    intro op n l h
    by_cases hl : l.length = 0
    · rw [fo, if_pos hl]
      have hn : l = [] := List.length_eq_zero_iff.mp hl
      subst hn; exact h
    · obtain ⟨c, hc, ho, hn, h2, h3, h4⟩ := ok_parts h hl
      obtain rfl : d = c := by omega
      have i1 := ih h3
      have i2 := ih h4
      rw [fo_cases hl rfl rfl]
      generalize fo d (rd_T29 l 0).f0 (rd_T29 l 0).f1 (rd_T29 l 0).f2 = a at *
      generalize fo d (rd_T29 l 1).f0 (rd_T29 l 1).f1 (rd_T29 l 1).f2 = b at *
      split
      · rename_i hc
        simp only [okD]
        rw [if_pos trivial]
        simp [hc.2]
      · simp only [okD]
        rw [if_neg (by omega), if_neg (by omega), rd29_0, rd29_1, i1, i2]
        simp [ho]
theorem num_word {d : Nat} {a : Int × Int × List S29} (h : okD d a.1 a.2.1 a.2.2 = true) (h0 : a.1 = 0) : Word a.2.1 := by
  cases d with
  | zero => simp [okD] at h
  | succ d =>
    simp only [okD] at h
    rw [if_pos h0] at h
    simp at h
    unfold Word; omega
theorem fo_again {d : Nat} : ∀ {op n : Int} {l : List S29}, okD d op n l = true → fo d (fo d op n l).1 (fo d op n l).2.1 (fo d op n l).2.2 = fo d op n l := by
  induction d with
  | zero => intro op n l h; simp [okD] at h
  | succ d ih =>
    intro op n l h
    by_cases hl : l.length = 0
    · have e : fo (d + 1) op n l = (op, n, []) := by rw [fo, if_pos hl]
      rw [e]
      show fo (d + 1) op n [] = _
      rw [fo, if_pos (show ([] : List S29).length = 0 from rfl)]
    · obtain ⟨c, hc, ho, hn, h2, h3, h4⟩ := ok_parts h hl
      obtain rfl : d = c := by omega
      have i1 := ih h3
      have i2 := ih h4
      rw [fo_cases hl rfl rfl]
      generalize fo d (rd_T29 l 0).f0 (rd_T29 l 0).f1 (rd_T29 l 0).f2 = a at *
      generalize fo d (rd_T29 l 1).f0 (rd_T29 l 1).f1 (rd_T29 l 1).f2 = b at *
      by_cases hcnd : (a.1 = 0 ∧ b.1 = 0) ∧ (0 ≤ ap op a.2.1 b.2.1 ∧ ap op a.2.1 b.2.1 ≤ 99999)
      · rw [if_pos hcnd]
        show fo (d + 1) 0 (ap op a.2.1 b.2.1) [] = _
        rw [fo, if_pos (show ([] : List S29).length = 0 from rfl)]
      · rw [if_neg hcnd]
        show fo (d + 1) op 0 [⟨a.1, a.2.1, a.2.2⟩, ⟨b.1, b.2.1, b.2.2⟩] = _
        rw [fo_cases (a := a) (b := b) (by simp) (by rw [rd29_0]; exact i1) (by rw [rd29_1]; exact i2), if_neg hcnd]
theorem implFold_l {d : Nat} : ∀ {k : Nat} {op n : Int} {l : List S29}, okD d op n l = true → 2 * d + 2 ≤ k → impl_exprFold.f k op n l = some (fo d op n l) := by
  induction d with
  | zero => intro k op n l h; simp [okD] at h
  | succ d ih =>
    intro k op n l h hk
    obtain ⟨k, rfl⟩ : ∃ m, k = m + 2 := ⟨k - 2, by omega⟩
    rw [impl_exprFold.f]
    by_cases hl : l.length = 0
    · rw [if_pos (by omega), fo, if_pos hl]
    · obtain ⟨c, hc, ho, hn, h2, h3, h4⟩ := ok_parts h hl
      obtain rfl : d = c := by omega
      have i1 := fo_ok h3
      have i2 := fo_ok h4
      rw [if_neg (by omega), if_pos (by omega), ih h3 (by omega), Option.bind_some, if_pos (by omega), ih h4 (by omega), Option.bind_some, fo_cases hl rfl rfl]
      generalize fo d (rd_T29 l 0).f0 (rd_T29 l 0).f1 (rd_T29 l 0).f2 = a at *
      generalize fo d (rd_T29 l 1).f0 (rd_T29 l 1).f1 (rd_T29 l 1).f2 = b at *
      by_cases ha : a.1 = 0
      · rw [if_pos ha, impl_exprFold.j0]
        by_cases hb : b.1 = 0
        · rw [if_pos (by simpa using hb), implapply_ok (num_word i1 ha) (num_word i2 hb), Option.bind_some]
          by_cases h0 : 0 ≤ ap op a.2.1 b.2.1
          · rw [if_pos h0]
            by_cases h1 : ap op a.2.1 b.2.1 ≤ 99999
            · rw [if_pos h1, if_pos ⟨⟨ha, hb⟩, h0, h1⟩]
            · rw [if_neg h1, if_neg (fun hc => h1 hc.2.2)]
          · rw [if_neg h0, if_neg (fun hc => h0 hc.2.1)]
        · rw [if_neg (by simpa using hb), if_neg (fun hc => hb hc.1.2)]
      · rw [if_neg ha, impl_exprFold.j0, if_neg (by decide), if_neg (fun hc => ha hc.1.1)]
theorem specIn_ok (x : Int) : spec_l6In.f x 0 99999 = some (decide (0 ≤ x ∧ x ≤ 99999)) := by
  unfold spec_l6In.f
  split <;> simp <;> omega
theorem specFold_l {d : Nat} : ∀ {k : Nat} {op n : Int} {l : List S29}, okD d op n l = true → 2 * d + 3 ≤ k → spec_l4Fold.f k op n l = some (fo d op n l) := by
  induction d with
  | zero => intro k op n l h; simp [okD] at h
  | succ d ih =>
    intro k op n l h hk
    obtain ⟨k, rfl⟩ : ∃ m, k = m + 2 := ⟨k - 2, by omega⟩
    rw [spec_l4Fold.f]
    by_cases hl : l.length = 0
    · rw [if_pos (by omega), fo, if_pos hl]; rfl
    · obtain ⟨c, hc, ho, hn, h2, h3, h4⟩ := ok_parts h hl
      obtain rfl : d = c := by omega
      have i1 := fo_ok h3
      have i2 := fo_ok h4
      rw [if_neg (by omega), if_pos (by omega), ih h3 (by omega), Option.bind_some, if_pos (by omega), ih h4 (by omega), Option.bind_some, fo_cases hl rfl rfl]
      generalize fo d (rd_T29 l 0).f0 (rd_T29 l 0).f1 (rd_T29 l 0).f2 = a at *
      generalize fo d (rd_T29 l 1).f0 (rd_T29 l 1).f1 (rd_T29 l 1).f2 = b at *
      have hboth : ((spec_l4Both.f op a.1 a.2.1 a.2.2 b.1 b.2.1 b.2.2).bind fun bt => some (bt.1, bt.2.1, bt.2.2)) = some (op, 0, [⟨a.1, a.2.1, a.2.2⟩, ⟨b.1, b.2.1, b.2.2⟩]) := rfl
      by_cases ha : a.1 = 0
      · rw [if_pos ha, spec_l4Fold.j0]
        by_cases hb : b.1 = 0
        · have hw : (1 ≤ op ∧ op ≤ 12) ∧ Word a.2.1 ∧ Word b.2.1 := ⟨ho, num_word i1 ha, num_word i2 hb⟩
          rw [if_pos (by simpa using hb), specApply_ok (by omega), if_pos hw, Option.bind_some, specIn_ok, Option.bind_some]
          by_cases h0 : 0 ≤ ap op a.2.1 b.2.1 ∧ ap op a.2.1 b.2.1 ≤ 99999
          · rw [if_pos (by simpa using h0), if_pos ⟨⟨ha, hb⟩, h0⟩]; rfl
          · rw [if_neg (by simpa using h0), if_neg (fun hc => h0 hc.2)]; exact hboth
        · rw [if_neg (by simpa using hb), if_neg (fun hc => hb hc.1.2)]; exact hboth
      · rw [if_neg ha, spec_l4Fold.j0, if_neg (by decide), if_neg (fun hc => ha hc.1.1)]; exact hboth
theorem implFold_ok {k : Nat} (hk : 20 ≤ k) (op n : Int) (l : List S29) :
    impl_ExprFold.f k op n l = some (if okD 5 op n l = true then ((fo 5 op n l).1, (fo 5 op n l).2.1, (fo 5 op n l).2.2, true) else (0, 0, [], false)) := by
  unfold impl_ExprFold.f
  rw [implExprValid_ok (by omega), Option.bind_some]
  by_cases h : okD 5 op n l = true
  · rw [if_pos h, if_pos h, implFold_l h (by omega)]; rfl
  · rw [if_neg h, if_neg h]
theorem specFold_ok {k : Nat} (hk : 20 ≤ k) (op n : Int) (l : List S29) :
    spec_ExprFold.f k op n l = some (if okD 5 op n l = true then ((fo 5 op n l).1, (fo 5 op n l).2.1, (fo 5 op n l).2.2, true) else (0, 0, [], false)) := by
  unfold spec_ExprFold.f
  rw [specExprValid_ok (by omega), Option.bind_some]
  by_cases h : okD 5 op n l = true
  · rw [if_pos h, if_pos h, specFold_l h (by omega)]; rfl
  · rw [if_neg h, if_neg h]
theorem same_leaf {k : Nat} (hk : 3 ≤ k) (op n : Int) : laws_sameExpr.f k op n [] op n [] = some true := by
  obtain ⟨k, rfl⟩ : ∃ m, k = m + 3 := ⟨k - 3, by omega⟩
  rw [laws_sameExpr.f, if_pos rfl, if_pos rfl, laws_sameExpr.j0, if_neg (by decide), laws_sameExpr.l0, if_neg (by decide)]
theorem sameTree_l {d : Nat} : ∀ {k : Nat} {op n : Int} {l : List S29}, okD d op n l = true → 5 * d + 3 ≤ k → laws_sameExpr.f k op n l op n l = some true := by
  induction d with
  | zero => intro k op n l h; simp [okD] at h
  | succ d ih =>
    intro k op n l h hk
    by_cases hl : l.length = 0
    · have hn : l = [] := List.length_eq_zero_iff.mp hl
      subst hn
      exact same_leaf (by omega) op n
    · obtain ⟨c, hc, ho, hn, h2, h3, h4⟩ := ok_parts h hl
      obtain rfl : d = c := by omega
      obtain ⟨k, rfl⟩ : ∃ m, k = m + 5 := ⟨k - 5, by omega⟩
      have e1 : wrap64 (0 + 1) = 1 := by unfold wrap64; omega
      have e2 : wrap64 (1 + 1) = 2 := by unfold wrap64; omega
      rw [laws_sameExpr.f, if_pos rfl, if_pos rfl, laws_sameExpr.j0, if_neg (by simp), laws_sameExpr.l0, if_pos (by omega), if_pos (by omega), if_pos (by omega), ih h3 (by omega), Option.bind_some, if_pos rfl, e1,
        laws_sameExpr.l0, if_pos (by omega), if_pos (by omega), if_pos (by omega), ih h4 (by omega), Option.bind_some, if_pos rfl, e2, laws_sameExpr.l0, if_neg (by omega)]
theorem drawFold_ok {l : List Int} (hw : ∀ x ∈ l, (Lit.int .u8 x).wf = true) {k : Nat} (hk : 20 ≤ k) : ∃ op n t, spec_DrawExprFold.f k l = some (op, n, t) := by
  unfold spec_DrawExprFold.f
  obtain ⟨b, eb, hb⟩ := open_ok hw
  obtain ⟨c, ec, hc0, hc1⟩ := pick_ok (p := 0) (n := 3) (k := k) hb (by omega) (by omega) (by omega) (by omega)
  rw [eb, Option.bind_some, ec, Option.bind_some]
  by_cases h : c = 0
  · rw [if_pos h]
    unfold spec_l91Op.f spec_l4Both.f spec_l4Leaf.f
    obtain ⟨c1, e1, _, _⟩ := pick_ok (p := 0 + 1) (n := 12) (k := k) hb (by omega) (by omega) (by omega) (by omega)
    obtain ⟨c2, e2, _, _⟩ := pick_ok (p := 0 + 1 + 1) (n := 12) (k := k) hb (by omega) (by omega) (by omega) (by omega)
    obtain ⟨c3, e3, _, _⟩ := pick_ok (p := 0 + 1 + 1 + 1) (n := 9) (k := k) hb (by omega) (by omega) (by omega) (by omega)
    obtain ⟨c4, e4, _, _⟩ := pick_ok (p := 0 + 1 + 1 + 1 + 1) (n := 9) (k := k) hb (by omega) (by omega) (by omega) (by omega)
    obtain ⟨op, n, q, e5, _, _⟩ := leaf_ok (p := 0 + 1 + 1 + 1 + 1 + 1) (k := k) hb (by omega) (by omega) (by omega)
    simp only [e1, e2, e3, e4, e5, Option.bind_some]
    exact ⟨_, _, _, rfl⟩
  · rw [if_neg h]
    obtain ⟨op, n, t, q, e⟩ := spoilt_ok (p := 0 + 1) (k := k) hb (by omega) (by omega) (by omega)
    rw [e, Option.bind_some]
    exact ⟨_, _, _, rfl⟩

theorem fo_more {d : Nat} : ∀ {op n : Int} {l : List S29}, okD d op n l = true → fo (d + 1) op n l = fo d op n l := by
  induction d with
  | zero => intro op n l h; simp [okD] at h
  | succ d ih =>
    intro op n l h
    by_cases hl : l.length = 0
    · have e1 : fo (d + 1 + 1) op n l = (op, n, []) := by rw [fo, if_pos hl]
      have e2 : fo (d + 1) op n l = (op, n, []) := by rw [fo, if_pos hl]
      rw [e1, e2]
    · obtain ⟨c, hc, ho, hn, h2, h3, h4⟩ := ok_parts h hl
      obtain rfl : d = c := by omega
      rw [fo_cases (d := d + 1) hl (ih h3) (ih h4), fo_cases (d := d) hl rfl rfl]
/-- The last part of the law, where what was folded is not a number. -/
theorem parts_end {k : Nat} (hk : 40 ≤ k) {op op' n n' : Int} {t : List S29} {d : Nat} {a b : Int × Int × List S29} (ho : op' = op) (ha : okD d a.1 a.2.1 a.2.2 = true) (hb : okD d b.1 b.2.1 b.2.2 = true) (hd : d ≤ 5) :
    laws_FnFoldParts.j1 k true true false op n t op' n' [⟨a.1, a.2.1, a.2.2⟩, ⟨b.1, b.2.1, b.2.2⟩] a.1 a.2.1 a.2.2 b.1 b.2.1 b.2.2 = some true := by
  obtain ⟨k, rfl⟩ : ∃ m, k = m + 1 := ⟨k - 1, by omega⟩
  rw [laws_FnFoldParts.j1, if_pos rfl, if_pos rfl, if_pos ho, if_pos (by simp), rd29_0, sameTree_l ha (by omega), Option.bind_some, if_pos rfl, if_pos (by simp), rd29_1, sameTree_l hb (by omega), Option.bind_some, if_pos rfl]
  rfl
theorem FnFoldParts : laws_FnFoldParts.Pure := by
  intro l _ _ hw
  obtain ⟨K, hK⟩ : ∃ K : Nat, 99 ≤ K := ⟨99, Nat.le_refl _⟩
  refine ⟨K + 1, ?_⟩
  unfold laws_FnFoldParts.f
  by_cases hl : (l.length : Int) > 1048576
  · rw [if_pos hl]
  rw [if_neg hl]
  obtain ⟨op, n, t, e⟩ := drawFold_ok hw (k := K + 1) (by omega)
  rw [e, Option.bind_some, implFold_ok (by omega), specFold_ok (by omega), Option.bind_some, Option.bind_some]
  by_cases h : okD 5 op n t = true
  · rw [if_pos h]
    have i := fo_ok h
    have s : laws_sameExpr.f (K + 1) (fo 5 op n t).1 (fo 5 op n t).2.1 (fo 5 op n t).2.2 (fo 5 op n t).1 (fo 5 op n t).2.1 (fo 5 op n t).2.2 = some true := sameTree_l i (by omega)
    rw [if_neg (by simp), s, Option.bind_some, if_pos rfl, laws_FnFoldParts.j0, if_neg (by simp)]
    clear s
    by_cases hr : (fo 5 op n t).2.2.length = 0
    · rw [if_pos (by simpa using hr)]
    · rw [if_neg (by simpa using hr)]
      have ht : t.length ≠ 0 := by
        intro h0
        apply hr
        rw [fo, if_pos h0]; rfl
      obtain ⟨c, hc, ho, hn, h2, h3, h4⟩ := ok_parts h ht
      obtain rfl : c = 4 := by omega
      have i1 := fo_ok h3
      have i2 := fo_ok h4
      have f1 := implFold_ok (k := K) (by omega) (rd_T29 t 0).f0 (rd_T29 t 0).f1 (rd_T29 t 0).f2
      have f2 := implFold_ok (k := K) (by omega) (rd_T29 t 1).f0 (rd_T29 t 1).f1 (rd_T29 t 1).f2
      rw [if_pos (ok_more h3), fo_more h3] at f1
      rw [if_pos (ok_more h4), fo_more h4] at f2
      rw [fo_cases ht rfl rfl] at hr
      rw [fo_cases ht rfl rfl]
      generalize fo 4 (rd_T29 t 0).f0 (rd_T29 t 0).f1 (rd_T29 t 0).f2 = a at *
      generalize fo 4 (rd_T29 t 1).f0 (rd_T29 t 1).f1 (rd_T29 t 1).f2 = b at *
      by_cases hcnd : (a.1 = 0 ∧ b.1 = 0) ∧ (0 ≤ ap op a.2.1 b.2.1 ∧ ap op a.2.1 b.2.1 ≤ 99999)
      · rw [if_pos hcnd] at hr
        exact absurd rfl hr
      · rw [if_neg hcnd, if_pos (show (0 : Int) < (t.length : Int) by omega), f1, Option.bind_some, if_pos (show (1 : Int) < (t.length : Int) by omega), f2, Option.bind_some, implApply_ok, Option.bind_some]
        have fin := parts_end (k := K) (by omega) (op := op) (op' := op) (n := n) (n' := 0) (t := t) rfl i1 i2 (by omega)
        by_cases ha : a.1 = 0
        · rw [if_pos ha]
          by_cases hb : b.1 = 0
          · have hwd : (1 ≤ op ∧ op ≤ 12) ∧ Word a.2.1 ∧ Word b.2.1 := ⟨ho, num_word i1 ha, num_word i2 hb⟩
            rw [if_pos hb, if_pos hwd, if_pos rfl]
            by_cases h0 : ap op a.2.1 b.2.1 ≥ 0
            · have h1 : ¬ ap op a.2.1 b.2.1 ≤ 99999 := fun h1 => hcnd ⟨⟨ha, hb⟩, h0, h1⟩
              rw [if_pos h0, decide_eq_false h1]
              exact fin
            · rw [if_neg h0]
              exact fin
          · rw [if_neg hb]
            exact fin
        · rw [if_neg ha]
          exact fin
  · rw [if_neg h, if_neg (by decide), same_leaf (by omega), Option.bind_some, if_pos rfl, laws_FnFoldParts.j0, if_pos (by decide), if_pos (by decide), same_leaf (by omega), Option.bind_some]

end Go.Proofs.Ytjohbglkocgdjaa.Pure
namespace Go.Proofs.Ytjohbglkocgdjaa.PrintWords
open Go Go.ChangeShapes Go.WideShapes
/-- The printed row asks for this word under this name. -/
theorem sized_ints {H : Type} {enc : TypeId × Value → H} {P : Program} {W : World} {base : Nat} {spare : Nat → Bool} {held : Bool} {t e : TypeId} {k : IntKind} {a : Option Addr} {len cap : Nat} {d : DataW H} {ps : List MemPlace} {ts : List TypeId} {ds : List (DataW H)} {j : Nat}
    (hsz : (DataW.weightsEach P ts ds).all (· ≤ reachBytes) = true) (ht : ts[j]? = some t) (hd : ds[j]? = some d) (hu : P.underlying t = some (.slice e)) (he : P.underlying e = some (.int k)) (hc : P.cellsOf e = 1) {B : Nat} (hB : P.bytesOf e = B)
    (h : DataW.Trod enc P W base spare held t (.slice a len cap) d ps) : len * B ≤ 140737488351232 :=
  Go.Proofs.YtjohbglkocgdjaaW.PrintWords.sized_ints hsz ht hd hu he hc hB h
end Go.Proofs.Ytjohbglkocgdjaa.PrintWords
