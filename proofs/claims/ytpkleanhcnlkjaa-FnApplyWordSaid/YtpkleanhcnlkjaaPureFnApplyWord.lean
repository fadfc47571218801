/- The law FnApplyWord, 'A result is a word', answers true for every input: what the program's functions compute is shown to answer it; conditions: none beyond the given statement's own. -/
import Derived.Test.YtpkleanhcnlkjaaApplyWordWalk
import Derived.Test.YtpkleanhcnlkjaaWSized
namespace Go.Proofs.Ytpkleanhcnlkjaa.Pure
open Go Go.RowKit Go.Proofs.Ytpkleanhcnlkjaa.PFnApplyWord Go.Proofs.YtpkleanhcnlkjaaW.PrintWords Go.Proofs.YtpkleanhcnlkjaaW.PrintLast Go.Proofs.YtpkleanhcnlkjaaW.PrintMore
set_option linter.unusedVariables false
set_option linter.unusedSimpArgs false

theorem w64 {n : Int} (h : -9223372036854775808 ≤ n) (h' : n ≤ 9223372036854775807) : wrap64 n = n := by unfold wrap64; omega
theorem w64_range (n : Int) : -9223372036854775808 ≤ wrap64 n ∧ wrap64 n ≤ 9223372036854775807 := by unfold wrap64; omega
theorem wf64 {n : Int} (h : (Lit.int .i64 n).wf = true) : -9223372036854775808 ≤ n ∧ n ≤ 9223372036854775807 := by
  simpa [Lit.wf, IntKind.min, IntKind.max, IntKind.signed, IntKind.bits] using h
theorem wf8 {n : Int} (h : (Lit.int .u8 n).wf = true) : 0 ≤ n ∧ n ≤ 255 := by
  simpa [Lit.wf, IntKind.min, IntKind.max, IntKind.signed, IntKind.bits] using h
theorem tm_range {x m : Int} (hx : 0 ≤ x) (hm : 0 < m) : 0 ≤ Int.tmod x m ∧ Int.tmod x m < m := by
  rw [Int.tmod_eq_emod_of_nonneg hx]; exact ⟨Int.emod_nonneg _ (by omega), Int.emod_lt_of_pos _ hm⟩
theorem td_range {x m : Int} (hx : 0 ≤ x) (hm : 0 < m) : 0 ≤ Int.tdiv x m ∧ Int.tdiv x m ≤ x := by
  rw [Int.tdiv_eq_ediv_of_nonneg hx]; exact ⟨Int.ediv_nonneg hx (by omega), Int.ediv_le_self _ hx⟩
theorem toInt_wrap (v : BitVec 64) : IntKind.i64.wrap (v.toNat : Int) = v.toInt := by
  rw [IntKind.wrap_i64, BitVec.toInt_eq_toNat_cond]
  have := v.isLt
  split <;> omega
theorem bits_and (x y : Int) : Go.bits .and .i64 x y = (BitVec.ofInt 64 x &&& BitVec.ofInt 64 y).toInt := toInt_wrap _
theorem bits_or (x y : Int) : Go.bits .or .i64 x y = (BitVec.ofInt 64 x ||| BitVec.ofInt 64 y).toInt := toInt_wrap _
theorem bits_xor (x y : Int) : Go.bits .xor .i64 x y = (BitVec.ofInt 64 x ^^^ BitVec.ofInt 64 y).toInt := toInt_wrap _
theorem xor_nonneg {x y : Int} (hx : 0 ≤ x) (hx' : x < 4611686018427387904) (hy : 0 ≤ y) (hy' : y < 4611686018427387904) :
    0 ≤ Go.bits .xor .i64 x y := by
  obtain ⟨a, rfl⟩ := Int.eq_ofNat_of_zero_le hx
  obtain ⟨b, rfl⟩ := Int.eq_ofNat_of_zero_le hy
  have ha : a < 2 ^ 62 := by omega
  have hb : b < 2 ^ 62 := by omega
  have h := Nat.xor_lt_two_pow ha hb
  rw [bits_xor, BitVec.toInt_eq_toNat_cond]
  have e : (BitVec.ofInt 64 (a : Int) ^^^ BitVec.ofInt 64 (b : Int)).toNat = a ^^^ b := by
    rw [BitVec.toNat_xor, BitVec.ofInt_natCast, BitVec.ofInt_natCast, BitVec.toNat_ofNat, BitVec.toNat_ofNat, Nat.mod_eq_of_lt (by omega), Nat.mod_eq_of_lt (by omega)]
  rw [e]
  split <;> omega
theorem rd_bytes {b : List Int} (hb : ∀ x ∈ b, 0 ≤ x ∧ x ≤ 255) (i : Int) : 0 ≤ rd b i ∧ rd b i ≤ 255 := by
  unfold rd
  rw [List.getD_eq_getElem?_getD]
  by_cases h : i.toNat < b.length
  · rw [List.getElem?_eq_getElem h]; exact hb _ (List.getElem_mem h)
  · rw [List.getElem?_eq_none (by omega)]; simp

theorem pick_ok {b : List Int} {p n : Int} {k : Nat} (hb : ∀ x ∈ b, 0 ≤ x ∧ x ≤ 255) (hp0 : 0 ≤ p) (hp : p ≤ 1000000) (hn : 1 ≤ n) (hk : 1 ≤ k) :
    ∃ v, spec_l6Rd_pick.f k b p n = some (v, p + 1) ∧ 0 ≤ v ∧ v < n := by
  obtain ⟨k, rfl⟩ : ∃ m, k = m + 1 := ⟨k - 1, by omega⟩
  have e0 : wrap64 (p + 1) = p + 1 := w64 (by omega) (by omega)
  have e1 : wrap64 (p + 1 - 1) = p := by unfold wrap64; omega
  unfold spec_l6Rd_pick.f
  rw [if_neg (by omega), e0]
  simp only [spec_l6Rd_pick.j0]
  rw [e1]
  by_cases h0 : b.length = 0
  · rw [if_pos (by simp [h0])]
    exact ⟨0, rfl, by omega, by omega⟩
  · have hl : 0 < (b.length : Int) := by omega
    rw [if_neg (by simp; intro h; exact h0 (by simp [h]))]
    by_cases h1 : p < (b.length : Int)
    · rw [if_pos h1, if_pos hp0, if_neg (by omega)]
      have hr := rd_bytes hb p
      rw [w64 (n := rd b p) (by omega) (by omega)]
      have ht := tm_range (x := rd b p) (m := n) hr.1 (by omega)
      exact ⟨_, rfl, ht.1, ht.2⟩
    · have t1 := tm_range (x := p) (m := (b.length : Int)) hp0 hl
      have e2 : wrap64 (wrap64 (p * 7) + 3) = p * 7 + 3 := by unfold wrap64; omega
      have t2 := tm_range (x := p * 7 + 3) (m := (b.length : Int)) (by omega) hl
      have t3 := td_range (x := p) (m := (b.length : Int)) hp0 hl
      rw [e2, if_neg h1, if_neg (by omega), if_pos t1.1, if_pos t1.2, if_pos t2.1, if_pos t2.2, if_neg (by omega)]
      have r1 := rd_bytes hb (Int.tmod p (b.length : Int))
      have r2 := rd_bytes hb (Int.tmod (p * 7 + 3) (b.length : Int))
      generalize rd b (Int.tmod p (b.length : Int)) = x1 at *
      generalize rd b (Int.tmod (p * 7 + 3) (b.length : Int)) = x2 at *
      generalize Int.tdiv p (b.length : Int) = q at *
      have e3 : wrap64 (wrap64 (wrap64 (wrap64 (wrap64 x1 * 131) + wrap64 (wrap64 x2 * 1117)) + wrap64 (p * 29)) + wrap64 (wrap64 q * 53)) = x1 * 131 + x2 * 1117 + p * 29 + q * 53 := by
        unfold wrap64; omega
      rw [e3]
      have hX : 0 ≤ x1 * 131 + x2 * 1117 + p * 29 + q * 53 ∧ x1 * 131 + x2 * 1117 + p * 29 + q * 53 < 1000000000 := by omega
      generalize x1 * 131 + x2 * 1117 + p * 29 + q * 53 = X at *
      have hd := td_range (x := X) (m := 64) hX.1 (by omega)
      have e4 : wrap64 (Int.tdiv X 64) = Int.tdiv X 64 := w64 (by omega) (by omega)
      rw [e4]
      have hx := xor_nonneg (x := X) (y := Int.tdiv X 64) hX.1 (by omega) hd.1 (by omega)
      have ht := tm_range (m := n) hx (by omega)
      exact ⟨_, rfl, ht.1, ht.2⟩
theorem open_ok {l : List Int} (hw : ∀ x ∈ l, (Lit.int .u8 x).wf = true) : ∃ b, spec_l6Open.f l = some (b, 0) ∧ ∀ x ∈ b, 0 ≤ x ∧ x ≤ 255 := by
  unfold spec_l6Open.f
  split
  · rw [if_pos (by omega)]
    exact ⟨_, rfl, fun x hx => wf8 (hw x (List.mem_of_mem_take hx))⟩
  · exact ⟨_, rfl, fun x hx => wf8 (hw x hx)⟩

theorem specWrap_ok (n : Int) (h : -9223372036854775808 ≤ n ∧ n ≤ 9223372036854775807) : spec_Wrap.f n = some (wrap32 n) := by
  unfold spec_Wrap.f
  have hm : Int.tmod n 4294967296 = if 0 ≤ n then n % 4294967296 else -((-n) % 4294967296) := by
    split
    · exact Int.tmod_eq_emod_of_nonneg (by omega)
    · have := Int.neg_tmod (-n) 4294967296
      rw [Int.neg_neg] at this
      rw [this, Int.tmod_eq_emod_of_nonneg (by omega)]
  rw [hm]
  generalize hq : (if 0 ≤ n then n % 4294967296 else -((-n) % 4294967296)) = q
  have hq' : (q - n) % 4294967296 = 0 ∧ -4294967296 < q ∧ q < 4294967296 := by subst hq; split <;> omega
  unfold wrap32 wrap64
  split
  · congr 1; omega
  · split
    · congr 1; omega
    · congr 1; omega
theorem wrap32_range (n : Int) : -2147483648 ≤ wrap32 n ∧ wrap32 n ≤ 2147483647 := by unfold wrap32; omega

def Word (v : Int) : Prop := -2147483648 ≤ v ∧ v ≤ 2147483647
instance (v : Int) : Decidable (Word v) := by unfold Word; infer_instance
theorem rd_all {xs : List Int} {P : Int → Prop} (h : ∀ x ∈ xs, P x) {i : Int} (h0 : 0 ≤ i) (h1 : i < (xs.length : Int)) : P (rd xs i) := by
  unfold rd
  rw [List.getD_eq_getElem?_getD, List.getElem?_eq_getElem (by omega)]
  exact h _ (List.getElem_mem _)
theorem l91Word_ok {b : List Int} {p : Int} {k : Nat} (hb : ∀ x ∈ b, 0 ≤ x ∧ x ≤ 255) (hp0 : 0 ≤ p) (hp : p ≤ 900000) (hk : 1 ≤ k) :
    ∃ v q, spec_l91Word.f k b p = some (v, q) ∧ Word v ∧ p ≤ q ∧ q ≤ p + 5 := by
  unfold spec_l91Word.f
  obtain ⟨c, ec, hc0, hc1⟩ := pick_ok (n := 6) hb hp0 (by omega) (by omega) hk
  rw [ec]; simp only [Option.bind_some]
  split
  · obtain ⟨d, ed, hd0, hd1⟩ := pick_ok (p := p + 1) (n := 8) hb (by omega) (by omega) (by omega) hk
    rw [ed]; simp only [Option.bind_some]
    rw [if_pos hd0, if_pos (by simpa using hd1)]
    exact ⟨_, _, rfl, rd_all (by unfold Word; decide) hd0 (by simpa using hd1), by omega, by omega⟩
  · split
    · obtain ⟨d1, e1, _, _⟩ := pick_ok (p := p + 1) (n := 256) hb (by omega) (by omega) (by omega) hk
      obtain ⟨d2, e2, _, _⟩ := pick_ok (p := p + 1 + 1) (n := 256) hb (by omega) (by omega) (by omega) hk
      obtain ⟨d3, e3, _, _⟩ := pick_ok (p := p + 1 + 1 + 1) (n := 256) hb (by omega) (by omega) (by omega) hk
      obtain ⟨d4, e4, _, _⟩ := pick_ok (p := p + 1 + 1 + 1 + 1) (n := 200) hb (by omega) (by omega) (by omega) hk
      rw [e1]; simp only [Option.bind_some]
      rw [e2]; simp only [Option.bind_some]
      rw [e3]; simp only [Option.bind_some]
      rw [e4]; simp only [Option.bind_some]
      rw [specWrap_ok _ (w64_range _)]; simp only [Option.bind_some]
      exact ⟨_, _, rfl, wrap32_range _, by omega, by omega⟩
    · split
      · obtain ⟨d1, e1, h0, h1⟩ := pick_ok (p := p + 1) (n := 200) hb (by omega) (by omega) (by omega) hk
        rw [e1]; simp only [Option.bind_some]
        exact ⟨_, _, rfl, by unfold Word wrap64; omega, by omega, by omega⟩
      · obtain ⟨d1, e1, h0, h1⟩ := pick_ok (p := p + 1) (n := 20) hb (by omega) (by omega) (by omega) hk
        rw [e1]; simp only [Option.bind_some]
        exact ⟨_, _, rfl, by unfold Word; omega, by omega, by omega⟩

theorem l91Any_ok {b : List Int} {p : Int} {k : Nat} (hb : ∀ x ∈ b, 0 ≤ x ∧ x ≤ 255) (hp0 : 0 ≤ p) (hp : p ≤ 800000) (hk : 1 ≤ k) :
    ∃ v q, spec_l91Any.f k b p = some (v, q) ∧ (-9223372036854775808 ≤ v ∧ v ≤ 9223372036854775807) ∧ p ≤ q ∧ q ≤ p + 7 := by
  unfold spec_l91Any.f
  obtain ⟨c, ec, hc0, hc1⟩ := pick_ok (n := 4) hb hp0 (by omega) (by omega) hk
  rw [ec]; simp only [Option.bind_some]
  split
  · obtain ⟨v, q, ev, hv, hq0, hq1⟩ := l91Word_ok (p := p + 1) hb (by omega) (by omega) hk
    rw [ev]; simp only [Option.bind_some]
    obtain ⟨d, ed, hd0, hd1⟩ := pick_ok (p := q) (n := 6) hb (by omega) (by omega) (by omega) hk
    rw [ed]; simp only [Option.bind_some]
    rw [if_pos hd0, if_pos (by simpa using hd1)]
    exact ⟨_, _, rfl, w64_range _, by omega, by omega⟩
  · split
    · obtain ⟨d, ed, hd0, hd1⟩ := pick_ok (p := p + 1) (n := 7) hb (by omega) (by omega) (by omega) hk
      rw [ed]; simp only [Option.bind_some]
      rw [if_pos hd0, if_pos (by simpa using hd1)]
      exact ⟨_, _, rfl, rd_all (P := fun v => -9223372036854775808 ≤ v ∧ v ≤ 9223372036854775807) (by decide) hd0 (by simpa using hd1), by omega, by omega⟩
    · obtain ⟨v, q, ev, hv, hq0, hq1⟩ := l91Word_ok (p := p + 1) hb (by omega) (by omega) hk
      rw [ev]; simp only [Option.bind_some]
      exact ⟨_, _, rfl, by unfold Word at hv; omega, by omega, by omega⟩

theorem implWrap_ok (n : Int) : impl_Wrap.f n = some (wrap32 n) := by
  unfold impl_Wrap.f
  congr 1
  unfold wrap64 wrap32; omega

theorem implWordValid_ok (n : Int) : impl_WordValid.f n = some (decide (-2147483648 ≤ n ∧ n ≤ 2147483647)) := by
  unfold impl_WordValid.f
  split <;> simp <;> omega

theorem specWordValid_ok (n : Int) : spec_WordValid.f n = some (decide (-2147483648 ≤ n ∧ n ≤ 2147483647)) := by
  unfold spec_WordValid.f spec_l6In.f
  split <;> simp <;> omega

theorem specOpValid_ok (n : Int) : spec_OpValid.f n = some (decide (1 ≤ n ∧ n ≤ 12)) := by
  unfold spec_OpValid.f spec_l6In.f
  split <;> simp <;> omega

theorem implOpValid_ok (n : Int) : impl_OpValid.f n = some (decide (1 ≤ n ∧ n ≤ 12)) := by
  unfold impl_OpValid.f
  split <;> simp <;> omega

theorem pow_nat (i : Nat) : ((2 : Int) ^ i) = ((2 ^ i : Nat) : Int) := by simp
theorem pow_le {i j : Nat} (h : i ≤ j) : (2 : Int) ^ i ≤ 2 ^ j := by
  rw [pow_nat, pow_nat]; exact_mod_cast Nat.pow_le_pow_right (by decide) h
theorem pow_pos' (i : Nat) : (0 : Int) < 2 ^ i := by rw [pow_nat]; exact_mod_cast Nat.two_pow_pos i
theorem shl_one {n : Int} (h0 : 0 ≤ n) (h1 : n ≤ 62) : shl .i64 1 n = (2 : Int) ^ n.toNat := by
  unfold shl
  have hm : min n.toNat (IntKind.i64.bits) = n.toNat := Nat.min_eq_left (by show n.toNat ≤ 64; omega)
  rw [hm, IntKind.wrap_i64]
  have h2 : (2 : Int) ^ n.toNat ≤ 2 ^ 62 := pow_le (by omega)
  have h3 := pow_pos' n.toNat
  omega
theorem shr_small' {x n : Int} (h0 : 0 ≤ n) (h1 : n ≤ 64) : shr .i64 x n = x / (2 : Int) ^ n.toNat := by
  unfold shr
  have hm : min n.toNat (IntKind.i64.bits) = n.toNat := Nat.min_eq_left (by show n.toNat ≤ 64; omega)
  rw [hm]
theorem wraps_i64 (n : Int) (h₀ : 0 ≤ n) (h₁ : n < 2 ^ 63) : IntKind.i64.wrap n = n := by rw [IntKind.wrap_i64]; omega
theorem mask {x n : Int} (hx0 : 0 ≤ x) (hx : x < 9223372036854775808) (h0 : 0 ≤ n) (h1 : n ≤ 62) : Go.bits .and .i64 x ((2 : Int) ^ n.toNat - 1) = x % (2 : Int) ^ n.toNat :=
  bits_mask .i64 63 (by decide) wraps_i64 n.toNat (by omega) x hx0 (by omega)
theorem pow_dvd {i j : Nat} (h : i ≤ j) : (2 : Int) ^ i ∣ 2 ^ j := ⟨(2 : Int) ^ (j - i), by rw [← Int.pow_add]; congr 1; omega⟩
/-- One bit more. -/
theorem mod_pow_succ (x : Int) (i : Nat) : x % (2 : Int) ^ (i + 1) = x % (2 : Int) ^ i + x / (2 : Int) ^ i % 2 * (2 : Int) ^ i := by
  have hp := pow_pos' i
  have e1 := Int.mul_ediv_add_emod x ((2 : Int) ^ i)
  have e2 := Int.mul_ediv_add_emod (x / (2 : Int) ^ i) 2
  have m0 := Int.emod_nonneg x (b := (2 : Int) ^ i) (by omega)
  have m1 := Int.emod_lt_of_pos x hp
  have hs : (2 : Int) ^ (i + 1) = (2 : Int) ^ i * 2 := Int.pow_succ 2 i
  generalize x / (2 : Int) ^ i / 2 = q at *
  have hb : x / (2 : Int) ^ i % 2 = 0 ∨ x / (2 : Int) ^ i % 2 = 1 := by omega
  have e3 : x = x % (2 : Int) ^ i + x / (2 : Int) ^ i % 2 * (2 : Int) ^ i + (2 : Int) ^ (i + 1) * q := by
    rw [hs, Int.mul_assoc]
    rw [← e2] at e1
    rw [Int.mul_add] at e1
    rw [Int.mul_comm (x / (2 : Int) ^ i % 2)]
    omega
  generalize hr : x % (2 : Int) ^ i + x / (2 : Int) ^ i % 2 * (2 : Int) ^ i = r at *
  have hr0 : 0 ≤ r ∧ r < (2 : Int) ^ (i + 1) := by
    rcases hb with hb | hb <;> rw [hb] at hr <;> omega
  rw [e3, Int.add_mul_emod_self_left, Int.emod_eq_of_lt hr0.1 hr0.2]

/-- The word of 32 bits that is congruent to a number. -/
def B (n : Int) : BitVec 32 := BitVec.ofInt 32 n
theorem B_word {n : Int} (h : Word n) : (B n).toInt = n := by
  unfold Word at h
  exact BitVec.toInt_ofInt_eq_self (by decide) (by show -2147483648 ≤ n; omega) (by show n < 2147483648; omega)
theorem B_toInt (x : BitVec 32) : B x.toInt = x := BitVec.ofInt_toInt
theorem toInt_word (x : BitVec 32) : Word x.toInt := by
  have h1 := BitVec.toInt_lt (x := x)
  have h2 := BitVec.le_toInt x
  unfold Word
  exact ⟨h2, Int.le_sub_one_of_lt h1⟩
theorem wrap32_B (n : Int) : wrap32 n = (B n).toInt := by
  unfold B
  rw [BitVec.toInt_ofInt]
  rw [Int.bmod_def]
  unfold wrap32
  split <;> omega
theorem B_wrap32 (n : Int) : B (wrap32 n) = B n := by rw [wrap32_B, B_toInt]
theorem B_add (x y : Int) : B (x + y) = B x + B y := BitVec.ofInt_add x y
theorem B_mul (x y : Int) : B (x * y) = B x * B y := BitVec.ofInt_mul x y
theorem B_sub (x y : Int) : B (x - y) = B x - B y := by
  have h : B (x - y) + B y = B x := by rw [← B_add]; congr 1; omega
  rw [← h, BitVec.add_sub_cancel]
theorem B64 {n : Int} (h : Word n) : BitVec.ofInt 64 n = (B n).signExtend 64 := by
  apply BitVec.eq_of_toInt_eq
  rw [BitVec.toInt_signExtend_of_le (by decide), B_word h]
  unfold Word at h
  exact BitVec.toInt_ofInt_eq_self (by decide) (by show -9223372036854775808 ≤ n; omega) (by show n < 9223372036854775808; omega)
theorem or32 {a b : Int} (ha : Word a) (hb : Word b) : Go.bits .or .i64 a b = (B a ||| B b).toInt := by
  rw [bits_or, B64 ha, B64 hb, ← BitVec.signExtend_or, BitVec.toInt_signExtend_of_le (by decide)]
theorem xor32 {a b : Int} (ha : Word a) (hb : Word b) : Go.bits .xor .i64 a b = (B a ^^^ B b).toInt := by
  rw [bits_xor, B64 ha, B64 hb, ← BitVec.signExtend_xor, BitVec.toInt_signExtend_of_le (by decide)]
theorem and32 {a b : Int} (ha : Word a) (hb : Word b) : Go.bits .and .i64 a b = (B a &&& B b).toInt := by
  rw [bits_and, B64 ha, B64 hb, ← BitVec.signExtend_and, BitVec.toInt_signExtend_of_le (by decide)]
theorem and31 (b : Int) : Go.bits .and .i64 b 31 = b % 32 := by
  rw [bits_and, BitVec.toInt_eq_toNat_cond]
  have e : (BitVec.ofInt 64 b &&& BitVec.ofInt 64 31).toNat = (b % 32).toNat := by
    have h31 : (BitVec.ofInt 64 31).toNat = 2 ^ 5 - 1 := by decide
    rw [BitVec.toNat_and, h31, BitVec.toNat_ofInt, Nat.and_two_pow_sub_one_eq_mod]
    omega
  rw [e]
  split <;> omega

/-- What an operator answers for two words. -/
def ap (op a b : Int) : Int :=
  if op = 1 then (B a ||| B b).toInt else if op = 2 then (B a ^^^ B b).toInt else if op = 3 then (B a &&& B b).toInt
  else if op = 4 then (if a = b then 1 else 0) else if op = 5 then (if a < b then 1 else 0)
  else if op = 6 then wrap32 (a * (2 : Int) ^ (b % 32).toNat) else if op = 7 then a / (2 : Int) ^ (b % 32).toNat
  else if op = 8 then wrap32 (a + b) else if op = 9 then wrap32 (a - b) else if op = 10 then wrap32 (a * b)
  else if op = 11 then (if b = 0 then -1 else wrap32 (Int.tdiv a b)) else (if b = 0 then a else Int.tmod a b)
theorem wrap32_wrap64 (n : Int) : wrap32 (wrap64 n) = wrap32 n := by unfold wrap32 wrap64; omega
theorem shl32 (a b : Int) : wrap32 (shl .i64 a (b % 32)) = wrap32 (a * (2 : Int) ^ (b % 32).toNat) := by
  unfold shl
  have hm : min (b % 32).toNat (IntKind.i64.bits) = (b % 32).toNat := Nat.min_eq_left (by show _ ≤ 64; omega)
  rw [hm, i64_w]
  exact wrap32_wrap64 _
theorem shr32 (a b : Int) : shr .i64 a (b % 32) = a / (2 : Int) ^ (b % 32).toNat := by
  unfold shr
  have hm : min (b % 32).toNat (IntKind.i64.bits) = (b % 32).toNat := Nat.min_eq_left (by show _ ≤ 64; omega)
  rw [hm]
theorem shl_range (a n : Int) : -9223372036854775808 ≤ shl .i64 a n ∧ shl .i64 a n ≤ 9223372036854775807 := by
  unfold shl
  rw [IntKind.wrap_i64]; omega
theorem op_cases {n : Int} (h : 1 ≤ n ∧ n ≤ 12) : n = 1 ∨ n = 2 ∨ n = 3 ∨ n = 4 ∨ n = 5 ∨ n = 6 ∨ n = 7 ∨ n = 8 ∨ n = 9 ∨ n = 10 ∨ n = 11 ∨ n = 12 := by omega
theorem implapply_ok {op a b : Int} (ha : Word a) (hb : Word b) : impl_apply.f op a b = some (ap op a b) := by
  have h0 : 0 ≤ b % 32 := by omega
  unfold impl_apply.f ap impl_truth.f
  simp only [implWrap_ok, Option.bind_some, and31, h0, if_true, wrap32_wrap64, shl32, shr32, or32 ha hb, xor32 ha hb, and32 ha hb]
  by_cases h1 : op = 1
  · rw [if_pos h1, if_pos h1]
  rw [if_neg h1, if_neg h1]
  by_cases h2 : op = 2
  · rw [if_pos h2, if_pos h2]
  rw [if_neg h2, if_neg h2]
  by_cases h3 : op = 3
  · rw [if_pos h3, if_pos h3]
  rw [if_neg h3, if_neg h3]
  by_cases h4 : op = 4
  · rw [if_pos h4, if_pos h4]
    by_cases hab : a = b <;> simp [hab]
  rw [if_neg h4, if_neg h4]
  by_cases h5 : op = 5
  · rw [if_pos h5, if_pos h5]
    by_cases hab : a < b <;> simp [hab]
  rw [if_neg h5, if_neg h5]
  by_cases h6 : op = 6
  · rw [if_pos h6, if_pos h6]
  rw [if_neg h6, if_neg h6]
  by_cases h7 : op = 7
  · rw [if_pos h7, if_pos h7]
  rw [if_neg h7, if_neg h7]
  by_cases h8 : op = 8
  · rw [if_pos h8, if_pos h8]
  rw [if_neg h8, if_neg h8]
  by_cases h9 : op = 9
  · rw [if_pos h9, if_pos h9]
  rw [if_neg h9, if_neg h9]
  by_cases h10 : op = 10
  · rw [if_pos h10, if_pos h10]
  rw [if_neg h10, if_neg h10]
  by_cases h11 : op = 11
  · rw [if_pos h11, if_pos h11]
    split <;> rfl
  rw [if_neg h11, if_neg h11]
  split <;> rfl
theorem implApply_ok (op a b : Int) : impl_Apply.f op a b = some (if (1 ≤ op ∧ op ≤ 12) ∧ Word a ∧ Word b then (ap op a b, true) else (0, false)) := by
  unfold impl_Apply.f
  rw [implOpValid_ok, implWordValid_ok, implWordValid_ok]; simp only [Option.bind_some]
  by_cases h1 : 1 ≤ op ∧ op ≤ 12
  · rw [if_pos (by simpa using h1)]
    by_cases h2 : Word a
    · rw [if_pos (by simpa [Word] using h2)]
      by_cases h3 : Word b
      · have hc : (1 ≤ op ∧ op ≤ 12) ∧ Word a ∧ Word b := ⟨h1, h2, h3⟩
        rw [if_pos (by simpa [Word] using h3), implapply_ok h2 h3, if_pos hc]; rfl
      · rw [if_neg (by simpa [Word] using h3), if_neg (by simp [h3])]
    · rw [if_neg (by simpa [Word] using h2), if_neg (by simp [h2])]
  · rw [if_neg (by simpa using h1), if_neg (by simp [h1])]
theorem imp (op : Int) {a b : Int} (ho : 1 ≤ op ∧ op ≤ 12) (ha : Word a) (hb : Word b) : impl_Apply.f op a b = some (ap op a b, true) := by
  have hc : (1 ≤ op ∧ op ≤ 12) ∧ Word a ∧ Word b := ⟨ho, ha, hb⟩
  rw [implApply_ok, if_pos hc]
theorem ap_or (a b : Int) : ap 1 a b = (B a ||| B b).toInt := rfl
theorem ap_xor (a b : Int) : ap 2 a b = (B a ^^^ B b).toInt := rfl
theorem ap_and (a b : Int) : ap 3 a b = (B a &&& B b).toInt := rfl
theorem ap_add (a b : Int) : ap 8 a b = (B a + B b).toInt := by rw [← B_add, ← wrap32_B]; rfl
theorem ap_sub (a b : Int) : ap 9 a b = (B a - B b).toInt := by rw [← B_sub, ← wrap32_B]; rfl
theorem ap_mul (a b : Int) : ap 10 a b = (B a * B b).toInt := by rw [← B_mul, ← wrap32_B]; rfl
theorem wrap32_word (n : Int) : Word (wrap32 n) := wrap32_range n
theorem tmod_small {a b : Int} (h : b ≠ 0) : -(b.natAbs : Int) < Int.tmod a b ∧ Int.tmod a b < b.natAbs ∧ (0 ≤ a → 0 ≤ Int.tmod a b) ∧ (a ≤ 0 → Int.tmod a b ≤ 0) := by
  have hb : (0 : Int) < b.natAbs := by omega
  have e : Int.tmod a b = Int.tmod a (b.natAbs : Int) := by
    rcases Int.natAbs_eq b with h1 | h1
    · rw [← h1]
    · have : ((b.natAbs : Nat) : Int) = -b := by omega
      rw [this, Int.tmod_neg]
  rw [e]
  rcases Int.le_total 0 a with h0 | h0
  · have := tm_range h0 hb
    refine ⟨by omega, this.2, fun _ => this.1, fun h => ?_⟩
    have : a = 0 := by omega
    subst this; simp
  · have e2 := Int.neg_tmod (-a) (b.natAbs : Int)
    rw [Int.neg_neg] at e2
    have := tm_range (x := -a) (by omega) hb
    rw [e2]
    refine ⟨by omega, by omega, fun h => ?_, fun _ => by omega⟩
    have : a = 0 := by omega
    subst this; simp
theorem ap_word {op a b : Int} (ho : 1 ≤ op ∧ op ≤ 12) (ha : Word a) (hb : Word b) : Word (ap op a b) := by
  rcases op_cases ho with h | h | h | h | h | h | h | h | h | h | h | h <;> subst h
  · exact toInt_word _
  · exact toInt_word _
  · exact toInt_word _
  · show Word (if a = b then 1 else 0); split <;> unfold Word <;> omega
  · show Word (if a < b then 1 else 0); split <;> unfold Word <;> omega
  · exact wrap32_range _
  · show Word (a / (2 : Int) ^ (b % 32).toNat)
    have hp := pow_pos' (b % 32).toNat
    unfold Word at *
    generalize (2 : Int) ^ (b % 32).toNat = P at *
    have h1 : -2147483648 ≤ a / P := by
      rw [Int.le_ediv_iff_mul_le hp]
      have : (2147483648 : Int) * 1 ≤ 2147483648 * P := Int.mul_le_mul_of_nonneg_left (by omega) (by omega)
      omega
    have h2 : a / P < 2147483648 := by
      apply Int.ediv_lt_of_lt_mul hp
      have : (2147483648 : Int) * 1 ≤ 2147483648 * P := Int.mul_le_mul_of_nonneg_left (by omega) (by omega)
      omega
    omega
  · exact wrap32_range _
  · exact wrap32_range _
  · exact wrap32_range _
  · show Word (if b = 0 then -1 else wrap32 (Int.tdiv a b)); split
    · unfold Word; omega
    · exact wrap32_range _
  · show Word (if b = 0 then a else Int.tmod a b); split
    · exact ha
    · rename_i h
      have := tmod_small (a := a) h
      unfold Word at *
      omega

theorem specApply_ok {k : Nat} (hk : 1 ≤ k) (op a b : Int) : spec_Apply.f k op a b = some (if (1 ≤ op ∧ op ≤ 12) ∧ Word a ∧ Word b then (ap op a b, true) else (0, false)) := by
  obtain ⟨k, rfl⟩ : ∃ m, k = m + 1 := ⟨k - 1, by omega⟩
  have h0 : 0 ≤ b % 32 := by omega
  unfold spec_Apply.f
  simp only [spec_Apply.j0]
  rw [specOpValid_ok, specWordValid_ok, specWordValid_ok]; simp only [Option.bind_some]
  by_cases h1 : 1 ≤ op ∧ op ≤ 12
  · rw [if_pos (by simpa using h1)]
    by_cases h2 : Word a
    · rw [if_pos (by simpa [Word] using h2)]
      by_cases h3 : Word b
      · have hc : (1 ≤ op ∧ op ≤ 12) ∧ Word a ∧ Word b := ⟨h1, h2, h3⟩
        rw [if_neg (by simp; exact h3), if_pos hc]
        unfold ap spec_l2Flag.f spec_l2Shift.f spec_l2Divide.f spec_l2Remain.f
        simp only [specWrap_ok _ (w64_range _), specWrap_ok _ (shl_range _ _), Option.bind_some, and31, h0, if_true, wrap32_wrap64, shl32, shr32, or32 h2 h3, xor32 h2 h3, and32 h2 h3]
        by_cases h1 : op = 1
        · rw [if_pos h1, if_pos h1]
        rw [if_neg h1, if_neg h1]
        by_cases h2 : op = 2
        · rw [if_pos h2, if_pos h2]
        rw [if_neg h2, if_neg h2]
        by_cases h3 : op = 3
        · rw [if_pos h3, if_pos h3]
        rw [if_neg h3, if_neg h3]
        by_cases h4 : op = 4
        · rw [if_pos h4, if_pos h4]
          by_cases hab : a = b <;> simp [hab]
        rw [if_neg h4, if_neg h4]
        by_cases h5 : op = 5
        · rw [if_pos h5, if_pos h5]
          by_cases hab : a < b <;> simp [hab]
        rw [if_neg h5, if_neg h5]
        by_cases h6 : op = 6
        · rw [if_pos h6, if_pos h6]; rfl
        rw [if_neg h6, if_neg h6]
        by_cases h7 : op = 7
        · rw [if_pos h7, if_pos h7]
        rw [if_neg h7, if_neg h7]
        by_cases h8 : op = 8
        · rw [if_pos h8, if_pos h8]
        rw [if_neg h8, if_neg h8]
        by_cases h9 : op = 9
        · rw [if_pos h9, if_pos h9]
        rw [if_neg h9, if_neg h9]
        by_cases h10 : op = 10
        · rw [if_pos h10, if_pos h10]
        rw [if_neg h10, if_neg h10]
        by_cases h11 : op = 11
        · rw [if_pos h11, if_pos h11]
          split <;> rfl
        rw [if_neg h11, if_neg h11]
        split <;> rfl
      · rw [if_pos (by simp; unfold Word at h3; omega), if_neg (by simp [h3])]
    · rw [if_neg (by simpa [Word] using h2), if_pos trivial, if_neg (by simp [h2])]
  · rw [if_neg (by simpa using h1), if_pos trivial, if_neg (by simp [h1])]

theorem drawApply_ok {l : List Int} {k : Nat} (hw : ∀ x ∈ l, (Lit.int .u8 x).wf = true) (hk : 1 ≤ k) :
    ∃ op a b, spec_DrawApply.f k l = some (op, a, b) := by
  unfold spec_DrawApply.f spec_l91Op.f
  obtain ⟨b, eb, hb⟩ := open_ok hw
  rw [eb]; simp only [Option.bind_some]
  obtain ⟨c, ec, hc0, hc1⟩ := pick_ok (p := 0) (n := 12) hb (by omega) (by omega) (by omega) hk
  rw [ec]; simp only [Option.bind_some]
  obtain ⟨v, q, ev, hv, hq0, hq1⟩ := l91Word_ok (p := 0 + 1) hb (by omega) (by omega) hk
  rw [ev]; simp only [Option.bind_some]
  obtain ⟨v2, q2, ev2, hv2, hq20, hq21⟩ := l91Word_ok (p := q) hb (by omega) (by omega) hk
  rw [ev2]; simp only [Option.bind_some]
  obtain ⟨d, ed, hd0, hd1⟩ := pick_ok (p := q2) (n := 30) hb (by omega) (by omega) (by omega) hk
  rw [ed]; simp only [Option.bind_some]
  obtain ⟨g, eg, hg0, hg1⟩ := pick_ok (p := q2 + 1) (n := 2) hb (by omega) (by omega) (by omega) hk
  obtain ⟨v3, q3, ev3, _, _, _⟩ := l91Any_ok (p := q2 + 1) hb (by omega) (by omega) hk
  rw [eg, ev3]; simp only [Option.bind_some]
  split
  · first | rw [if_pos hg0, if_pos (by simpa using hg1)] | rw [if_pos (by simpa using hg1)]
    exact ⟨_, _, _, rfl⟩
  · split
    · exact ⟨_, _, _, rfl⟩
    · split
      · exact ⟨_, _, _, rfl⟩
      · split
        · exact ⟨_, _, _, rfl⟩
        · split <;> exact ⟨_, _, _, rfl⟩

theorem FnApplyWord : laws_FnApplyWord.Pure := by
  intro l0 _ _ hw
  refine ⟨90, ?_⟩
  unfold laws_FnApplyWord.f
  split
  · rfl
  obtain ⟨op, a, b, ed⟩ := drawApply_ok (k := 90) hw (by omega)
  rw [ed]; simp only [Option.bind_some]
  rw [implApply_ok, specApply_ok (by omega)]; simp only [Option.bind_some]
  by_cases h : (1 ≤ op ∧ op ≤ 12) ∧ Word a ∧ Word b
  · obtain ⟨ho, ha, hb⟩ := h
    have hc : (1 ≤ op ∧ op ≤ 12) ∧ Word a ∧ Word b := ⟨ho, ha, hb⟩
    simp only [if_pos hc]
    simp only [bne_self_eq_false, Bool.false_eq_true, if_false, if_true, Bool.not_true]
    have w := ap_word ho ha hb
    rw [implWordValid_ok]; simp only [Option.bind_some]
    rw [if_pos (by simpa [Word] using w)]
    split
    · rename_i h; subst h
      show (if (if a = b then (1 : Int) else 0) = 0 then some true else some ((if a = b then (1 : Int) else 0) == 1)) = some true
      by_cases hab : a = b <;> simp [hab]
    · split
      · rename_i h; subst h
        show (if (if a < b then (1 : Int) else 0) = 0 then some true else some ((if a < b then (1 : Int) else 0) == 1)) = some true
        by_cases hab : a < b <;> simp [hab]
      · rfl
  · simp only [if_neg h]
    simp

end Go.Proofs.Ytpkleanhcnlkjaa.Pure
namespace Go.Proofs.Ytpkleanhcnlkjaa.PrintWords
open Go Go.ChangeShapes Go.WideShapes
/-- The printed row asks for this word under this name. -/
theorem sized_ints {H : Type} {enc : TypeId × Value → H} {P : Program} {W : World} {base : Nat} {spare : Nat → Bool} {held : Bool} {t e : TypeId} {k : IntKind} {a : Option Addr} {len cap : Nat} {d : DataW H} {ps : List MemPlace} {ts : List TypeId} {ds : List (DataW H)} {j : Nat}
    (hsz : (DataW.weightsEach P ts ds).all (· ≤ reachBytes) = true) (ht : ts[j]? = some t) (hd : ds[j]? = some d) (hu : P.underlying t = some (.slice e)) (he : P.underlying e = some (.int k)) (hc : P.cellsOf e = 1) {B : Nat} (hB : P.bytesOf e = B)
    (h : DataW.Trod enc P W base spare held t (.slice a len cap) d ps) : len * B ≤ 140737488351232 :=
  Go.Proofs.YtpkleanhcnlkjaaW.PrintWords.sized_ints hsz ht hd hu he hc hB h
end Go.Proofs.Ytpkleanhcnlkjaa.PrintWords
