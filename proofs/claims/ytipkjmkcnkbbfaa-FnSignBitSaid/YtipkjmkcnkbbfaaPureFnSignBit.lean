/- The law FnSignBit, 'The highest bit is the sign', answers true for every input: what the program's functions compute is shown to answer it; conditions: none beyond the given statement's own. -/
import Derived.Test.YtipkjmkcnkbbfaaSignBitWalk
import Derived.Test.YtipkjmkcnkbbfaaWSized
namespace Go.Proofs.Ytipkjmkcnkbbfaa.Pure
open Go Go.RowKit Go.Proofs.Ytipkjmkcnkbbfaa.PFnSignBit Go.Proofs.YtipkjmkcnkbbfaaW.PrintWords Go.Proofs.YtipkjmkcnkbbfaaW.PrintLast Go.Proofs.YtipkjmkcnkbbfaaW.PrintMore
set_option linter.unusedVariables false
set_option linter.unusedSimpArgs false

theorem w64 {n : Int} (h : -9223372036854775808 ≤ n) (h' : n ≤ 9223372036854775807) : wrap64 n = n := by unfold wrap64; omega
theorem w64_range (n : Int) : -9223372036854775808 ≤ wrap64 n ∧ wrap64 n ≤ 9223372036854775807 := by unfold wrap64; omega
theorem wf64 {n : Int} (h : (Lit.int .i64 n).wf = true) : -9223372036854775808 ≤ n ∧ n ≤ 9223372036854775807 := by
  simpa [Lit.wf, IntKind.min, IntKind.max, IntKind.signed, IntKind.bits] using h
theorem wf8 {n : Int} (h : (Lit.int .u8 n).wf = true) : 0 ≤ n ∧ n ≤ 255 := by
  simpa [Lit.wf, IntKind.min, IntKind.max, IntKind.signed, IntKind.bits] using h
theorem tm_range {x m : Int} (hx : 0 ≤ x) (hm : 0 < m) : 0 ≤ Int.tmod x m ∧ Int.tmod x m < m := by
  rw [Int.tmod_eq_emod_of_nonneg hx]; exact ⟨Int.emod_nonneg _ (by omega), Int.emod_lt_of_pos _ hm⟩
theorem td_range {x m : Int} (hx : 0 ≤ x) (hm : 0 < m) : 0 ≤ Int.tdiv x m ∧ Int.tdiv x m ≤ x := by
  rw [Int.tdiv_eq_ediv_of_nonneg hx]; exact ⟨Int.ediv_nonneg hx (by omega), Int.ediv_le_self _ hx⟩
theorem toInt_wrap (v : BitVec 64) : IntKind.i64.wrap (v.toNat : Int) = v.toInt := by
  rw [IntKind.wrap_i64, BitVec.toInt_eq_toNat_cond]
  have := v.isLt
  split <;> omega
theorem bits_and (x y : Int) : Go.bits .and .i64 x y = (BitVec.ofInt 64 x &&& BitVec.ofInt 64 y).toInt := toInt_wrap _
theorem bits_or (x y : Int) : Go.bits .or .i64 x y = (BitVec.ofInt 64 x ||| BitVec.ofInt 64 y).toInt := toInt_wrap _
theorem bits_xor (x y : Int) : Go.bits .xor .i64 x y = (BitVec.ofInt 64 x ^^^ BitVec.ofInt 64 y).toInt := toInt_wrap _
theorem xor_nonneg {x y : Int} (hx : 0 ≤ x) (hx' : x < 4611686018427387904) (hy : 0 ≤ y) (hy' : y < 4611686018427387904) :
    0 ≤ Go.bits .xor .i64 x y := by
  obtain ⟨a, rfl⟩ := Int.eq_ofNat_of_zero_le hx
  obtain ⟨b, rfl⟩ := Int.eq_ofNat_of_zero_le hy
  have ha : a < 2 ^ 62 := by omega
  have hb : b < 2 ^ 62 := by omega
  have h := Nat.xor_lt_two_pow ha hb
  rw [bits_xor, BitVec.toInt_eq_toNat_cond]
  have e : (BitVec.ofInt 64 (a : Int) ^^^ BitVec.ofInt 64 (b : Int)).toNat = a ^^^ b := by
    rw [BitVec.toNat_xor, BitVec.ofInt_natCast, BitVec.ofInt_natCast, BitVec.toNat_ofNat, BitVec.toNat_ofNat, Nat.mod_eq_of_lt (by omega), Nat.mod_eq_of_lt (by omega)]
  rw [e]
  split <;> omega
theorem rd_bytes {b : List Int} (hb : ∀ x ∈ b, 0 ≤ x ∧ x ≤ 255) (i : Int) : 0 ≤ rd b i ∧ rd b i ≤ 255 := by
  unfold rd
  rw [List.getD_eq_getElem?_getD]
  by_cases h : i.toNat < b.length
  · rw [List.getElem?_eq_getElem h]; exact hb _ (List.getElem_mem h)
  · rw [List.getElem?_eq_none (by omega)]; simp

theorem pick_ok {b : List Int} {p n : Int} {k : Nat} (hb : ∀ x ∈ b, 0 ≤ x ∧ x ≤ 255) (hp0 : 0 ≤ p) (hp : p ≤ 1000000) (hn : 1 ≤ n) (hk : 1 ≤ k) :
    ∃ v, spec_l6Rd_pick.f k b p n = some (v, p + 1) ∧ 0 ≤ v ∧ v < n := by
  obtain ⟨k, rfl⟩ : ∃ m, k = m + 1 := ⟨k - 1, by omega⟩
  have e0 : wrap64 (p + 1) = p + 1 := w64 (by omega) (by omega)
  have e1 : wrap64 (p + 1 - 1) = p := by unfold wrap64; omega
  unfold spec_l6Rd_pick.f
  rw [if_neg (by omega), e0]
  simp only [spec_l6Rd_pick.j0]
  rw [e1]
  by_cases h0 : b.length = 0
  · rw [if_pos (by simp [h0])]
    exact ⟨0, rfl, by omega, by omega⟩
  · have hl : 0 < (b.length : Int) := by omega
    rw [if_neg (by simp; intro h; exact h0 (by simp [h]))]
    by_cases h1 : p < (b.length : Int)
    · rw [if_pos h1, if_pos hp0, if_neg (by omega)]
      have hr := rd_bytes hb p
      rw [w64 (n := rd b p) (by omega) (by omega)]
      have ht := tm_range (x := rd b p) (m := n) hr.1 (by omega)
      exact ⟨_, rfl, ht.1, ht.2⟩
    · have t1 := tm_range (x := p) (m := (b.length : Int)) hp0 hl
      have e2 : wrap64 (wrap64 (p * 7) + 3) = p * 7 + 3 := by unfold wrap64; omega
      have t2 := tm_range (x := p * 7 + 3) (m := (b.length : Int)) (by omega) hl
      have t3 := td_range (x := p) (m := (b.length : Int)) hp0 hl
      rw [e2, if_neg h1, if_neg (by omega), if_pos t1.1, if_pos t1.2, if_pos t2.1, if_pos t2.2, if_neg (by omega)]
      have r1 := rd_bytes hb (Int.tmod p (b.length : Int))
      have r2 := rd_bytes hb (Int.tmod (p * 7 + 3) (b.length : Int))
      generalize rd b (Int.tmod p (b.length : Int)) = x1 at *
      generalize rd b (Int.tmod (p * 7 + 3) (b.length : Int)) = x2 at *
      generalize Int.tdiv p (b.length : Int) = q at *
      have e3 : wrap64 (wrap64 (wrap64 (wrap64 (wrap64 x1 * 131) + wrap64 (wrap64 x2 * 1117)) + wrap64 (p * 29)) + wrap64 (wrap64 q * 53)) = x1 * 131 + x2 * 1117 + p * 29 + q * 53 := by
        unfold wrap64; omega
      rw [e3]
      have hX : 0 ≤ x1 * 131 + x2 * 1117 + p * 29 + q * 53 ∧ x1 * 131 + x2 * 1117 + p * 29 + q * 53 < 1000000000 := by omega
      generalize x1 * 131 + x2 * 1117 + p * 29 + q * 53 = X at *
      have hd := td_range (x := X) (m := 64) hX.1 (by omega)
      have e4 : wrap64 (Int.tdiv X 64) = Int.tdiv X 64 := w64 (by omega) (by omega)
      rw [e4]
      have hx := xor_nonneg (x := X) (y := Int.tdiv X 64) hX.1 (by omega) hd.1 (by omega)
      have ht := tm_range (m := n) hx (by omega)
      exact ⟨_, rfl, ht.1, ht.2⟩
theorem open_ok {l : List Int} (hw : ∀ x ∈ l, (Lit.int .u8 x).wf = true) : ∃ b, spec_l6Open.f l = some (b, 0) ∧ ∀ x ∈ b, 0 ≤ x ∧ x ≤ 255 := by
  unfold spec_l6Open.f
  split
  · rw [if_pos (by omega)]
    exact ⟨_, rfl, fun x hx => wf8 (hw x (List.mem_of_mem_take hx))⟩
  · exact ⟨_, rfl, fun x hx => wf8 (hw x hx)⟩

theorem specWrap_ok (n : Int) (h : -9223372036854775808 ≤ n ∧ n ≤ 9223372036854775807) : spec_Wrap.f n = some (wrap32 n) := by
  unfold spec_Wrap.f
  have hm : Int.tmod n 4294967296 = if 0 ≤ n then n % 4294967296 else -((-n) % 4294967296) := by
    split
    · exact Int.tmod_eq_emod_of_nonneg (by omega)
    · have := Int.neg_tmod (-n) 4294967296
      rw [Int.neg_neg] at this
      rw [this, Int.tmod_eq_emod_of_nonneg (by omega)]
  rw [hm]
  generalize hq : (if 0 ≤ n then n % 4294967296 else -((-n) % 4294967296)) = q
  have hq' : (q - n) % 4294967296 = 0 ∧ -4294967296 < q ∧ q < 4294967296 := by subst hq; split <;> omega
  unfold wrap32 wrap64
  split
  · congr 1; omega
  · split
    · congr 1; omega
    · congr 1; omega
theorem wrap32_range (n : Int) : -2147483648 ≤ wrap32 n ∧ wrap32 n ≤ 2147483647 := by unfold wrap32; omega

def Word (v : Int) : Prop := -2147483648 ≤ v ∧ v ≤ 2147483647
theorem rd_all {xs : List Int} {P : Int → Prop} (h : ∀ x ∈ xs, P x) {i : Int} (h0 : 0 ≤ i) (h1 : i < (xs.length : Int)) : P (rd xs i) := by
  unfold rd
  rw [List.getD_eq_getElem?_getD, List.getElem?_eq_getElem (by omega)]
  exact h _ (List.getElem_mem _)
theorem l91Word_ok {b : List Int} {p : Int} {k : Nat} (hb : ∀ x ∈ b, 0 ≤ x ∧ x ≤ 255) (hp0 : 0 ≤ p) (hp : p ≤ 900000) (hk : 1 ≤ k) :
    ∃ v q, spec_l91Word.f k b p = some (v, q) ∧ Word v ∧ p ≤ q ∧ q ≤ p + 5 := by
  unfold spec_l91Word.f
  obtain ⟨c, ec, hc0, hc1⟩ := pick_ok (n := 6) hb hp0 (by omega) (by omega) hk
  rw [ec]; simp only [Option.bind_some]
  split
  · obtain ⟨d, ed, hd0, hd1⟩ := pick_ok (p := p + 1) (n := 8) hb (by omega) (by omega) (by omega) hk
    rw [ed]; simp only [Option.bind_some]
    rw [if_pos hd0, if_pos (by simpa using hd1)]
    exact ⟨_, _, rfl, rd_all (by unfold Word; decide) hd0 (by simpa using hd1), by omega, by omega⟩
  · split
    · obtain ⟨d1, e1, _, _⟩ := pick_ok (p := p + 1) (n := 256) hb (by omega) (by omega) (by omega) hk
      obtain ⟨d2, e2, _, _⟩ := pick_ok (p := p + 1 + 1) (n := 256) hb (by omega) (by omega) (by omega) hk
      obtain ⟨d3, e3, _, _⟩ := pick_ok (p := p + 1 + 1 + 1) (n := 256) hb (by omega) (by omega) (by omega) hk
      obtain ⟨d4, e4, _, _⟩ := pick_ok (p := p + 1 + 1 + 1 + 1) (n := 200) hb (by omega) (by omega) (by omega) hk
      rw [e1]; simp only [Option.bind_some]
      rw [e2]; simp only [Option.bind_some]
      rw [e3]; simp only [Option.bind_some]
      rw [e4]; simp only [Option.bind_some]
      rw [specWrap_ok _ (w64_range _)]; simp only [Option.bind_some]
      exact ⟨_, _, rfl, wrap32_range _, by omega, by omega⟩
    · split
      · obtain ⟨d1, e1, h0, h1⟩ := pick_ok (p := p + 1) (n := 200) hb (by omega) (by omega) (by omega) hk
        rw [e1]; simp only [Option.bind_some]
        exact ⟨_, _, rfl, by unfold Word wrap64; omega, by omega, by omega⟩
      · obtain ⟨d1, e1, h0, h1⟩ := pick_ok (p := p + 1) (n := 20) hb (by omega) (by omega) (by omega) hk
        rw [e1]; simp only [Option.bind_some]
        exact ⟨_, _, rfl, by unfold Word; omega, by omega, by omega⟩

theorem specWordValid_ok (n : Int) : spec_WordValid.f n = some (decide (-2147483648 ≤ n ∧ n ≤ 2147483647)) := by
  unfold spec_WordValid.f spec_l6In.f
  split <;> simp <;> omega

theorem specUnsigned_ok (n : Int) : spec_Unsigned.f n = some (if -2147483648 ≤ n ∧ n ≤ 2147483647 then n % 4294967296 else -1) := by
  unfold spec_Unsigned.f
  rw [specWordValid_ok]
  simp only [Option.bind_some]
  by_cases h : -2147483648 ≤ n ∧ n ≤ 2147483647
  · rw [if_pos h]
    simp only [h, and_self, decide_true, if_true]
    split
    · congr 1; unfold wrap64; omega
    · congr 1 <;> omega
  · rw [if_neg h]
    simp [h]

theorem l1Power_l {k : Nat} : ∀ (d i : Nat) (n : Int), (n - i : Int) = d → n ≤ 62 → d < k → spec_l1Power.l0 k n ((2 : Int) ^ i) (i : Int) = some ((2 : Int) ^ n.toNat) := by
  induction k with
  | zero => intro d i n _ _ h; omega
  | succ k ih =>
    intro d i n hd hn hk
    simp only [spec_l1Power.l0]
    by_cases h : (i : Int) < n
    · rw [if_pos h]
      have hp : (2 : Nat) ^ i ≤ 2 ^ 62 := Nat.pow_le_pow_right (by decide) (by omega)
      have e1 : wrap64 ((2 : Int) ^ i * 2) = (2 : Int) ^ (i + 1) := by
        have hc : ((2 : Int) ^ i) = ((2 ^ i : Nat) : Int) := by simp
        have hp1 : 0 < 2 ^ i := Nat.two_pow_pos i
        have hp2 : (2 : Nat) ^ i ≤ 2 ^ 61 := Nat.pow_le_pow_right (by decide) (by omega)
        rw [Int.pow_succ, hc]; unfold wrap64; omega
      have e2 : wrap64 ((i : Int) + 1) = ((i + 1 : Nat) : Int) := by unfold wrap64; omega
      rw [e1, e2]
      exact ih (d - 1) (i + 1) n (by omega) hn (by omega)
    · rw [if_neg h]
      have : n.toNat = i := by omega
      rw [this]
theorem l1Power_ok {k : Nat} {n : Int} (h0 : 0 ≤ n) (h1 : n ≤ 62) (hk : 63 ≤ k) : spec_l1Power.f k n = some ((2 : Int) ^ n.toNat) := by
  unfold spec_l1Power.f
  exact l1Power_l n.toNat 0 n (by omega) h1 (by omega)

theorem pow_nat (i : Nat) : ((2 : Int) ^ i) = ((2 ^ i : Nat) : Int) := by simp
theorem pow_le {i j : Nat} (h : i ≤ j) : (2 : Int) ^ i ≤ 2 ^ j := by
  rw [pow_nat, pow_nat]; exact_mod_cast Nat.pow_le_pow_right (by decide) h
theorem pow_pos' (i : Nat) : (0 : Int) < 2 ^ i := by rw [pow_nat]; exact_mod_cast Nat.two_pow_pos i
theorem shl_one {n : Int} (h0 : 0 ≤ n) (h1 : n ≤ 62) : shl .i64 1 n = (2 : Int) ^ n.toNat := by
  unfold shl
  have hm : min n.toNat (IntKind.i64.bits) = n.toNat := Nat.min_eq_left (by show n.toNat ≤ 64; omega)
  rw [hm, IntKind.wrap_i64]
  have h2 : (2 : Int) ^ n.toNat ≤ 2 ^ 62 := pow_le (by omega)
  have h3 := pow_pos' n.toNat
  omega
theorem shr_small' {x n : Int} (h0 : 0 ≤ n) (h1 : n ≤ 64) : shr .i64 x n = x / (2 : Int) ^ n.toNat := by
  unfold shr
  have hm : min n.toNat (IntKind.i64.bits) = n.toNat := Nat.min_eq_left (by show n.toNat ≤ 64; omega)
  rw [hm]
theorem wraps_i64 (n : Int) (h₀ : 0 ≤ n) (h₁ : n < 2 ^ 63) : IntKind.i64.wrap n = n := by rw [IntKind.wrap_i64]; omega
theorem mask {x n : Int} (hx0 : 0 ≤ x) (hx : x < 9223372036854775808) (h0 : 0 ≤ n) (h1 : n ≤ 62) : Go.bits .and .i64 x ((2 : Int) ^ n.toNat - 1) = x % (2 : Int) ^ n.toNat :=
  bits_mask .i64 63 (by decide) wraps_i64 n.toNat (by omega) x hx0 (by omega)
theorem pow_dvd {i j : Nat} (h : i ≤ j) : (2 : Int) ^ i ∣ 2 ^ j := ⟨(2 : Int) ^ (j - i), by rw [← Int.pow_add]; congr 1; omega⟩
/-- One bit more. -/
theorem mod_pow_succ (x : Int) (i : Nat) : x % (2 : Int) ^ (i + 1) = x % (2 : Int) ^ i + x / (2 : Int) ^ i % 2 * (2 : Int) ^ i := by
  have hp := pow_pos' i
  have e1 := Int.mul_ediv_add_emod x ((2 : Int) ^ i)
  have e2 := Int.mul_ediv_add_emod (x / (2 : Int) ^ i) 2
  have m0 := Int.emod_nonneg x (b := (2 : Int) ^ i) (by omega)
  have m1 := Int.emod_lt_of_pos x hp
  have hs : (2 : Int) ^ (i + 1) = (2 : Int) ^ i * 2 := Int.pow_succ 2 i
  generalize x / (2 : Int) ^ i / 2 = q at *
  have hb : x / (2 : Int) ^ i % 2 = 0 ∨ x / (2 : Int) ^ i % 2 = 1 := by omega
  have e3 : x = x % (2 : Int) ^ i + x / (2 : Int) ^ i % 2 * (2 : Int) ^ i + (2 : Int) ^ (i + 1) * q := by
    rw [hs, Int.mul_assoc]
    rw [← e2] at e1
    rw [Int.mul_add] at e1
    rw [Int.mul_comm (x / (2 : Int) ^ i % 2)]
    omega
  generalize hr : x % (2 : Int) ^ i + x / (2 : Int) ^ i % 2 * (2 : Int) ^ i = r at *
  have hr0 : 0 ≤ r ∧ r < (2 : Int) ^ (i + 1) := by
    rcases hb with hb | hb <;> rw [hb] at hr <;> omega
  rw [e3, Int.add_mul_emod_self_left, Int.emod_eq_of_lt hr0.1 hr0.2]

/-- What 'SignExtend' answers. -/
def signOf (u many : Int) : Int :=
  if 1 ≤ many ∧ many ≤ 32 ∧ 0 ≤ u ∧ u < (2 : Int) ^ many.toNat then (if u ≥ (2 : Int) ^ (many - 1).toNat then u - (2 : Int) ^ many.toNat else u) else 0
theorem implSign_ok {k : Nat} (hk : 1 ≤ k) (u many : Int) : impl_SignExtend.f k u many = some (signOf u many) := by
  obtain ⟨k, rfl⟩ : ∃ m, k = m + 1 := ⟨k - 1, by omega⟩
  unfold impl_SignExtend.f signOf
  simp only [impl_SignExtend.j0]
  by_cases h1 : many < 1
  · rw [if_pos h1, if_pos trivial, if_neg (by omega)]
  rw [if_neg h1]
  by_cases h2 : many > 32
  · rw [if_pos h2, if_pos trivial, if_neg (by omega)]
  rw [if_neg h2]
  by_cases h3 : u < 0
  · rw [if_pos h3, if_pos trivial, if_neg (by omega)]
  have e : wrap64 (many - 1) = many - 1 := by unfold wrap64; omega
  rw [if_neg h3, if_pos (by omega), e, shl_one (by omega) (by omega), shl_one (by omega) (by omega)]
  by_cases h4 : u < (2 : Int) ^ many.toNat
  · have hq2 : (2 : Int) ^ many.toNat ≤ 2 ^ 62 := pow_le (by omega)
    have hp := pow_pos' many.toNat
    rw [if_neg (by simpa using h4), if_pos (by omega)]
    have hc : (1 ≤ many ∧ many ≤ 32 ∧ 0 ≤ u ∧ u < (2 : Int) ^ many.toNat) := by omega
    rw [if_pos hc]
    split
    · rw [if_pos (by omega), w64 (by omega) (by omega)]
    · rfl
  · rw [if_pos (by simpa using h4), if_neg (by omega)]

theorem specSign_ok {k : Nat} (hk : 64 ≤ k) (u many : Int) : spec_SignExtend.f k u many = some (signOf u many) := by
  obtain ⟨k, rfl⟩ : ∃ m, k = m + 1 := ⟨k - 1, by omega⟩
  unfold spec_SignExtend.f spec_l6In.f signOf
  simp only [spec_SignExtend.j0]
  by_cases h1 : many ≥ 1
  · rw [if_pos h1]; simp only [Option.bind_some]
    by_cases h2 : many ≤ 32
    · have hq2 : (2 : Int) ^ many.toNat ≤ 2 ^ 62 := pow_le (by omega)
      have hp := pow_pos' many.toNat
      have e : wrap64 (many - 1) = many - 1 := by unfold wrap64; omega
      rw [if_pos (by simpa using h2), l1Power_ok (by omega) (by omega) (by omega)]; simp only [Option.bind_some]
      rw [w64 (by omega) (by omega), e]
      by_cases h3 : u ≥ 0
      · rw [if_pos h3]; simp only [Option.bind_some]
        by_cases h4 : u < (2 : Int) ^ many.toNat
        · rw [if_neg (by simp; omega), if_pos (by omega), l1Power_ok (by omega) (by omega) (by omega)]; simp only [Option.bind_some]
          split
          · rw [l1Power_ok (by omega) (by omega) (by omega)]; simp only [Option.bind_some]
            rw [w64 (by omega) (by omega)]
          · rfl
        · rw [if_pos (by simp; omega), if_neg (by omega)]
      · rw [if_neg h3]; simp only [Option.bind_some, Bool.not_false, if_true]
        rw [if_neg (by omega)]
    · rw [if_neg (by simpa using h2), if_pos trivial, if_neg (by omega)]
  · rw [if_neg h1]; simp only [Option.bind_some, Bool.false_eq_true, if_false, if_true]
    rw [if_neg (by omega)]

theorem drawSign_j0 {k : Nat} {b : List Int} {p m x : Int} (hb : ∀ x ∈ b, 0 ≤ x ∧ x ≤ 255) (hp0 : 0 ≤ p) (hp : p ≤ 1000) (hm0 : 1 ≤ m) (hm1 : m ≤ 32) (hk : 64 ≤ k) :
    ∃ u many, spec_DrawSignExtend.j0 k m x b p = some (u, many) := by
  obtain ⟨k, rfl⟩ : ∃ m, k = m + 1 := ⟨k - 1, by omega⟩
  simp only [spec_DrawSignExtend.j0]
  obtain ⟨c, ec, hc0, hc1⟩ := pick_ok (p := p) (n := 24) (k := k) hb (by omega) (by omega) (by omega) (by omega)
  rw [ec]; simp only [Option.bind_some]
  rw [l1Power_ok (by omega) (by omega) (by omega)]; simp only [Option.bind_some]
  obtain ⟨g, eg, hg0, hg1⟩ := pick_ok (p := p + 1) (n := 2) (k := k) hb (by omega) (by omega) (by omega) (by omega)
  rw [eg]; simp only [Option.bind_some]
  split
  · exact ⟨_, _, rfl⟩
  · split
    · first | rw [if_pos hg0, if_pos (by simpa using hg1)] | rw [if_pos (by simpa using hg1)]
      exact ⟨_, _, rfl⟩
    · split <;> exact ⟨_, _, rfl⟩
theorem drawSign_ok {l : List Int} {k : Nat} (hw : ∀ x ∈ l, (Lit.int .u8 x).wf = true) (hk : 64 ≤ k) :
    ∃ u many, spec_DrawSignExtend.f k l = some (u, many) := by
  unfold spec_DrawSignExtend.f
  obtain ⟨b, eb, hb⟩ := open_ok hw
  rw [eb]; simp only [Option.bind_some]
  obtain ⟨c, ec, hc0, hc1⟩ := pick_ok (p := 0) (n := 32) (k := k) hb (by omega) (by omega) (by omega) (by omega)
  rw [ec]; simp only [Option.bind_some]
  obtain ⟨v, q, ev, hv, hq0, hq1⟩ := l91Word_ok (p := 0 + 1) (k := k) hb (by omega) (by omega) (by omega)
  rw [ev]; simp only [Option.bind_some]
  rw [specUnsigned_ok]; simp only [Option.bind_some]
  have e1 : wrap64 (1 + c) = 1 + c := by unfold wrap64; omega
  have hpp := pow_pos' (1 + c).toNat
  rw [e1, l1Power_ok (by omega) (by omega) (by omega)]; simp only [Option.bind_some]
  rw [if_neg (by omega)]
  obtain ⟨d, ed, hd0, hd1⟩ := pick_ok (p := q) (n := 3) (k := k) hb (by omega) (by omega) (by omega) (by omega)
  rw [ed]; simp only [Option.bind_some]
  obtain ⟨f, ef, hf0, hf1⟩ := pick_ok (p := q + 1) (n := 2) (k := k) hb (by omega) (by omega) (by omega) (by omega)
  rw [ef]; simp only [Option.bind_some]
  split
  · exact drawSign_j0 hb (by omega) (by omega) (by omega) (by omega) hk
  · exact drawSign_j0 hb (by omega) (by omega) (by omega) (by omega) hk

/-- What 'Bits' answers. -/
def bitsOf (u low many : Int) : Int :=
  if 0 ≤ u ∧ u ≤ 4294967295 ∧ 0 ≤ low ∧ low ≤ 31 ∧ 1 ≤ many ∧ many ≤ 32 - low then u / (2 : Int) ^ low.toNat % (2 : Int) ^ many.toNat else 0
theorem implBits_ok (u low many : Int) (hlow : -9223372036854775808 ≤ low ∧ low ≤ 9223372036854775807) : impl_Bits.f u low many = some (bitsOf u low many) := by
  unfold impl_Bits.f impl_isUnsigned.f bitsOf
  by_cases h1 : u ≥ 0
  · rw [if_pos h1]; simp only [Option.bind_some]
    by_cases h2 : u < 4294967296
    · rw [if_pos (by simpa using h2)]
      by_cases h3 : low < 0
      · rw [if_pos h3, if_neg (by omega)]
      rw [if_neg h3]
      by_cases h4 : low > 31
      · rw [if_pos h4, if_neg (by omega)]
      rw [if_neg h4]
      by_cases h5 : many < 1
      · rw [if_pos h5, if_neg (by omega)]
      have e : wrap64 (32 - low) = 32 - low := by unfold wrap64; omega
      rw [if_neg h5, e]
      by_cases h6 : many > 32 - low
      · rw [if_pos h6, if_neg (by omega)]
      rw [if_neg h6, if_pos (by omega), if_pos (by omega), if_pos (by omega), shr_small' (by omega) (by omega), shl_one (by omega) (by omega)]
      have hp := pow_pos' low.toNat
      have hq := pow_pos' many.toNat
      have hq2 : (2 : Int) ^ many.toNat ≤ 2 ^ 62 := pow_le (by omega)
      have d0 : 0 ≤ u / (2 : Int) ^ low.toNat := Int.ediv_nonneg h1 (by omega)
      have d1 : u / (2 : Int) ^ low.toNat ≤ u := Int.ediv_le_self _ h1
      rw [w64 (by omega) (by omega), mask d0 (by omega) (by omega) (by omega)]
    · rw [if_neg (by simpa using h2), if_neg (by omega)]
  · rw [if_neg h1]; simp only [Option.bind_some, Bool.false_eq_true, if_false]
    rw [if_neg (by omega)]

theorem pow2_l {k : Nat} : ∀ (d i : Nat) (n : Int), (n - i : Int) = d → n ≤ 62 → d < k → laws_pow2.l0 k n ((2 : Int) ^ i) (i : Int) = some ((2 : Int) ^ n.toNat) := by
  induction k with
  | zero => intro d i n _ _ h; omega
  | succ k ih =>
    intro d i n hd hn hk
    simp only [laws_pow2.l0]
    by_cases h : (i : Int) < n
    · rw [if_pos h]
      have e1 : wrap64 ((2 : Int) ^ i * 2) = (2 : Int) ^ (i + 1) := by
        have hc : ((2 : Int) ^ i) = ((2 ^ i : Nat) : Int) := by simp
        have hp1 : 0 < 2 ^ i := Nat.two_pow_pos i
        have hp2 : (2 : Nat) ^ i ≤ 2 ^ 61 := Nat.pow_le_pow_right (by decide) (by omega)
        rw [Int.pow_succ, hc]; unfold wrap64; omega
      have e2 : wrap64 ((i : Int) + 1) = ((i + 1 : Nat) : Int) := by unfold wrap64; omega
      rw [e1, e2]
      exact ih (d - 1) (i + 1) n (by omega) hn (by omega)
    · rw [if_neg h]
      have : n.toNat = i := by omega
      rw [this]
theorem pow2_ok {k : Nat} {n : Int} (h0 : 0 ≤ n) (h1 : n ≤ 62) (hk : 63 ≤ k) : laws_pow2.f k n = some ((2 : Int) ^ n.toNat) := by
  unfold laws_pow2.f
  exact pow2_l n.toNat 0 n (by omega) h1 (by omega)

theorem FnSignBit : laws_FnSignBit.Pure := by
  intro l0 _ _ hw
  refine ⟨70, ?_⟩
  unfold laws_FnSignBit.f
  split
  · rfl
  obtain ⟨u, many, ed⟩ := drawSign_ok (k := 70) hw (by omega)
  rw [ed]; simp only [Option.bind_some]
  rw [implSign_ok (by omega), specSign_ok (by omega)]; simp only [Option.bind_some, if_true]
  simp only [laws_FnSignBit.j0]
  by_cases h0 : signOf u many = 0
  · simp [h0]
  have h : 1 ≤ many ∧ many ≤ 32 ∧ 0 ≤ u ∧ u < (2 : Int) ^ many.toNat := Classical.byContradiction fun h => h0 (by unfold signOf; rw [if_neg h])
  rw [if_neg (by simpa using h0)]
  have e1 : wrap64 (many - 1) = many - 1 := by unfold wrap64; omega
  have hp1 := pow_pos' (many - 1).toNat
  have hq : (2 : Int) ^ (many - 1).toNat ≤ 2 ^ 31 := pow_le (by omega)
  have hpp : (2 : Int) ^ many.toNat = (2 : Int) ^ (many - 1).toNat * 2 := by rw [← Int.pow_succ]; congr 1; omega
  have eb : bitsOf u (many - 1) 1 = u / (2 : Int) ^ (many - 1).toNat % 2 := by
    unfold bitsOf; rw [if_pos (by omega)]; rfl
  rw [e1, implBits_ok _ _ _ (by omega), eb, pow2_ok (by omega) (by omega) (by omega)]; simp only [Option.bind_some]
  unfold signOf at *
  rw [if_pos h] at *
  generalize hP : (2 : Int) ^ (many - 1).toNat = P at *
  have e2 : wrap64 (-P) = -P := by unfold wrap64; omega
  rw [e2]
  by_cases hs : u ≥ P
  · have hd : u / P = 1 := by
      rw [Int.ediv_eq_iff_of_pos hp1]; omega
    rw [if_pos hs, hd]
    rw [if_pos (by simp; omega), if_pos (by omega)]
    simp; omega
  · have hd : u / P = 0 := Int.ediv_eq_zero_of_lt (by omega) (by omega)
    rw [if_neg hs, hd]
    rw [if_pos (by simp; omega), if_pos (by omega)]
    simp; omega

end Go.Proofs.Ytipkjmkcnkbbfaa.Pure
namespace Go.Proofs.Ytipkjmkcnkbbfaa.PrintWords
open Go Go.ChangeShapes Go.WideShapes
/-- The printed row asks for this word under this name. -/
theorem sized_ints {H : Type} {enc : TypeId × Value → H} {P : Program} {W : World} {base : Nat} {spare : Nat → Bool} {held : Bool} {t e : TypeId} {k : IntKind} {a : Option Addr} {len cap : Nat} {d : DataW H} {ps : List MemPlace} {ts : List TypeId} {ds : List (DataW H)} {j : Nat}
    (hsz : (DataW.weightsEach P ts ds).all (· ≤ reachBytes) = true) (ht : ts[j]? = some t) (hd : ds[j]? = some d) (hu : P.underlying t = some (.slice e)) (he : P.underlying e = some (.int k)) (hc : P.cellsOf e = 1) {B : Nat} (hB : P.bytesOf e = B)
    (h : DataW.Trod enc P W base spare held t (.slice a len cap) d ps) : len * B ≤ 140737488351232 :=
  Go.Proofs.YtipkjmkcnkbbfaaW.PrintWords.sized_ints hsz ht hd hu he hc hB h
end Go.Proofs.Ytipkjmkcnkbbfaa.PrintWords
