/- The law FnBitsJoin, 'Bits can be put together', answers true for every input: what the program's functions compute is shown to answer it; conditions: none beyond the given statement's own. -/
import Derived.Test.YtipkjmkcnkbbfaaPFnBitsJoinx2
import Derived.Test.YtipkjmkcnkbbfaaWSized
namespace Go.Proofs.Ytipkjmkcnkbbfaa.Pure
open Go Go.RowKit Go.Proofs.Ytipkjmkcnkbbfaa.PFnBitsJoin Go.Proofs.YtipkjmkcnkbbfaaW.PrintWords Go.Proofs.YtipkjmkcnkbbfaaW.PrintLast Go.Proofs.YtipkjmkcnkbbfaaW.PrintMore
set_option linter.unusedVariables false
set_option linter.unusedSimpArgs false

theorem w64 {n : Int} (h : -9223372036854775808 ≤ n) (h' : n ≤ 9223372036854775807) : wrap64 n = n := by unfold wrap64; omega
theorem w64_range (n : Int) : -9223372036854775808 ≤ wrap64 n ∧ wrap64 n ≤ 9223372036854775807 := by unfold wrap64; omega
theorem wf64 {n : Int} (h : (Lit.int .i64 n).wf = true) : -9223372036854775808 ≤ n ∧ n ≤ 9223372036854775807 := by
  simpa [Lit.wf, IntKind.min, IntKind.max, IntKind.signed, IntKind.bits] using h
theorem wf8 {n : Int} (h : (Lit.int .u8 n).wf = true) : 0 ≤ n ∧ n ≤ 255 := by
  simpa [Lit.wf, IntKind.min, IntKind.max, IntKind.signed, IntKind.bits] using h
theorem tm_range {x m : Int} (hx : 0 ≤ x) (hm : 0 < m) : 0 ≤ Int.tmod x m ∧ Int.tmod x m < m := by
  rw [Int.tmod_eq_emod_of_nonneg hx]; exact ⟨Int.emod_nonneg _ (by omega), Int.emod_lt_of_pos _ hm⟩
theorem td_range {x m : Int} (hx : 0 ≤ x) (hm : 0 < m) : 0 ≤ Int.tdiv x m ∧ Int.tdiv x m ≤ x := by
  rw [Int.tdiv_eq_ediv_of_nonneg hx]; exact ⟨Int.ediv_nonneg hx (by omega), Int.ediv_le_self _ hx⟩
theorem toInt_wrap (v : BitVec 64) : IntKind.i64.wrap (v.toNat : Int) = v.toInt := by
  rw [IntKind.wrap_i64, BitVec.toInt_eq_toNat_cond]
  have := v.isLt
  split <;> omega
theorem bits_and (x y : Int) : Go.bits .and .i64 x y = (BitVec.ofInt 64 x &&& BitVec.ofInt 64 y).toInt := toInt_wrap _
theorem bits_or (x y : Int) : Go.bits .or .i64 x y = (BitVec.ofInt 64 x ||| BitVec.ofInt 64 y).toInt := toInt_wrap _
theorem bits_xor (x y : Int) : Go.bits .xor .i64 x y = (BitVec.ofInt 64 x ^^^ BitVec.ofInt 64 y).toInt := toInt_wrap _
theorem xor_nonneg {x y : Int} (hx : 0 ≤ x) (hx' : x < 4611686018427387904) (hy : 0 ≤ y) (hy' : y < 4611686018427387904) :
    0 ≤ Go.bits .xor .i64 x y := by
  obtain ⟨a, rfl⟩ := Int.eq_ofNat_of_zero_le hx
  obtain ⟨b, rfl⟩ := Int.eq_ofNat_of_zero_le hy
  have ha : a < 2 ^ 62 := by omega
  have hb : b < 2 ^ 62 := by omega
  have h := Nat.xor_lt_two_pow ha hb
  rw [bits_xor, BitVec.toInt_eq_toNat_cond]
  have e : (BitVec.ofInt 64 (a : Int) ^^^ BitVec.ofInt 64 (b : Int)).toNat = a ^^^ b := by
    rw [BitVec.toNat_xor, BitVec.ofInt_natCast, BitVec.ofInt_natCast, BitVec.toNat_ofNat, BitVec.toNat_ofNat, Nat.mod_eq_of_lt (by omega), Nat.mod_eq_of_lt (by omega)]
  rw [e]
  split <;> omega
theorem rd_bytes {b : List Int} (hb : ∀ x ∈ b, 0 ≤ x ∧ x ≤ 255) (i : Int) : 0 ≤ rd b i ∧ rd b i ≤ 255 := by
  unfold rd
  rw [List.getD_eq_getElem?_getD]
  by_cases h : i.toNat < b.length
  · rw [List.getElem?_eq_getElem h]; exact hb _ (List.getElem_mem h)
  · rw [List.getElem?_eq_none (by omega)]; simp

theorem pick_ok {b : List Int} {p n : Int} {k : Nat} (hb : ∀ x ∈ b, 0 ≤ x ∧ x ≤ 255) (hp0 : 0 ≤ p) (hp : p ≤ 1000000) (hn : 1 ≤ n) (hk : 1 ≤ k) :
    ∃ v, spec_l6Rd_pick.f k b p n = some (v, p + 1) ∧ 0 ≤ v ∧ v < n := by
  obtain ⟨k, rfl⟩ : ∃ m, k = m + 1 := ⟨k - 1, by omega⟩
  have e0 : wrap64 (p + 1) = p + 1 := w64 (by omega) (by omega)
  have e1 : wrap64 (p + 1 - 1) = p := by unfold wrap64; omega
  unfold spec_l6Rd_pick.f
  rw [if_neg (by omega), e0]
  simp only [spec_l6Rd_pick.j0]
  rw [e1]
  by_cases h0 : b.length = 0
  · rw [if_pos (by simp [h0])]
    exact ⟨0, rfl, by omega, by omega⟩
  · have hl : 0 < (b.length : Int) := by omega
    rw [if_neg (by simp; intro h; exact h0 (by simp [h]))]
    by_cases h1 : p < (b.length : Int)
    · rw [if_pos h1, if_pos hp0, if_neg (by omega)]
      have hr := rd_bytes hb p
      rw [w64 (n := rd b p) (by omega) (by omega)]
      have ht := tm_range (x := rd b p) (m := n) hr.1 (by omega)
      exact ⟨_, rfl, ht.1, ht.2⟩
    · have t1 := tm_range (x := p) (m := (b.length : Int)) hp0 hl
      have e2 : wrap64 (wrap64 (p * 7) + 3) = p * 7 + 3 := by unfold wrap64; omega
      have t2 := tm_range (x := p * 7 + 3) (m := (b.length : Int)) (by omega) hl
      have t3 := td_range (x := p) (m := (b.length : Int)) hp0 hl
      rw [e2, if_neg h1, if_neg (by omega), if_pos t1.1, if_pos t1.2, if_pos t2.1, if_pos t2.2, if_neg (by omega)]
      have r1 := rd_bytes hb (Int.tmod p (b.length : Int))
      have r2 := rd_bytes hb (Int.tmod (p * 7 + 3) (b.length : Int))
      generalize rd b (Int.tmod p (b.length : Int)) = x1 at *
      generalize rd b (Int.tmod (p * 7 + 3) (b.length : Int)) = x2 at *
      generalize Int.tdiv p (b.length : Int) = q at *
      have e3 : wrap64 (wrap64 (wrap64 (wrap64 (wrap64 x1 * 131) + wrap64 (wrap64 x2 * 1117)) + wrap64 (p * 29)) + wrap64 (wrap64 q * 53)) = x1 * 131 + x2 * 1117 + p * 29 + q * 53 := by
        unfold wrap64; omega
      rw [e3]
      have hX : 0 ≤ x1 * 131 + x2 * 1117 + p * 29 + q * 53 ∧ x1 * 131 + x2 * 1117 + p * 29 + q * 53 < 1000000000 := by omega
      generalize x1 * 131 + x2 * 1117 + p * 29 + q * 53 = X at *
      have hd := td_range (x := X) (m := 64) hX.1 (by omega)
      have e4 : wrap64 (Int.tdiv X 64) = Int.tdiv X 64 := w64 (by omega) (by omega)
      rw [e4]
      have hx := xor_nonneg (x := X) (y := Int.tdiv X 64) hX.1 (by omega) hd.1 (by omega)
      have ht := tm_range (m := n) hx (by omega)
      exact ⟨_, rfl, ht.1, ht.2⟩
theorem open_ok {l : List Int} (hw : ∀ x ∈ l, (Lit.int .u8 x).wf = true) : ∃ b, spec_l6Open.f l = some (b, 0) ∧ ∀ x ∈ b, 0 ≤ x ∧ x ≤ 255 := by
  unfold spec_l6Open.f
  split
  · rw [if_pos (by omega)]
    exact ⟨_, rfl, fun x hx => wf8 (hw x (List.mem_of_mem_take hx))⟩
  · exact ⟨_, rfl, fun x hx => wf8 (hw x hx)⟩

theorem specWrap_ok (n : Int) (h : -9223372036854775808 ≤ n ∧ n ≤ 9223372036854775807) : spec_Wrap.f n = some (wrap32 n) := by
  unfold spec_Wrap.f
  have hm : Int.tmod n 4294967296 = if 0 ≤ n then n % 4294967296 else -((-n) % 4294967296) := by
    split
    · exact Int.tmod_eq_emod_of_nonneg (by omega)
    · have := Int.neg_tmod (-n) 4294967296
      rw [Int.neg_neg] at this
      rw [this, Int.tmod_eq_emod_of_nonneg (by omega)]
  rw [hm]
  generalize hq : (if 0 ≤ n then n % 4294967296 else -((-n) % 4294967296)) = q
  have hq' : (q - n) % 4294967296 = 0 ∧ -4294967296 < q ∧ q < 4294967296 := by subst hq; split <;> omega
  unfold wrap32 wrap64
  split
  · congr 1; omega
  · split
    · congr 1; omega
    · congr 1; omega
theorem wrap32_range (n : Int) : -2147483648 ≤ wrap32 n ∧ wrap32 n ≤ 2147483647 := by unfold wrap32; omega

def Word (v : Int) : Prop := -2147483648 ≤ v ∧ v ≤ 2147483647
theorem rd_all {xs : List Int} {P : Int → Prop} (h : ∀ x ∈ xs, P x) {i : Int} (h0 : 0 ≤ i) (h1 : i < (xs.length : Int)) : P (rd xs i) := by
  unfold rd
  rw [List.getD_eq_getElem?_getD, List.getElem?_eq_getElem (by omega)]
  exact h _ (List.getElem_mem _)
theorem l91Word_ok {b : List Int} {p : Int} {k : Nat} (hb : ∀ x ∈ b, 0 ≤ x ∧ x ≤ 255) (hp0 : 0 ≤ p) (hp : p ≤ 900000) (hk : 1 ≤ k) :
    ∃ v q, spec_l91Word.f k b p = some (v, q) ∧ Word v ∧ p ≤ q ∧ q ≤ p + 5 := by
  unfold spec_l91Word.f
  obtain ⟨c, ec, hc0, hc1⟩ := pick_ok (n := 6) hb hp0 (by omega) (by omega) hk
  rw [ec]; simp only [Option.bind_some]
  split
  · obtain ⟨d, ed, hd0, hd1⟩ := pick_ok (p := p + 1) (n := 8) hb (by omega) (by omega) (by omega) hk
    rw [ed]; simp only [Option.bind_some]
    rw [if_pos hd0, if_pos (by simpa using hd1)]
    exact ⟨_, _, rfl, rd_all (by unfold Word; decide) hd0 (by simpa using hd1), by omega, by omega⟩
  · split
    · obtain ⟨d1, e1, _, _⟩ := pick_ok (p := p + 1) (n := 256) hb (by omega) (by omega) (by omega) hk
      obtain ⟨d2, e2, _, _⟩ := pick_ok (p := p + 1 + 1) (n := 256) hb (by omega) (by omega) (by omega) hk
      obtain ⟨d3, e3, _, _⟩ := pick_ok (p := p + 1 + 1 + 1) (n := 256) hb (by omega) (by omega) (by omega) hk
      obtain ⟨d4, e4, _, _⟩ := pick_ok (p := p + 1 + 1 + 1 + 1) (n := 200) hb (by omega) (by omega) (by omega) hk
      rw [e1]; simp only [Option.bind_some]
      rw [e2]; simp only [Option.bind_some]
      rw [e3]; simp only [Option.bind_some]
      rw [e4]; simp only [Option.bind_some]
      rw [specWrap_ok _ (w64_range _)]; simp only [Option.bind_some]
      exact ⟨_, _, rfl, wrap32_range _, by omega, by omega⟩
    · split
      · obtain ⟨d1, e1, h0, h1⟩ := pick_ok (p := p + 1) (n := 200) hb (by omega) (by omega) (by omega) hk
        rw [e1]; simp only [Option.bind_some]
        exact ⟨_, _, rfl, by unfold Word wrap64; omega, by omega, by omega⟩
      · obtain ⟨d1, e1, h0, h1⟩ := pick_ok (p := p + 1) (n := 20) hb (by omega) (by omega) (by omega) hk
        rw [e1]; simp only [Option.bind_some]
        exact ⟨_, _, rfl, by unfold Word; omega, by omega, by omega⟩

theorem specWordValid_ok (n : Int) : spec_WordValid.f n = some (decide (-2147483648 ≤ n ∧ n ≤ 2147483647)) := by
  unfold spec_WordValid.f spec_l6In.f
  split <;> simp <;> omega

theorem specUnsigned_ok (n : Int) : spec_Unsigned.f n = some (if -2147483648 ≤ n ∧ n ≤ 2147483647 then n % 4294967296 else -1) := by
  unfold spec_Unsigned.f
  rw [specWordValid_ok]
  simp only [Option.bind_some]
  by_cases h : -2147483648 ≤ n ∧ n ≤ 2147483647
  · rw [if_pos h]
    simp only [h, and_self, decide_true, if_true]
    split
    · congr 1; unfold wrap64; omega
    · congr 1 <;> omega
  · rw [if_neg h]
    simp [h]

theorem l1Power_l {k : Nat} : ∀ (d i : Nat) (n : Int), (n - i : Int) = d → n ≤ 62 → d < k → spec_l1Power.l0 k n ((2 : Int) ^ i) (i : Int) = some ((2 : Int) ^ n.toNat) := by
  induction k with
  | zero => intro d i n _ _ h; omega
  | succ k ih =>
    intro d i n hd hn hk
    simp only [spec_l1Power.l0]
    by_cases h : (i : Int) < n
    · rw [if_pos h]
      have hp : (2 : Nat) ^ i ≤ 2 ^ 62 := Nat.pow_le_pow_right (by decide) (by omega)
      have e1 : wrap64 ((2 : Int) ^ i * 2) = (2 : Int) ^ (i + 1) := by
        have hc : ((2 : Int) ^ i) = ((2 ^ i : Nat) : Int) := by simp
        have hp1 : 0 < 2 ^ i := Nat.two_pow_pos i
        have hp2 : (2 : Nat) ^ i ≤ 2 ^ 61 := Nat.pow_le_pow_right (by decide) (by omega)
        rw [Int.pow_succ, hc]; unfold wrap64; omega
      have e2 : wrap64 ((i : Int) + 1) = ((i + 1 : Nat) : Int) := by unfold wrap64; omega
      rw [e1, e2]
      exact ih (d - 1) (i + 1) n (by omega) hn (by omega)
    · rw [if_neg h]
      have : n.toNat = i := by omega
      rw [this]
theorem l1Power_ok {k : Nat} {n : Int} (h0 : 0 ≤ n) (h1 : n ≤ 62) (hk : 63 ≤ k) : spec_l1Power.f k n = some ((2 : Int) ^ n.toNat) := by
  unfold spec_l1Power.f
  exact l1Power_l n.toNat 0 n (by omega) h1 (by omega)

theorem pow_nat (i : Nat) : ((2 : Int) ^ i) = ((2 ^ i : Nat) : Int) := by simp
theorem pow_le {i j : Nat} (h : i ≤ j) : (2 : Int) ^ i ≤ 2 ^ j := by
  rw [pow_nat, pow_nat]; exact_mod_cast Nat.pow_le_pow_right (by decide) h
theorem pow_pos' (i : Nat) : (0 : Int) < 2 ^ i := by rw [pow_nat]; exact_mod_cast Nat.two_pow_pos i
theorem shl_one {n : Int} (h0 : 0 ≤ n) (h1 : n ≤ 62) : shl .i64 1 n = (2 : Int) ^ n.toNat := by
  unfold shl
  have hm : min n.toNat (IntKind.i64.bits) = n.toNat := Nat.min_eq_left (by show n.toNat ≤ 64; omega)
  rw [hm, IntKind.wrap_i64]
  have h2 : (2 : Int) ^ n.toNat ≤ 2 ^ 62 := pow_le (by omega)
  have h3 := pow_pos' n.toNat
  omega
theorem shr_small' {x n : Int} (h0 : 0 ≤ n) (h1 : n ≤ 64) : shr .i64 x n = x / (2 : Int) ^ n.toNat := by
  unfold shr
  have hm : min n.toNat (IntKind.i64.bits) = n.toNat := Nat.min_eq_left (by show n.toNat ≤ 64; omega)
  rw [hm]
theorem wraps_i64 (n : Int) (h₀ : 0 ≤ n) (h₁ : n < 2 ^ 63) : IntKind.i64.wrap n = n := by rw [IntKind.wrap_i64]; omega
theorem mask {x n : Int} (hx0 : 0 ≤ x) (hx : x < 9223372036854775808) (h0 : 0 ≤ n) (h1 : n ≤ 62) : Go.bits .and .i64 x ((2 : Int) ^ n.toNat - 1) = x % (2 : Int) ^ n.toNat :=
  bits_mask .i64 63 (by decide) wraps_i64 n.toNat (by omega) x hx0 (by omega)
theorem pow_dvd {i j : Nat} (h : i ≤ j) : (2 : Int) ^ i ∣ 2 ^ j := ⟨(2 : Int) ^ (j - i), by rw [← Int.pow_add]; congr 1; omega⟩
/-- One bit more. -/
theorem mod_pow_succ (x : Int) (i : Nat) : x % (2 : Int) ^ (i + 1) = x % (2 : Int) ^ i + x / (2 : Int) ^ i % 2 * (2 : Int) ^ i := by
  have hp := pow_pos' i
  have e1 := Int.mul_ediv_add_emod x ((2 : Int) ^ i)
  have e2 := Int.mul_ediv_add_emod (x / (2 : Int) ^ i) 2
  have m0 := Int.emod_nonneg x (b := (2 : Int) ^ i) (by omega)
  have m1 := Int.emod_lt_of_pos x hp
  have hs : (2 : Int) ^ (i + 1) = (2 : Int) ^ i * 2 := Int.pow_succ 2 i
  generalize x / (2 : Int) ^ i / 2 = q at *
  have hb : x / (2 : Int) ^ i % 2 = 0 ∨ x / (2 : Int) ^ i % 2 = 1 := by omega
  have e3 : x = x % (2 : Int) ^ i + x / (2 : Int) ^ i % 2 * (2 : Int) ^ i + (2 : Int) ^ (i + 1) * q := by
    rw [hs, Int.mul_assoc]
    rw [← e2] at e1
    rw [Int.mul_add] at e1
    rw [Int.mul_comm (x / (2 : Int) ^ i % 2)]
    omega
  generalize hr : x % (2 : Int) ^ i + x / (2 : Int) ^ i % 2 * (2 : Int) ^ i = r at *
  have hr0 : 0 ≤ r ∧ r < (2 : Int) ^ (i + 1) := by
    rcases hb with hb | hb <;> rw [hb] at hr <;> omega
  rw [e3, Int.add_mul_emod_self_left, Int.emod_eq_of_lt hr0.1 hr0.2]

/-- What 'Bits' answers. -/
def bitsOf (u low many : Int) : Int :=
  if 0 ≤ u ∧ u ≤ 4294967295 ∧ 0 ≤ low ∧ low ≤ 31 ∧ 1 ≤ many ∧ many ≤ 32 - low then u / (2 : Int) ^ low.toNat % (2 : Int) ^ many.toNat else 0
theorem implBits_ok (u low many : Int) (hlow : -9223372036854775808 ≤ low ∧ low ≤ 9223372036854775807) : impl_Bits.f u low many = some (bitsOf u low many) := by
  unfold impl_Bits.f impl_isUnsigned.f bitsOf
  by_cases h1 : u ≥ 0
  · rw [if_pos h1]; simp only [Option.bind_some]
    by_cases h2 : u < 4294967296
    · rw [if_pos (by simpa using h2)]
      by_cases h3 : low < 0
      · rw [if_pos h3, if_neg (by omega)]
      rw [if_neg h3]
      by_cases h4 : low > 31
      · rw [if_pos h4, if_neg (by omega)]
      rw [if_neg h4]
      by_cases h5 : many < 1
      · rw [if_pos h5, if_neg (by omega)]
      have e : wrap64 (32 - low) = 32 - low := by unfold wrap64; omega
      rw [if_neg h5, e]
      by_cases h6 : many > 32 - low
      · rw [if_pos h6, if_neg (by omega)]
      rw [if_neg h6, if_pos (by omega), if_pos (by omega), if_pos (by omega), shr_small' (by omega) (by omega), shl_one (by omega) (by omega)]
      have hp := pow_pos' low.toNat
      have hq := pow_pos' many.toNat
      have hq2 : (2 : Int) ^ many.toNat ≤ 2 ^ 62 := pow_le (by omega)
      have d0 : 0 ≤ u / (2 : Int) ^ low.toNat := Int.ediv_nonneg h1 (by omega)
      have d1 : u / (2 : Int) ^ low.toNat ≤ u := Int.ediv_le_self _ h1
      rw [w64 (by omega) (by omega), mask d0 (by omega) (by omega) (by omega)]
    · rw [if_neg (by simpa using h2), if_neg (by omega)]
  · rw [if_neg h1]; simp only [Option.bind_some, Bool.false_eq_true, if_false]
    rw [if_neg (by omega)]

theorem specBits_ok {k : Nat} (hk : 64 ≤ k) (u low many : Int) (hlow : -9223372036854775808 ≤ low ∧ low ≤ 9223372036854775807) : spec_Bits.f k u low many = some (bitsOf u low many) := by
  obtain ⟨k, rfl⟩ : ∃ m, k = m + 1 := ⟨k - 1, by omega⟩
  unfold spec_Bits.f spec_l6In.f bitsOf
  simp only [spec_Bits.j0]
  by_cases h1 : u ≥ 0
  · rw [if_pos h1]; simp only [Option.bind_some]
    by_cases h2 : u ≤ 4294967295
    · rw [if_pos (by simpa using h2)]
      by_cases h3 : low ≥ 0
      · rw [if_pos h3]; simp only [Option.bind_some]
        by_cases h4 : low ≤ 31
        · rw [if_pos (by simpa using h4)]
          have e : wrap64 (32 - low) = 32 - low := by unfold wrap64; omega
          rw [e]
          by_cases h5 : many ≥ 1
          · rw [if_pos h5]; simp only [Option.bind_some]
            by_cases h6 : many ≤ 32 - low
            · rw [if_neg (by simp; omega), if_pos (by omega), l1Power_ok (by omega) (by omega) (by omega), l1Power_ok (by omega) (by omega) (by omega)]
              simp only [Option.bind_some]
              have hp := pow_pos' low.toNat
              have hq := pow_pos' many.toNat
              have d0 : 0 ≤ u / (2 : Int) ^ low.toNat := Int.ediv_nonneg h1 (by omega)
              have d1 : u / (2 : Int) ^ low.toNat ≤ u := Int.ediv_le_self _ h1
              rw [if_neg (by omega), if_neg (by omega), Int.tdiv_eq_ediv_of_nonneg h1, w64 (by omega) (by omega), Int.tmod_eq_emod_of_nonneg d0]
            · rw [if_pos (by simp; omega), if_neg (by omega)]
          · rw [if_neg h5]; simp only [Option.bind_some, Bool.not_false, if_true]
            rw [if_neg (by omega)]
        · rw [if_neg (by simpa using h4), if_pos trivial, if_neg (by omega)]
      · rw [if_neg h3]; simp only [Option.bind_some, Bool.false_eq_true, if_false, if_true]
        rw [if_neg (by omega)]
    · rw [if_neg (by simpa using h2), if_pos trivial, if_neg (by omega)]
  · rw [if_neg h1]; simp only [Option.bind_some, Bool.false_eq_true, if_false, if_true]
    rw [if_neg (by omega)]

theorem drawBits_ok {l : List Int} {k : Nat} (hw : ∀ x ∈ l, (Lit.int .u8 x).wf = true) (hk : 1 ≤ k) :
    ∃ u low many, spec_DrawBits.f k l = some (u, low, many) ∧ (-9223372036854775808 ≤ low ∧ low ≤ 9223372036854775807) := by
  unfold spec_DrawBits.f
  obtain ⟨b, eb, hb⟩ := open_ok hw
  rw [eb]; simp only [Option.bind_some]
  obtain ⟨v, q, ev, hv, hq0, hq1⟩ := l91Word_ok (p := 0) hb (by omega) (by omega) hk
  rw [ev]; simp only [Option.bind_some]
  rw [specUnsigned_ok]; simp only [Option.bind_some]
  obtain ⟨c, ec, hc0, hc1⟩ := pick_ok (p := q) (n := 32) hb (by omega) (by omega) (by omega) hk
  rw [ec]; simp only [Option.bind_some]
  have e1 : wrap64 (32 - c) = 32 - c := by unfold wrap64; omega
  rw [e1]
  obtain ⟨d, ed, hd0, hd1⟩ := pick_ok (p := q + 1) (n := 32 - c) hb (by omega) (by omega) (by omega) hk
  rw [ed]; simp only [Option.bind_some]
  obtain ⟨f, ef, hf0, hf1⟩ := pick_ok (p := q + 1 + 1) (n := 24) hb (by omega) (by omega) (by omega) hk
  rw [ef]; simp only [Option.bind_some]
  obtain ⟨g, eg, hg0, hg1⟩ := pick_ok (p := q + 1 + 1 + 1) (n := 2) hb (by omega) (by omega) (by omega) hk
  rw [eg]; simp only [Option.bind_some]
  split
  · first | rw [if_pos hg0, if_pos (by simpa using hg1)] | rw [if_pos (by simpa using hg1)]
    exact ⟨_, _, _, rfl, by omega⟩
  · split
    · exact ⟨_, _, _, rfl, by omega⟩
    · split
      · first | rw [if_pos hg0, if_pos (by simpa using hg1)] | rw [if_pos (by simpa using hg1)]
        exact ⟨_, _, _, rfl, rd_all (P := fun v => -9223372036854775808 ≤ v ∧ v ≤ 9223372036854775807) (by decide) hg0 (by simpa using hg1)⟩
      · exact ⟨_, _, _, rfl, by omega⟩

theorem pow2_l {k : Nat} : ∀ (d i : Nat) (n : Int), (n - i : Int) = d → n ≤ 62 → d < k → laws_pow2.l0 k n ((2 : Int) ^ i) (i : Int) = some ((2 : Int) ^ n.toNat) := by
  induction k with
  | zero => intro d i n _ _ h; omega
  | succ k ih =>
    intro d i n hd hn hk
    simp only [laws_pow2.l0]
    by_cases h : (i : Int) < n
    · rw [if_pos h]
      have e1 : wrap64 ((2 : Int) ^ i * 2) = (2 : Int) ^ (i + 1) := by
        have hc : ((2 : Int) ^ i) = ((2 ^ i : Nat) : Int) := by simp
        have hp1 : 0 < 2 ^ i := Nat.two_pow_pos i
        have hp2 : (2 : Nat) ^ i ≤ 2 ^ 61 := Nat.pow_le_pow_right (by decide) (by omega)
        rw [Int.pow_succ, hc]; unfold wrap64; omega
      have e2 : wrap64 ((i : Int) + 1) = ((i + 1 : Nat) : Int) := by unfold wrap64; omega
      rw [e1, e2]
      exact ih (d - 1) (i + 1) n (by omega) hn (by omega)
    · rw [if_neg h]
      have : n.toNat = i := by omega
      rw [this]
theorem pow2_ok {k : Nat} {n : Int} (h0 : 0 ≤ n) (h1 : n ≤ 62) (hk : 63 ≤ k) : laws_pow2.f k n = some ((2 : Int) ^ n.toNat) := by
  unfold laws_pow2.f
  exact pow2_l n.toNat 0 n (by omega) h1 (by omega)

theorem FnBitsJoin : laws_FnBitsJoin.Pure := by
  intro l0 l1 _ _ hw _ _ _
  refine ⟨67, ?_⟩
  unfold laws_FnBitsJoin.f
  simp only [laws_FnBitsJoin.j0]
  obtain ⟨u, low, many, ed, hlow⟩ := drawBits_ok (k := 66) hw (by omega)
  have main : laws_FnBitsJoin.j1 66 l1 u (bitsOf u low many) (bitsOf u low many) (bitsOf u low many == 0) = some true := by
    simp only [laws_FnBitsJoin.j1]
    by_cases h : 0 ≤ u ∧ u ≤ 4294967295 ∧ 0 ≤ low ∧ low ≤ 31 ∧ 1 ≤ many ∧ many ≤ 32 - low
    · by_cases h0 : bitsOf u low many = 0
      · simp [h0]
      · rw [if_neg (by simpa using h0)]
        have hc : 1 ≤ 1 + (l1.length : Int) % 31 ∧ 1 + (l1.length : Int) % 31 ≤ 31 := by omega
        generalize 1 + (l1.length : Int) % 31 = c at *
        have z1 : bitsOf u 0 32 = u := by
          unfold bitsOf; rw [if_pos (by omega)]
          show u / (2 : Int) ^ 0 % (2 : Int) ^ 32 = u
          rw [Int.pow_zero, Int.ediv_one]; omega
        have z2 : bitsOf u 0 c = u % (2 : Int) ^ c.toNat := by
          unfold bitsOf; rw [if_pos (by omega)]
          show u / (2 : Int) ^ 0 % _ = _
          rw [Int.pow_zero, Int.ediv_one]
        have hp := pow_pos' c.toNat
        have hpp : (2 : Int) ^ c.toNat * (2 : Int) ^ (32 - c).toNat = 2 ^ 32 := by rw [← Int.pow_add]; congr 1; omega
        have q0 : 0 ≤ u / (2 : Int) ^ c.toNat := Int.ediv_nonneg h.1 (by omega)
        have q1 : u / (2 : Int) ^ c.toNat < (2 : Int) ^ (32 - c).toNat := by
          apply Int.ediv_lt_of_lt_mul hp
          rw [Int.mul_comm, hpp]; omega
        have z3 : bitsOf u c (32 - c) = u / (2 : Int) ^ c.toNat := by
          unfold bitsOf; rw [if_pos (by omega), Int.emod_eq_of_lt q0 q1]
        have hm := Int.mul_ediv_add_emod u ((2 : Int) ^ c.toNat)
        have m0 := Int.emod_nonneg u (b := (2 : Int) ^ c.toNat) (by omega)
        have q2 : 0 ≤ (2 : Int) ^ c.toNat * (u / (2 : Int) ^ c.toNat) := Int.mul_nonneg (by omega) q0
        rw [implBits_ok _ _ _ (by omega), z1]; simp only [Option.bind_some, if_true]
        rw [implBits_ok _ _ _ (by omega), z2]; simp only [Option.bind_some]
        rw [pow2_ok (by omega) (by omega) (by omega)]; simp only [Option.bind_some]
        rw [implBits_ok _ _ _ (by omega), z3]; simp only [Option.bind_some]
        generalize (2 : Int) ^ c.toNat * (u / (2 : Int) ^ c.toNat) = A at *
        generalize u % (2 : Int) ^ c.toNat = B at *
        have e1 : wrap64 A = A := by unfold wrap64; omega
        have e2 : wrap64 (B + A) = u := by unfold wrap64; omega
        rw [e1, e2]; simp
    · have : bitsOf u low many = 0 := by unfold bitsOf; rw [if_neg h]
      simp [this]
  have rest : ((spec_DrawBits.f 66 l0).bind fun bt160 => ((impl_Bits.f bt160.1 bt160.2.1 bt160.2.2).bind fun t163 => ((spec_Bits.f 66 bt160.1 bt160.2.1 bt160.2.2).bind fun t164 => (if t163 = t164 then (laws_FnBitsJoin.j1 66 l1 bt160.1 t163 t164 (t163 == 0)) else (laws_FnBitsJoin.j1 66 l1 bt160.1 t163 t164 true))))) = some true := by
    rw [ed]; simp only [Option.bind_some]
    rw [implBits_ok _ _ _ hlow, specBits_ok (by omega) _ _ _ hlow]; simp only [Option.bind_some, if_true]
    exact main
  rw [rest]
  split
  · rfl
  · split <;> rfl

end Go.Proofs.Ytipkjmkcnkbbfaa.Pure
namespace Go.Proofs.Ytipkjmkcnkbbfaa.PrintWords
open Go Go.ChangeShapes Go.WideShapes
/-- The printed row asks for this word under this name. -/
theorem sized_ints {H : Type} {enc : TypeId × Value → H} {P : Program} {W : World} {base : Nat} {spare : Nat → Bool} {held : Bool} {t e : TypeId} {k : IntKind} {a : Option Addr} {len cap : Nat} {d : DataW H} {ps : List MemPlace} {ts : List TypeId} {ds : List (DataW H)} {j : Nat}
    (hsz : (DataW.weightsEach P ts ds).all (· ≤ reachBytes) = true) (ht : ts[j]? = some t) (hd : ds[j]? = some d) (hu : P.underlying t = some (.slice e)) (he : P.underlying e = some (.int k)) (hc : P.cellsOf e = 1) {B : Nat} (hB : P.bytesOf e = B)
    (h : DataW.Trod enc P W base spare held t (.slice a len cap) d ps) : len * B ≤ 140737488351232 :=
  Go.Proofs.YtipkjmkcnkbbfaaW.PrintWords.sized_ints hsz ht hd hu he hc hB h
end Go.Proofs.Ytipkjmkcnkbbfaa.PrintWords
