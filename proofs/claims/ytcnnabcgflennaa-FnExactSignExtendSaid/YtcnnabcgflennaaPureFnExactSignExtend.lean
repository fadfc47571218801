/- The law FnExactSignExtend, 'The program's SignExtend returns what the reference's returns, for all arguments', answers true for every input: what the program's functions compute is shown to answer it; conditions: none beyond the given statement's own. -/
import Derived.Test.YtcnnabcgflennaaPFnExactSignExtendx1
namespace Go.Proofs.Ytcnnabcgflennaa.Pure
open Go Go.RowKit Go.Proofs.Ytcnnabcgflennaa.PFnExactSignExtend Go.Proofs.YtcnnabcgflennaaW.PrintWords Go.Proofs.YtcnnabcgflennaaW.PrintLast Go.Proofs.YtcnnabcgflennaaW.PrintMore
set_option linter.unusedVariables false
set_option linter.unusedSimpArgs false

theorem w64 {n : Int} (h : -9223372036854775808 ≤ n) (h' : n ≤ 9223372036854775807) : wrap64 n = n := by unfold wrap64; omega
theorem w64_range (n : Int) : -9223372036854775808 ≤ wrap64 n ∧ wrap64 n ≤ 9223372036854775807 := by unfold wrap64; omega
theorem wf64 {n : Int} (h : (Lit.int .i64 n).wf = true) : -9223372036854775808 ≤ n ∧ n ≤ 9223372036854775807 := by
  simpa [Lit.wf, IntKind.min, IntKind.max, IntKind.signed, IntKind.bits] using h
theorem wf8 {n : Int} (h : (Lit.int .u8 n).wf = true) : 0 ≤ n ∧ n ≤ 255 := by
  simpa [Lit.wf, IntKind.min, IntKind.max, IntKind.signed, IntKind.bits] using h
theorem tm_range {x m : Int} (hx : 0 ≤ x) (hm : 0 < m) : 0 ≤ Int.tmod x m ∧ Int.tmod x m < m := by
  rw [Int.tmod_eq_emod_of_nonneg hx]; exact ⟨Int.emod_nonneg _ (by omega), Int.emod_lt_of_pos _ hm⟩
theorem td_range {x m : Int} (hx : 0 ≤ x) (hm : 0 < m) : 0 ≤ Int.tdiv x m ∧ Int.tdiv x m ≤ x := by
  rw [Int.tdiv_eq_ediv_of_nonneg hx]; exact ⟨Int.ediv_nonneg hx (by omega), Int.ediv_le_self _ hx⟩
theorem toInt_wrap (v : BitVec 64) : IntKind.i64.wrap (v.toNat : Int) = v.toInt := by
  rw [IntKind.wrap_i64, BitVec.toInt_eq_toNat_cond]
  have := v.isLt
  split <;> omega
theorem bits_and (x y : Int) : Go.bits .and .i64 x y = (BitVec.ofInt 64 x &&& BitVec.ofInt 64 y).toInt := toInt_wrap _
theorem bits_or (x y : Int) : Go.bits .or .i64 x y = (BitVec.ofInt 64 x ||| BitVec.ofInt 64 y).toInt := toInt_wrap _
theorem bits_xor (x y : Int) : Go.bits .xor .i64 x y = (BitVec.ofInt 64 x ^^^ BitVec.ofInt 64 y).toInt := toInt_wrap _
theorem xor_nonneg {x y : Int} (hx : 0 ≤ x) (hx' : x < 4611686018427387904) (hy : 0 ≤ y) (hy' : y < 4611686018427387904) :
    0 ≤ Go.bits .xor .i64 x y := by
  obtain ⟨a, rfl⟩ := Int.eq_ofNat_of_zero_le hx
  obtain ⟨b, rfl⟩ := Int.eq_ofNat_of_zero_le hy
  have ha : a < 2 ^ 62 := by omega
  have hb : b < 2 ^ 62 := by omega
  have h := Nat.xor_lt_two_pow ha hb
  rw [bits_xor, BitVec.toInt_eq_toNat_cond]
  have e : (BitVec.ofInt 64 (a : Int) ^^^ BitVec.ofInt 64 (b : Int)).toNat = a ^^^ b := by
    rw [BitVec.toNat_xor, BitVec.ofInt_natCast, BitVec.ofInt_natCast, BitVec.toNat_ofNat, BitVec.toNat_ofNat, Nat.mod_eq_of_lt (by omega), Nat.mod_eq_of_lt (by omega)]
  rw [e]
  split <;> omega
theorem rd_bytes {b : List Int} (hb : ∀ x ∈ b, 0 ≤ x ∧ x ≤ 255) (i : Int) : 0 ≤ rd b i ∧ rd b i ≤ 255 := by
  unfold rd
  rw [List.getD_eq_getElem?_getD]
  by_cases h : i.toNat < b.length
  · rw [List.getElem?_eq_getElem h]; exact hb _ (List.getElem_mem h)
  · rw [List.getElem?_eq_none (by omega)]; simp

theorem l1Power_l {k : Nat} : ∀ (d i : Nat) (n : Int), (n - i : Int) = d → n ≤ 62 → d < k → spec_l1Power.l0 k n ((2 : Int) ^ i) (i : Int) = some ((2 : Int) ^ n.toNat) := by
  induction k with
  | zero => intro d i n _ _ h; omega
  | succ k ih =>
    intro d i n hd hn hk
    simp only [spec_l1Power.l0]
    by_cases h : (i : Int) < n
    · rw [if_pos h]
      have hp : (2 : Nat) ^ i ≤ 2 ^ 62 := Nat.pow_le_pow_right (by decide) (by omega)
      have e1 : wrap64 ((2 : Int) ^ i * 2) = (2 : Int) ^ (i + 1) := by
        have hc : ((2 : Int) ^ i) = ((2 ^ i : Nat) : Int) := by simp
        have hp1 : 0 < 2 ^ i := Nat.two_pow_pos i
        have hp2 : (2 : Nat) ^ i ≤ 2 ^ 61 := Nat.pow_le_pow_right (by decide) (by omega)
        rw [Int.pow_succ, hc]; unfold wrap64; omega
      have e2 : wrap64 ((i : Int) + 1) = ((i + 1 : Nat) : Int) := by unfold wrap64; omega
      rw [e1, e2]
      exact ih (d - 1) (i + 1) n (by omega) hn (by omega)
    · rw [if_neg h]
      have : n.toNat = i := by omega
      rw [this]
theorem l1Power_ok {k : Nat} {n : Int} (h0 : 0 ≤ n) (h1 : n ≤ 62) (hk : 63 ≤ k) : spec_l1Power.f k n = some ((2 : Int) ^ n.toNat) := by
  unfold spec_l1Power.f
  exact l1Power_l n.toNat 0 n (by omega) h1 (by omega)

theorem pow_nat (i : Nat) : ((2 : Int) ^ i) = ((2 ^ i : Nat) : Int) := by simp
theorem pow_le {i j : Nat} (h : i ≤ j) : (2 : Int) ^ i ≤ 2 ^ j := by
  rw [pow_nat, pow_nat]; exact_mod_cast Nat.pow_le_pow_right (by decide) h
theorem pow_pos' (i : Nat) : (0 : Int) < 2 ^ i := by rw [pow_nat]; exact_mod_cast Nat.two_pow_pos i
theorem shl_one {n : Int} (h0 : 0 ≤ n) (h1 : n ≤ 62) : shl .i64 1 n = (2 : Int) ^ n.toNat := by
  unfold shl
  have hm : min n.toNat (IntKind.i64.bits) = n.toNat := Nat.min_eq_left (by show n.toNat ≤ 64; omega)
  rw [hm, IntKind.wrap_i64]
  have h2 : (2 : Int) ^ n.toNat ≤ 2 ^ 62 := pow_le (by omega)
  have h3 := pow_pos' n.toNat
  omega
theorem shr_small' {x n : Int} (h0 : 0 ≤ n) (h1 : n ≤ 64) : shr .i64 x n = x / (2 : Int) ^ n.toNat := by
  unfold shr
  have hm : min n.toNat (IntKind.i64.bits) = n.toNat := Nat.min_eq_left (by show n.toNat ≤ 64; omega)
  rw [hm]
theorem wraps_i64 (n : Int) (h₀ : 0 ≤ n) (h₁ : n < 2 ^ 63) : IntKind.i64.wrap n = n := by rw [IntKind.wrap_i64]; omega
theorem mask {x n : Int} (hx0 : 0 ≤ x) (hx : x < 9223372036854775808) (h0 : 0 ≤ n) (h1 : n ≤ 62) : Go.bits .and .i64 x ((2 : Int) ^ n.toNat - 1) = x % (2 : Int) ^ n.toNat :=
  bits_mask .i64 63 (by decide) wraps_i64 n.toNat (by omega) x hx0 (by omega)

/-- What 'SignExtend' answers. -/
def signOf (u many : Int) : Int :=
  if 1 ≤ many ∧ many ≤ 32 ∧ 0 ≤ u ∧ u < (2 : Int) ^ many.toNat then (if u ≥ (2 : Int) ^ (many - 1).toNat then u - (2 : Int) ^ many.toNat else u) else 0
theorem implSign_ok {k : Nat} (hk : 1 ≤ k) (u many : Int) : impl_SignExtend.f k u many = some (signOf u many) := by
  obtain ⟨k, rfl⟩ : ∃ m, k = m + 1 := ⟨k - 1, by omega⟩
  unfold impl_SignExtend.f signOf
  simp only [impl_SignExtend.j0]
  by_cases h1 : many < 1
  · rw [if_pos h1, if_pos trivial, if_neg (by omega)]
  rw [if_neg h1]
  by_cases h2 : many > 32
  · rw [if_pos h2, if_pos trivial, if_neg (by omega)]
  rw [if_neg h2]
  by_cases h3 : u < 0
  · rw [if_pos h3, if_pos trivial, if_neg (by omega)]
  have e : wrap64 (many - 1) = many - 1 := by unfold wrap64; omega
  rw [if_neg h3, if_pos (by omega), e, shl_one (by omega) (by omega), shl_one (by omega) (by omega)]
  by_cases h4 : u < (2 : Int) ^ many.toNat
  · have hq2 : (2 : Int) ^ many.toNat ≤ 2 ^ 62 := pow_le (by omega)
    have hp := pow_pos' many.toNat
    rw [if_neg (by simpa using h4), if_pos (by omega)]
    have hc : (1 ≤ many ∧ many ≤ 32 ∧ 0 ≤ u ∧ u < (2 : Int) ^ many.toNat) := by omega
    rw [if_pos hc]
    split
    · rw [if_pos (by omega), w64 (by omega) (by omega)]
    · rfl
  · rw [if_pos (by simpa using h4), if_neg (by omega)]

theorem specSign_ok {k : Nat} (hk : 64 ≤ k) (u many : Int) : spec_SignExtend.f k u many = some (signOf u many) := by
  obtain ⟨k, rfl⟩ : ∃ m, k = m + 1 := ⟨k - 1, by omega⟩
  unfold spec_SignExtend.f spec_l6In.f signOf
  simp only [spec_SignExtend.j0]
  by_cases h1 : many ≥ 1
  · rw [if_pos h1]; simp only [Option.bind_some]
    by_cases h2 : many ≤ 32
    · have hq2 : (2 : Int) ^ many.toNat ≤ 2 ^ 62 := pow_le (by omega)
      have hp := pow_pos' many.toNat
      have e : wrap64 (many - 1) = many - 1 := by unfold wrap64; omega
      rw [if_pos (by simpa using h2), l1Power_ok (by omega) (by omega) (by omega)]; simp only [Option.bind_some]
      rw [w64 (by omega) (by omega), e]
      by_cases h3 : u ≥ 0
      · rw [if_pos h3]; simp only [Option.bind_some]
        by_cases h4 : u < (2 : Int) ^ many.toNat
        · rw [if_neg (by simp; omega), if_pos (by omega), l1Power_ok (by omega) (by omega) (by omega)]; simp only [Option.bind_some]
          split
          · rw [l1Power_ok (by omega) (by omega) (by omega)]; simp only [Option.bind_some]
            rw [w64 (by omega) (by omega)]
          · rfl
        · rw [if_pos (by simp; omega), if_neg (by omega)]
      · rw [if_neg h3]; simp only [Option.bind_some, Bool.not_false, if_true]
        rw [if_neg (by omega)]
    · rw [if_neg (by simpa using h2), if_pos trivial, if_neg (by omega)]
  · rw [if_neg h1]; simp only [Option.bind_some, Bool.false_eq_true, if_false, if_true]
    rw [if_neg (by omega)]

theorem FnExactSignExtend : laws_FnExactSignExtend.Pure := by
  intro u many _ _
  refine ⟨64, ?_⟩
  unfold laws_FnExactSignExtend.f
  rw [specSign_ok (by omega), implSign_ok (by omega)]
  simp

end Go.Proofs.Ytcnnabcgflennaa.Pure
