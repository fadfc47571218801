/- The law FnExactWrap, 'The program's Wrap returns what the reference's returns, for all arguments', answers true for every input: what the program's functions compute is shown to answer it; conditions: none beyond the given statement's own. -/
import Derived.Test.YtcnnabcgflennaaPFnExactWrapx1
namespace Go.Proofs.Ytcnnabcgflennaa.Pure
open Go Go.RowKit Go.Proofs.Ytcnnabcgflennaa.PFnExactWrap Go.Proofs.YtcnnabcgflennaaW.PrintWords Go.Proofs.YtcnnabcgflennaaW.PrintLast Go.Proofs.YtcnnabcgflennaaW.PrintMore
set_option linter.unusedVariables false
set_option linter.unusedSimpArgs false

theorem w64 {n : Int} (h : -9223372036854775808 ≤ n) (h' : n ≤ 9223372036854775807) : wrap64 n = n := by unfold wrap64; omega
theorem w64_range (n : Int) : -9223372036854775808 ≤ wrap64 n ∧ wrap64 n ≤ 9223372036854775807 := by unfold wrap64; omega
theorem wf64 {n : Int} (h : (Lit.int .i64 n).wf = true) : -9223372036854775808 ≤ n ∧ n ≤ 9223372036854775807 := by
  simpa [Lit.wf, IntKind.min, IntKind.max, IntKind.signed, IntKind.bits] using h
theorem wf8 {n : Int} (h : (Lit.int .u8 n).wf = true) : 0 ≤ n ∧ n ≤ 255 := by
  simpa [Lit.wf, IntKind.min, IntKind.max, IntKind.signed, IntKind.bits] using h
theorem tm_range {x m : Int} (hx : 0 ≤ x) (hm : 0 < m) : 0 ≤ Int.tmod x m ∧ Int.tmod x m < m := by
  rw [Int.tmod_eq_emod_of_nonneg hx]; exact ⟨Int.emod_nonneg _ (by omega), Int.emod_lt_of_pos _ hm⟩
theorem td_range {x m : Int} (hx : 0 ≤ x) (hm : 0 < m) : 0 ≤ Int.tdiv x m ∧ Int.tdiv x m ≤ x := by
  rw [Int.tdiv_eq_ediv_of_nonneg hx]; exact ⟨Int.ediv_nonneg hx (by omega), Int.ediv_le_self _ hx⟩
theorem toInt_wrap (v : BitVec 64) : IntKind.i64.wrap (v.toNat : Int) = v.toInt := by
  rw [IntKind.wrap_i64, BitVec.toInt_eq_toNat_cond]
  have := v.isLt
  split <;> omega
theorem bits_and (x y : Int) : Go.bits .and .i64 x y = (BitVec.ofInt 64 x &&& BitVec.ofInt 64 y).toInt := toInt_wrap _
theorem bits_or (x y : Int) : Go.bits .or .i64 x y = (BitVec.ofInt 64 x ||| BitVec.ofInt 64 y).toInt := toInt_wrap _
theorem bits_xor (x y : Int) : Go.bits .xor .i64 x y = (BitVec.ofInt 64 x ^^^ BitVec.ofInt 64 y).toInt := toInt_wrap _
theorem xor_nonneg {x y : Int} (hx : 0 ≤ x) (hx' : x < 4611686018427387904) (hy : 0 ≤ y) (hy' : y < 4611686018427387904) :
    0 ≤ Go.bits .xor .i64 x y := by
  obtain ⟨a, rfl⟩ := Int.eq_ofNat_of_zero_le hx
  obtain ⟨b, rfl⟩ := Int.eq_ofNat_of_zero_le hy
  have ha : a < 2 ^ 62 := by omega
  have hb : b < 2 ^ 62 := by omega
  have h := Nat.xor_lt_two_pow ha hb
  rw [bits_xor, BitVec.toInt_eq_toNat_cond]
  have e : (BitVec.ofInt 64 (a : Int) ^^^ BitVec.ofInt 64 (b : Int)).toNat = a ^^^ b := by
    rw [BitVec.toNat_xor, BitVec.ofInt_natCast, BitVec.ofInt_natCast, BitVec.toNat_ofNat, BitVec.toNat_ofNat, Nat.mod_eq_of_lt (by omega), Nat.mod_eq_of_lt (by omega)]
  rw [e]
  split <;> omega
theorem rd_bytes {b : List Int} (hb : ∀ x ∈ b, 0 ≤ x ∧ x ≤ 255) (i : Int) : 0 ≤ rd b i ∧ rd b i ≤ 255 := by
  unfold rd
  rw [List.getD_eq_getElem?_getD]
  by_cases h : i.toNat < b.length
  · rw [List.getElem?_eq_getElem h]; exact hb _ (List.getElem_mem h)
  · rw [List.getElem?_eq_none (by omega)]; simp

theorem specWrap_ok (n : Int) (h : -9223372036854775808 ≤ n ∧ n ≤ 9223372036854775807) : spec_Wrap.f n = some (wrap32 n) := by
  unfold spec_Wrap.f
  have hm : Int.tmod n 4294967296 = if 0 ≤ n then n % 4294967296 else -((-n) % 4294967296) := by
    split
    · exact Int.tmod_eq_emod_of_nonneg (by omega)
    · have := Int.neg_tmod (-n) 4294967296
      rw [Int.neg_neg] at this
      rw [this, Int.tmod_eq_emod_of_nonneg (by omega)]
  rw [hm]
  generalize hq : (if 0 ≤ n then n % 4294967296 else -((-n) % 4294967296)) = q
  have hq' : (q - n) % 4294967296 = 0 ∧ -4294967296 < q ∧ q < 4294967296 := by subst hq; split <;> omega
  unfold wrap32 wrap64
  split
  · congr 1; omega
  · split
    · congr 1; omega
    · congr 1; omega
theorem wrap32_range (n : Int) : -2147483648 ≤ wrap32 n ∧ wrap32 n ≤ 2147483647 := by unfold wrap32; omega

theorem implWrap_ok (n : Int) : impl_Wrap.f n = some (wrap32 n) := by
  unfold impl_Wrap.f
  congr 1
  unfold wrap64 wrap32; omega

theorem FnExactWrap : laws_FnExactWrap.Pure := by
  intro a0 h
  unfold laws_FnExactWrap.f
  rw [specWrap_ok _ (wf64 h), implWrap_ok]
  simp

end Go.Proofs.Ytcnnabcgflennaa.Pure
