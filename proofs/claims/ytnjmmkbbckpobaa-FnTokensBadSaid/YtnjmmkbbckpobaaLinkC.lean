/- What the reference's drawing functions for texts and tokens give: some text of at most 20,300 bytes, some list of at most nine tokens of at most 20 bytes; for every code. -/
import Derived.Test.YtnjmmkbbckpobaaLinkB
import Derived.Test.YtnjmmkbbckpobaaQx11
namespace Go.Proofs.Ytnjmmkbbckpobaa.Link
open Go Go.RowKit Go.Proofs.Ytnjmmkbbckpobaa.Given Go.Proofs.Ytnjmmkbbckpobaa.Toks Go.Proofs.Ytnjmmkbbckpobaa.Q Go.Proofs.YtnjmmkbbckpobaaW.PrintWords Go.Proofs.YtnjmmkbbckpobaaW.PrintLast Go.Proofs.YtnjmmkbbckpobaaW.PrintMore
set_option linter.unusedVariables false
set_option linter.unusedSimpArgs false
theorem w64_range (n : Int) : -9223372036854775808 ≤ wrap64 n ∧ wrap64 n ≤ 9223372036854775807 := by unfold wrap64; omega
theorem wf64 {n : Int} (h : (Lit.int .i64 n).wf = true) : -9223372036854775808 ≤ n ∧ n ≤ 9223372036854775807 := by
  simpa [Lit.wf, IntKind.min, IntKind.max, IntKind.signed, IntKind.bits] using h
theorem wf8 {n : Int} (h : (Lit.int .u8 n).wf = true) : 0 ≤ n ∧ n ≤ 255 := by
  simpa [Lit.wf, IntKind.min, IntKind.max, IntKind.signed, IntKind.bits] using h
theorem tm_range {x m : Int} (hx : 0 ≤ x) (hm : 0 < m) : 0 ≤ Int.tmod x m ∧ Int.tmod x m < m := by
  rw [Int.tmod_eq_emod_of_nonneg hx]; exact ⟨Int.emod_nonneg _ (by omega), Int.emod_lt_of_pos _ hm⟩
theorem td_range {x m : Int} (hx : 0 ≤ x) (hm : 0 < m) : 0 ≤ Int.tdiv x m ∧ Int.tdiv x m ≤ x := by
  rw [Int.tdiv_eq_ediv_of_nonneg hx]; exact ⟨Int.ediv_nonneg hx (by omega), Int.ediv_le_self _ hx⟩
theorem toInt_wrap (v : BitVec 64) : IntKind.i64.wrap (v.toNat : Int) = v.toInt := by
  rw [IntKind.wrap_i64, BitVec.toInt_eq_toNat_cond]
  have := v.isLt
  split <;> omega
theorem bits_and (x y : Int) : Go.bits .and .i64 x y = (BitVec.ofInt 64 x &&& BitVec.ofInt 64 y).toInt := toInt_wrap _
theorem bits_or (x y : Int) : Go.bits .or .i64 x y = (BitVec.ofInt 64 x ||| BitVec.ofInt 64 y).toInt := toInt_wrap _
theorem bits_xor (x y : Int) : Go.bits .xor .i64 x y = (BitVec.ofInt 64 x ^^^ BitVec.ofInt 64 y).toInt := toInt_wrap _
theorem xor_nonneg {x y : Int} (hx : 0 ≤ x) (hx' : x < 4611686018427387904) (hy : 0 ≤ y) (hy' : y < 4611686018427387904) :
    0 ≤ Go.bits .xor .i64 x y := by
  obtain ⟨a, rfl⟩ := Int.eq_ofNat_of_zero_le hx
  obtain ⟨b, rfl⟩ := Int.eq_ofNat_of_zero_le hy
  have ha : a < 2 ^ 62 := by omega
  have hb : b < 2 ^ 62 := by omega
  have h := Nat.xor_lt_two_pow ha hb
  rw [bits_xor, BitVec.toInt_eq_toNat_cond]
  have e : (BitVec.ofInt 64 (a : Int) ^^^ BitVec.ofInt 64 (b : Int)).toNat = a ^^^ b := by
    rw [BitVec.toNat_xor, BitVec.ofInt_natCast, BitVec.ofInt_natCast, BitVec.toNat_ofNat, BitVec.toNat_ofNat, Nat.mod_eq_of_lt (by omega), Nat.mod_eq_of_lt (by omega)]
  rw [e]
  split <;> omega
theorem rd_bytes {b : List Int} (hb : ∀ x ∈ b, 0 ≤ x ∧ x ≤ 255) (i : Int) : 0 ≤ rd b i ∧ rd b i ≤ 255 := by
  unfold rd
  rw [List.getD_eq_getElem?_getD]
  by_cases h : i.toNat < b.length
  · rw [List.getElem?_eq_getElem h]; exact hb _ (List.getElem_mem h)
  · rw [List.getElem?_eq_none (by omega)]; simp
theorem pick_ok {b : List Int} {p n : Int} {k : Nat} (hb : ∀ x ∈ b, 0 ≤ x ∧ x ≤ 255) (hp0 : 0 ≤ p) (hp : p ≤ 1000000) (hn : 1 ≤ n) (hk : 1 ≤ k) :
    ∃ v, spec_l6Rd_pick.f k b p n = some (v, p + 1) ∧ 0 ≤ v ∧ v < n := by
  obtain ⟨k, rfl⟩ : ∃ m, k = m + 1 := ⟨k - 1, by omega⟩
  have e0 : wrap64 (p + 1) = p + 1 := w64 (by omega) (by omega)
  have e1 : wrap64 (p + 1 - 1) = p := by unfold wrap64; omega
  unfold spec_l6Rd_pick.f
  rw [if_neg (by omega), e0]
  simp only [spec_l6Rd_pick.j0]
  rw [e1]
  by_cases h0 : b.length = 0
  · rw [if_pos (by simp [h0])]
    exact ⟨0, rfl, by omega, by omega⟩
  · have hl : 0 < (b.length : Int) := by omega
    rw [if_neg (by simp; intro h; exact h0 (by simp [h]))]
    by_cases h1 : p < (b.length : Int)
    · rw [if_pos h1, if_pos hp0, if_neg (by omega)]
      have hr := rd_bytes hb p
      rw [w64 (n := rd b p) (by omega) (by omega)]
      have ht := tm_range (x := rd b p) (m := n) hr.1 (by omega)
      exact ⟨_, rfl, ht.1, ht.2⟩
    · have t1 := tm_range (x := p) (m := (b.length : Int)) hp0 hl
      have e2 : wrap64 (wrap64 (p * 7) + 3) = p * 7 + 3 := by unfold wrap64; omega
      have t2 := tm_range (x := p * 7 + 3) (m := (b.length : Int)) (by omega) hl
      have t3 := td_range (x := p) (m := (b.length : Int)) hp0 hl
      rw [e2, if_neg h1, if_neg (by omega), if_pos t1.1, if_pos t1.2, if_pos t2.1, if_pos t2.2, if_neg (by omega)]
      have r1 := rd_bytes hb (Int.tmod p (b.length : Int))
      have r2 := rd_bytes hb (Int.tmod (p * 7 + 3) (b.length : Int))
      generalize rd b (Int.tmod p (b.length : Int)) = x1 at *
      generalize rd b (Int.tmod (p * 7 + 3) (b.length : Int)) = x2 at *
      generalize Int.tdiv p (b.length : Int) = q at *
      have e3 : wrap64 (wrap64 (wrap64 (wrap64 (wrap64 x1 * 131) + wrap64 (wrap64 x2 * 1117)) + wrap64 (p * 29)) + wrap64 (wrap64 q * 53)) = x1 * 131 + x2 * 1117 + p * 29 + q * 53 := by
        unfold wrap64; omega
      rw [e3]
      have hX : 0 ≤ x1 * 131 + x2 * 1117 + p * 29 + q * 53 ∧ x1 * 131 + x2 * 1117 + p * 29 + q * 53 < 1000000000 := by omega
      generalize x1 * 131 + x2 * 1117 + p * 29 + q * 53 = X at *
      have hd := td_range (x := X) (m := 64) hX.1 (by omega)
      have e4 : wrap64 (Int.tdiv X 64) = Int.tdiv X 64 := w64 (by omega) (by omega)
      rw [e4]
      have hx := xor_nonneg (x := X) (y := Int.tdiv X 64) hX.1 (by omega) hd.1 (by omega)
      have ht := tm_range (m := n) hx (by omega)
      exact ⟨_, rfl, ht.1, ht.2⟩
theorem open_ok {l : List Int} (hw : ∀ x ∈ l, (Lit.int .u8 x).wf = true) : ∃ b, spec_l6Open.f l = some (b, 0) ∧ ∀ x ∈ b, 0 ≤ x ∧ x ≤ 255 := by
  unfold spec_l6Open.f
  split
  · rw [if_pos (by omega)]
    exact ⟨_, rfl, fun x hx => wf8 (hw x (List.mem_of_mem_take hx))⟩
  · exact ⟨_, rfl, fun x hx => wf8 (hw x hx)⟩
theorem specOpValid_ok (n : Int) : spec_OpValid.f n = some (decide (1 ≤ n ∧ n ≤ 12)) := by
  unfold spec_OpValid.f spec_l6In.f
  split <;> simp <;> omega

theorem of_ok {b : List Int} {p : Int} {l : List ByteArray} {k : Nat} {m : Nat} (hb : ∀ x ∈ b, 0 ≤ x ∧ x ≤ 255) (hp0 : 0 ≤ p) (hp : p ≤ 1000000) (hl : 0 < l.length) (hm : ∀ t ∈ l, t.size ≤ m) (hk : 1 ≤ k) :
    ∃ v, spec_l6Rd_of.f k b p l = some (v, p + 1) ∧ v.size ≤ m := by
  unfold spec_l6Rd_of.f
  obtain ⟨c, ec, h0, h1⟩ := pick_ok (n := (l.length : Int)) hb hp0 hp (by omega) hk
  rw [ec]; simp only [Option.bind_some]
  rw [if_pos h0, if_pos h1]
  obtain ⟨j, rfl⟩ := Int.eq_ofNat_of_zero_le h0
  have hj : j < l.length := by omega
  have e : rdOf ByteArray.empty l ((j : Nat) : Int) = l[j] := rdOf_get hj
  exact ⟨_, rfl, by rw [e]; exact hm _ (List.getElem_mem hj)⟩
theorem strOfNums_size (xs : List Int) : (strOfNums xs).size = xs.length := by
  unfold strOfNums
  rw [← L_len]; simp [L]
theorem dec_ok : ∀ (d : Nat) {k : Nat} {n : Int}, 0 ≤ n → n < 10 ^ (d + 1) → d ≤ 10 → d + 1 ≤ k → ∃ r, spec_l6Dec.f k n = some r ∧ r.size ≤ d + 1 := by
  intro d
  induction d with
  | zero =>
    intro k n h0 h1 _ hk
    obtain ⟨k, rfl⟩ : ∃ m, k = m + 1 := ⟨k - 1, by omega⟩
    rw [spec_l6Dec.f, if_neg (by omega), if_neg (by omega), if_pos (by omega)]
    exact ⟨_, rfl, by rw [strOfNums_size]; simp⟩
  | succ d ih =>
    intro k n h0 h1 hd hk
    obtain ⟨k, rfl⟩ : ∃ m, k = m + 1 := ⟨k - 1, by omega⟩
    rw [spec_l6Dec.f, if_neg (by omega), if_neg (by omega)]
    by_cases h : n < 10
    · rw [if_pos h]; exact ⟨_, rfl, by rw [strOfNums_size]; simp⟩
    · have hp : (10 : Int) ^ (d + 1 + 1) ≤ 10 ^ 12 := by
        have e1 : ((10 : Int) ^ (d + 1 + 1)) = ((10 ^ (d + 1 + 1) : Nat) : Int) := by simp
        have e2 : ((10 : Int) ^ 12) = ((10 ^ 12 : Nat) : Int) := by simp
        rw [e1, e2]; exact_mod_cast Nat.pow_le_pow_right (by decide) (by omega)
      have hs : (10 : Int) ^ (d + 1 + 1) = 10 ^ (d + 1) * 10 := Int.pow_succ 10 (d + 1)
      have e : wrap64 (Int.tdiv n 10) = n / 10 := by rw [Int.tdiv_eq_ediv_of_nonneg h0]; unfold wrap64; omega
      rw [if_neg h, e]
      obtain ⟨r, er, hr⟩ := ih (k := k) (n := n / 10) (by omega) (by omega) (by omega) (by omega)
      rw [er]; simp only [Option.bind_some]
      have h2 : (strOfNums ([(wrap64 (48 + (Int.tmod n 10))) % 256] : List Int)).size = 1 := by rw [strOfNums_size]; rfl
      rw [if_pos (by omega)]
      exact ⟨_, rfl, by rw [ByteArray.size_append]; omega⟩
theorem opText_ok {n : Int} : ∃ r, spec_OpText.f n = some r ∧ r.size ≤ 2 := by
  unfold spec_OpText.f
  rw [specOpValid_ok]; simp only [Option.bind_some]
  by_cases h : 1 ≤ n ∧ n ≤ 12
  · have e : wrap64 (n - 1) = n - 1 := by unfold wrap64; omega
    rw [if_pos (by simpa using h), e, if_pos (by omega), if_pos (by simp; omega)]
    obtain ⟨j, hj⟩ := Int.eq_ofNat_of_zero_le (show 0 ≤ n - 1 by omega)
    rw [hj]
    have hjl : j < ([(⟨#[124]⟩ : ByteArray), (⟨#[94]⟩ : ByteArray), (⟨#[38]⟩ : ByteArray), (⟨#[61, 61]⟩ : ByteArray), (⟨#[60]⟩ : ByteArray), (⟨#[60, 60]⟩ : ByteArray), (⟨#[62, 62]⟩ : ByteArray), (⟨#[43]⟩ : ByteArray), (⟨#[45]⟩ : ByteArray), (⟨#[42]⟩ : ByteArray), (⟨#[47]⟩ : ByteArray), (⟨#[37]⟩ : ByteArray)] : List ByteArray).length := by simp; omega
    refine ⟨_, rfl, ?_⟩
    have e2 := rdOf_get hjl
    have e3 : ∀ t ∈ ([(⟨#[124]⟩ : ByteArray), (⟨#[94]⟩ : ByteArray), (⟨#[38]⟩ : ByteArray), (⟨#[61, 61]⟩ : ByteArray), (⟨#[60]⟩ : ByteArray), (⟨#[60, 60]⟩ : ByteArray), (⟨#[62, 62]⟩ : ByteArray), (⟨#[43]⟩ : ByteArray), (⟨#[45]⟩ : ByteArray), (⟨#[42]⟩ : ByteArray), (⟨#[47]⟩ : ByteArray), (⟨#[37]⟩ : ByteArray)] : List ByteArray), t.size ≤ 2 := by decide
    have e4 := e3 _ (List.getElem_mem hjl)
    rw [← e2] at e4
    exact e4
  · rw [if_neg (by simpa using h)]; exact ⟨_, rfl, by decide⟩
theorem token_ok {b : List Int} {p : Int} {k : Nat} (hb : ∀ x ∈ b, 0 ≤ x ∧ x ≤ 255) (hp0 : 0 ≤ p) (hp : p ≤ 900000) (hk : 20 ≤ k) :
    ∃ v q, spec_l91Token.f k b p = some (v, q) ∧ v.size ≤ 20 ∧ p ≤ q ∧ q ≤ p + 4 := by
  unfold spec_l91Token.f
  obtain ⟨c, ec, hc0, hc1⟩ := pick_ok (n := 8) (k := k) hb hp0 (by omega) (by omega) (by omega)
  rw [ec]; simp only [Option.bind_some]
  obtain ⟨k, rfl⟩ : ∃ m, k = m + 2 := ⟨k - 2, by omega⟩
  have j1 : ∀ t, ∃ v q, spec_l91Token.j1 (k + 1) c t b (p + 1) = some (v, q) ∧ v.size ≤ 20 ∧ p ≤ q ∧ q ≤ p + 4 := by
    intro t
    rw [spec_l91Token.j1]
    cases t with
    | true =>
      obtain ⟨n, en, h0, h1⟩ := pick_ok (p := p + 1) (n := 200) (k := k) hb (by omega) (by omega) (by omega) (by omega)
      obtain ⟨r, er, hr⟩ := dec_ok 2 (k := k) (n := n) h0 (by omega) (by omega) (by omega)
      rw [if_pos rfl, en]; simp only [Option.bind_some]
      rw [er]; exact ⟨_, _, rfl, by omega, by omega, by omega⟩
    | false =>
      rw [if_neg (by decide)]
      split
      · obtain ⟨v, ev, hv⟩ := of_ok (p := p + 1) (k := k) (m := 20) (l := [(⟨#[48, 48, 55]⟩ : ByteArray), (⟨#[57, 57, 57, 57, 57]⟩ : ByteArray), (⟨#[49, 48, 48, 48, 48, 48]⟩ : ByteArray), (⟨#[40]⟩ : ByteArray), (⟨#[41]⟩ : ByteArray), (⟨#[123]⟩ : ByteArray), (⟨#[125]⟩ : ByteArray), (⟨#[61]⟩ : ByteArray), (⟨#[59]⟩ : ByteArray)]) hb (by omega) (by omega) (by decide) (by decide) (by omega)
        rw [ev]; exact ⟨_, _, rfl, hv, by omega, by omega⟩
      · obtain ⟨n, en, h0, h1⟩ := pick_ok (p := p + 1) (n := 40) (k := k) hb (by omega) (by omega) (by omega) (by omega)
        rw [en]; simp only [Option.bind_some]
        split
        · obtain ⟨v, ev, hv⟩ := of_ok (p := p + 1 + 1) (k := k) (m := 20) (l := [(⟨#[]⟩ : ByteArray), (⟨#[33]⟩ : ByteArray), (⟨#[62]⟩ : ByteArray), (⟨#[97, 49]⟩ : ByteArray), (⟨#[61, 32, 61]⟩ : ByteArray), (⟨#[32]⟩ : ByteArray), (⟨#[65]⟩ : ByteArray), (⟨#[60, 60, 60]⟩ : ByteArray)]) hb (by omega) (by omega) (by decide) (by decide) (by omega)
          rw [ev]; exact ⟨_, _, rfl, hv, by omega, by omega⟩
        · unfold spec_l91Op.f
          obtain ⟨g, eg, _, _⟩ := pick_ok (p := p + 1 + 1) (n := 12) (k := k) hb (by omega) (by omega) (by omega) (by omega)
          rw [eg]; simp only [Option.bind_some]
          obtain ⟨r, er, hr⟩ := opText_ok (n := wrap64 (1 + g))
          rw [er]; exact ⟨_, _, rfl, by omega, by omega, by omega⟩
  have j0 : ∀ t, ∃ v q, spec_l91Token.j0 (k + 2) c t b (p + 1) = some (v, q) ∧ v.size ≤ 20 ∧ p ≤ q ∧ q ≤ p + 4 := by
    intro t
    rw [spec_l91Token.j0]
    cases t with
    | true =>
      obtain ⟨v, ev, hv⟩ := of_ok (p := p + 1) (k := k + 1) (m := 20) (l := [(⟨#[97]⟩ : ByteArray), (⟨#[98]⟩ : ByteArray), (⟨#[99]⟩ : ByteArray), (⟨#[100]⟩ : ByteArray), (⟨#[105, 102]⟩ : ByteArray), (⟨#[101, 108, 115, 101]⟩ : ByteArray), (⟨#[119, 104, 105, 108, 101]⟩ : ByteArray), (⟨#[115, 101, 110, 100]⟩ : ByteArray), (⟨#[114, 101, 99, 118]⟩ : ByteArray), (⟨#[116, 97, 115, 107]⟩ : ByteArray), (⟨#[98, 111, 120]⟩ : ByteArray), (⟨#[112, 114, 105, 110, 116]⟩ : ByteArray), (⟨#[121, 105, 101, 108, 100]⟩ : ByteArray), (⟨#[120]⟩ : ByteArray)]) hb (by omega) (by omega) (by decide) (by decide) (by omega)
      rw [if_pos rfl, ev]; exact ⟨_, _, rfl, hv, by omega, by omega⟩
    | false =>
      rw [if_neg (by decide)]
      split
      · exact j1 _
      · exact j1 _
  split
  · exact j0 _
  · exact j0 _
theorem tokens_l {b : List Int} (hb : ∀ x ∈ b, 0 ≤ x ∧ x ≤ 255) {n : Int} (hn : n ≤ 9) {k : Nat} : ∀ (d : Nat) (i : Int) (p : Int) (acc : List ByteArray), n - i ≤ d → 0 ≤ i ∧ i ≤ 9 → 0 ≤ p → p ≤ 800000 + 4 * i → acc.length ≤ 9 → (acc.length : Int) = i ∨ n ≤ i → (∀ t ∈ acc, t.size ≤ 20) → d + 21 ≤ k →
    ∃ l q, spec_l91Tokens.l0 k acc n i b p = some (l, q) ∧ l.length ≤ 9 ∧ (∀ t ∈ l, t.size ≤ 20) ∧ p ≤ q ∧ q ≤ 800100 := by
  induction k with
  | zero => intro d i p acc _ _ _ _ _ _ _ h; omega
  | succ k ih =>
    intro d i p acc hd hi hp0 hp ha hai hs hk
    rw [spec_l91Tokens.l0]
    by_cases h : i < n
    · have e : wrap64 (i + 1) = i + 1 := by unfold wrap64; omega
      obtain ⟨v, q, ev, hv, hq0, hq1⟩ := token_ok (k := k) hb hp0 (by omega) (by omega)
      rw [if_pos h, ev]; simp only [Option.bind_some]
      rw [if_pos (by omega), e]
      obtain ⟨l, q2, e2, h1, h2, h3, h4⟩ := ih (d - 1) (i + 1) q (acc ++ [v]) (by omega) ⟨by omega, by omega⟩ (by omega) (by omega) (by simp; omega) (by simp; omega) (fun t ht => by
        rcases List.mem_append.mp ht with ht | ht
        · exact hs t ht
        · rw [List.mem_singleton.mp ht]; exact hv) (by omega)
      exact ⟨l, q2, e2, h1, h2, by omega, h4⟩
    · rw [if_neg h]
      exact ⟨acc, p, rfl, ha, hs, by omega, by omega⟩
theorem tokens_ok {b : List Int} (hb : ∀ x ∈ b, 0 ≤ x ∧ x ≤ 255) {p : Int} (hp0 : 0 ≤ p) (hp : p ≤ 700000) {k : Nat} (hk : 40 ≤ k) :
    ∃ l q, spec_l91Tokens.f k b p = some (l, q) ∧ l.length ≤ 9 ∧ (∀ t ∈ l, t.size ≤ 20) ∧ p ≤ q ∧ q ≤ 800100 := by
  unfold spec_l91Tokens.f
  obtain ⟨c, ec, hc0, hc1⟩ := pick_ok (n := 10) (k := k) hb hp0 (by omega) (by omega) (by omega)
  rw [ec]; simp only [Option.bind_some]
  obtain ⟨l, q, e, h1, h2, h3, h4⟩ := tokens_l hb (n := c) (by omega) (k := k) 9 0 (p + 1) [] (by omega) ⟨by omega, by omega⟩ (by omega) (by omega) (by simp) (by simp) (by simp) (by omega)
  exact ⟨l, q, e, h1, h2, by omega, h4⟩
theorem many_ok {k : Nat} : ∀ (d : Nat) (x acc : ByteArray) (n : Int), 0 ≤ n → n < 2 ^ d → d ≤ 20 → x.size * 2 ^ d ≤ 1000000000 → acc.size + x.size * n.toNat ≤ 1000000000 → d < k →
    ∃ r, spec_l6Many.l0 k x n acc = some r ∧ r.size = acc.size + x.size * n.toNat := by
  induction k with
  | zero => intro d x acc n _ _ _ _ _ h; omega
  | succ k ih =>
    intro d x acc n h0 h1 hd hx ha hk
    rw [spec_l6Many.l0]
    by_cases h : n > 0
    · cases d with
      | zero => simp at h1; omega
      | succ d =>
        have hs : (2 : Int) ^ (d + 1) = 2 ^ d * 2 := Int.pow_succ 2 d
        have hs' : (2 : Nat) ^ (d + 1) = 2 ^ d * 2 := Nat.pow_succ 2 d
        have hp : (2 : Int) ^ (d + 1) ≤ 2 ^ 20 := by
          have e1 : ((2 : Int) ^ (d + 1)) = ((2 ^ (d + 1) : Nat) : Int) := by simp
          rw [e1]; exact_mod_cast Nat.pow_le_pow_right (by decide) hd
        have hpos : 1 ≤ 2 ^ d := Nat.two_pow_pos d
        have e : wrap64 (Int.tdiv n 2) = n / 2 := by rw [Int.tdiv_eq_ediv_of_nonneg h0]; unfold wrap64; omega
        have hx2 : x.size * 2 ≤ 1000000000 := by
          have : x.size * 2 ≤ x.size * 2 ^ (d + 1) := Nat.mul_le_mul_left _ (by omega)
          omega
        have hxx : (x ++ x).size = x.size * 2 := by rw [ByteArray.size_append]; omega
        have hxd : (x ++ x).size * 2 ^ d ≤ 1000000000 := by
          rw [hxx, Nat.mul_assoc, Nat.mul_comm 2 (2 ^ d), ← hs']; exact hx
        obtain ⟨m, rfl⟩ := Int.eq_ofNat_of_zero_le h0
        have hm : ((m : Int) / 2).toNat = m / 2 := by omega
        have hmm : ((m : Nat) : Int).toNat = m := by omega
        rw [hmm] at ha ⊢
        rw [if_pos h, e, Int.tmod_eq_emod_of_nonneg h0]
        by_cases ho : (m : Int) % 2 = 1
        · have hsum : x.size * m = x.size + x.size * 2 * (m / 2) := by
            have : m = 1 + 2 * (m / 2) := by omega
            conv => lhs; rw [this]
            rw [Nat.mul_add, Nat.mul_one, Nat.mul_assoc]
          have hacc : (acc ++ x).size = acc.size + x.size := ByteArray.size_append
          rw [if_pos ho, if_pos (by omega), if_pos (by omega)]
          obtain ⟨r, er, hr⟩ := ih d (x ++ x) (acc ++ x) ((m : Int) / 2) (by omega) (by omega) (by omega) hxd (by rw [hm, hacc, hxx]; omega) (by omega)
          exact ⟨r, er, by rw [hr, hm, hacc, hxx]; omega⟩
        · have hsum : x.size * m = x.size * 2 * (m / 2) := by
            have : m = 2 * (m / 2) := by omega
            conv => lhs; rw [this]
            rw [Nat.mul_assoc]
          rw [if_neg ho, if_pos (by omega)]
          obtain ⟨r, er, hr⟩ := ih d (x ++ x) acc ((m : Int) / 2) (by omega) (by omega) (by omega) hxd (by rw [hm, hxx]; omega) (by omega)
          exact ⟨r, er, by rw [hr, hm, hxx]; omega⟩
    · rw [if_neg h]
      have : n = 0 := by omega
      subst this
      exact ⟨acc, rfl, by simp⟩
theorem drawTokens_l {b : List Int} (hb : ∀ x ∈ b, 0 ≤ x ∧ x ≤ 255) {l : List ByteArray} (hl : l.length ≤ 9) (hs : ∀ t ∈ l, t.size ≤ 20) {k : Nat} :
    ∀ (d i : Nat) (acc : ByteArray) (p : Int), l.length - i = d → i ≤ l.length → 0 ≤ p → p ≤ 900000 + i → acc.size ≤ 30 * i → d + 30 ≤ k →
    ∃ r, spec_DrawTokens.l0 k l acc i b p = some r ∧ r.size ≤ 20300 := by
  induction k with
  | zero => intro d i acc p _ _ _ _ _ h; omega
  | succ k ih =>
    intro d i acc p hd hi hp0 hp ha hk
    rw [spec_DrawTokens.l0]
    by_cases h : i < l.length
    · have e : wrap64 ((i : Int) + 1) = ((i + 1 : Nat) : Int) := by unfold wrap64; omega
      have h1 := hs _ (List.getElem_mem h)
      obtain ⟨v, ev, hv⟩ := of_ok (p := p) (k := k) (m := 2) (l := [(⟨#[32]⟩ : ByteArray), (⟨#[32]⟩ : ByteArray), (⟨#[10]⟩ : ByteArray), (⟨#[]⟩ : ByteArray), (⟨#[32, 32]⟩ : ByteArray)]) hb hp0 (by omega) (by decide) (by decide) (by omega)
      have e1 : (acc ++ l[i]).size = acc.size + l[i].size := ByteArray.size_append
      have e2 : (acc ++ l[i] ++ v).size = acc.size + l[i].size + v.size := by rw [ByteArray.size_append, e1]
      rw [if_pos (by omega), if_pos (by omega), rdOf_get h, if_pos (by omega), ev]; simp only [Option.bind_some]
      rw [if_pos (by omega), e]
      exact ih (d - 1) (i + 1) _ (p + 1) (by omega) (by omega) (by omega) (by omega) (by omega) (by omega)
    · rw [if_neg (by omega)]
      obtain ⟨c, ec, hc0, hc1⟩ := pick_ok (p := p) (n := 40) (k := k) hb hp0 (by omega) (by omega) (by omega)
      rw [ec]; simp only [Option.bind_some]
      split
      · unfold spec_l6Many.f
        obtain ⟨r, er, hr⟩ := many_ok (k := k) 14 (⟨#[97, 32]⟩ : ByteArray) (⟨#[]⟩ : ByteArray) 10001 (by omega) (by omega) (by omega) (by decide) (by decide) (by omega)
        have hr2 : r.size = 20002 := by rw [hr]; rfl
        have e1 : (acc ++ r).size = acc.size + r.size := ByteArray.size_append
        rw [er]; simp only [Option.bind_some]
        rw [if_pos (by omega)]
        exact ⟨_, rfl, by omega⟩
      · exact ⟨acc, rfl, by omega⟩
theorem drawTokens_ok {l : List Int} (hw : ∀ x ∈ l, (Lit.int .u8 x).wf = true) {k : Nat} (hk : 100 ≤ k) :
    ∃ s, spec_DrawTokens.f k l = some s ∧ s.size ≤ 20300 := by
  unfold spec_DrawTokens.f
  obtain ⟨b, eb, hb⟩ := open_ok hw
  rw [eb]; simp only [Option.bind_some]
  obtain ⟨ts, q, e, h1, h2, h3, h4⟩ := tokens_ok hb (p := 0) (by omega) (by omega) (k := k) (by omega)
  rw [e]; simp only [Option.bind_some]
  exact drawTokens_l hb h1 h2 (k := k) ts.length 0 (⟨#[]⟩ : ByteArray) q (by omega) (by omega) (by omega) (by omega) (by decide) (by omega)
theorem drawTexts_ok {l : List Int} (hw : ∀ x ∈ l, (Lit.int .u8 x).wf = true) {k : Nat} (hk : 100 ≤ k) :
    ∃ ts, spec_DrawTokensText.f k l = some ts ∧ ts.length ≤ 9 ∧ (∀ t ∈ ts, t.size ≤ 20) := by
  unfold spec_DrawTokensText.f
  obtain ⟨b, eb, hb⟩ := open_ok hw
  rw [eb]; simp only [Option.bind_some]
  obtain ⟨ts, q, e, h1, h2, h3, h4⟩ := tokens_ok hb (p := 0) (by omega) (by omega) (k := k) (by omega)
  rw [e]; exact ⟨ts, rfl, h1, h2⟩
theorem drawValid_ok {l : List Int} (hw : ∀ x ∈ l, (Lit.int .u8 x).wf = true) {k : Nat} (hk : 100 ≤ k) :
    ∃ s, spec_DrawTokenValid.f k l = some s ∧ s.size ≤ 20 := by
  unfold spec_DrawTokenValid.f
  obtain ⟨b, eb, hb⟩ := open_ok hw
  rw [eb]; simp only [Option.bind_some]
  obtain ⟨c, ec, hc0, hc1⟩ := pick_ok (p := 0) (n := 4) (k := k) hb (by omega) (by omega) (by omega) (by omega)
  rw [ec]; simp only [Option.bind_some]
  split
  · obtain ⟨v, ev, hv⟩ := of_ok (p := 0 + 1) (k := k) (m := 20) (l := [(⟨#[]⟩ : ByteArray), (⟨#[33]⟩ : ByteArray), (⟨#[62]⟩ : ByteArray), (⟨#[97, 49]⟩ : ByteArray), (⟨#[61, 32, 61]⟩ : ByteArray), (⟨#[32]⟩ : ByteArray), (⟨#[65]⟩ : ByteArray), (⟨#[60, 60, 60]⟩ : ByteArray), (⟨#[49, 97]⟩ : ByteArray), (⟨#[97, 32]⟩ : ByteArray), (⟨#[61, 61]⟩ : ByteArray)]) hb (by omega) (by omega) (by decide) (by decide) (by omega)
    rw [ev]; exact ⟨_, rfl, hv⟩
  · obtain ⟨v, q, ev, hv, _, _⟩ := token_ok (p := 0 + 1) (k := k) hb (by omega) (by omega) (by omega)
    rw [ev]; exact ⟨_, rfl, hv⟩
theorem same_l (l : List ByteArray) {k : Nat} : ∀ (d i : Nat), l.length - i = d → i ≤ l.length → d < k → l.length ≤ 9000000000000 → laws_sameTexts.l0 k l l i = some true := by
  induction k with
  | zero => intro d i _ _ h; omega
  | succ k ih =>
    intro d i hd hi hk hl
    rw [laws_sameTexts.l0]
    by_cases h : i < l.length
    · have e : wrap64 ((i : Int) + 1) = ((i + 1 : Nat) : Int) := by unfold wrap64; omega
      rw [if_pos (by omega), if_pos (by omega), if_pos (by omega), if_pos rfl, e]
      exact ih (d - 1) (i + 1) (by omega) (by omega) (by omega) hl
    · rw [if_neg (by omega)]
theorem same_ok (l : List ByteArray) {k : Nat} (hk : l.length < k) (hl : l.length ≤ 9000000000000) : laws_sameTexts.f k l l = some true := by
  unfold laws_sameTexts.f
  rw [if_pos rfl]
  exact same_l l l.length 0 (by omega) (by omega) hk hl
end Go.Proofs.Ytnjmmkbbckpobaa.Link
