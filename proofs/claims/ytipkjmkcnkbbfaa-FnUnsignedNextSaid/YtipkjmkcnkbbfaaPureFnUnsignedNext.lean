/- The law FnUnsignedNext, 'Neighbors stay neighbors', answers true for every input: what the program's functions compute is shown to answer it; conditions: none beyond the given statement's own. -/
import Derived.Test.YtipkjmkcnkbbfaaPFnUnsignedNextx2
import Derived.Test.YtipkjmkcnkbbfaaWSized
namespace Go.Proofs.Ytipkjmkcnkbbfaa.Pure
open Go Go.RowKit Go.Proofs.Ytipkjmkcnkbbfaa.PFnUnsignedNext Go.Proofs.YtipkjmkcnkbbfaaW.PrintWords Go.Proofs.YtipkjmkcnkbbfaaW.PrintLast Go.Proofs.YtipkjmkcnkbbfaaW.PrintMore
set_option linter.unusedVariables false
set_option linter.unusedSimpArgs false

theorem w64 {n : Int} (h : -9223372036854775808 ≤ n) (h' : n ≤ 9223372036854775807) : wrap64 n = n := by unfold wrap64; omega
theorem w64_range (n : Int) : -9223372036854775808 ≤ wrap64 n ∧ wrap64 n ≤ 9223372036854775807 := by unfold wrap64; omega
theorem wf64 {n : Int} (h : (Lit.int .i64 n).wf = true) : -9223372036854775808 ≤ n ∧ n ≤ 9223372036854775807 := by
  simpa [Lit.wf, IntKind.min, IntKind.max, IntKind.signed, IntKind.bits] using h
theorem wf8 {n : Int} (h : (Lit.int .u8 n).wf = true) : 0 ≤ n ∧ n ≤ 255 := by
  simpa [Lit.wf, IntKind.min, IntKind.max, IntKind.signed, IntKind.bits] using h
theorem tm_range {x m : Int} (hx : 0 ≤ x) (hm : 0 < m) : 0 ≤ Int.tmod x m ∧ Int.tmod x m < m := by
  rw [Int.tmod_eq_emod_of_nonneg hx]; exact ⟨Int.emod_nonneg _ (by omega), Int.emod_lt_of_pos _ hm⟩
theorem td_range {x m : Int} (hx : 0 ≤ x) (hm : 0 < m) : 0 ≤ Int.tdiv x m ∧ Int.tdiv x m ≤ x := by
  rw [Int.tdiv_eq_ediv_of_nonneg hx]; exact ⟨Int.ediv_nonneg hx (by omega), Int.ediv_le_self _ hx⟩
theorem toInt_wrap (v : BitVec 64) : IntKind.i64.wrap (v.toNat : Int) = v.toInt := by
  rw [IntKind.wrap_i64, BitVec.toInt_eq_toNat_cond]
  have := v.isLt
  split <;> omega
theorem bits_and (x y : Int) : Go.bits .and .i64 x y = (BitVec.ofInt 64 x &&& BitVec.ofInt 64 y).toInt := toInt_wrap _
theorem bits_or (x y : Int) : Go.bits .or .i64 x y = (BitVec.ofInt 64 x ||| BitVec.ofInt 64 y).toInt := toInt_wrap _
theorem bits_xor (x y : Int) : Go.bits .xor .i64 x y = (BitVec.ofInt 64 x ^^^ BitVec.ofInt 64 y).toInt := toInt_wrap _
theorem xor_nonneg {x y : Int} (hx : 0 ≤ x) (hx' : x < 4611686018427387904) (hy : 0 ≤ y) (hy' : y < 4611686018427387904) :
    0 ≤ Go.bits .xor .i64 x y := by
  obtain ⟨a, rfl⟩ := Int.eq_ofNat_of_zero_le hx
  obtain ⟨b, rfl⟩ := Int.eq_ofNat_of_zero_le hy
  have ha : a < 2 ^ 62 := by omega
  have hb : b < 2 ^ 62 := by omega
  have h := Nat.xor_lt_two_pow ha hb
  rw [bits_xor, BitVec.toInt_eq_toNat_cond]
  have e : (BitVec.ofInt 64 (a : Int) ^^^ BitVec.ofInt 64 (b : Int)).toNat = a ^^^ b := by
    rw [BitVec.toNat_xor, BitVec.ofInt_natCast, BitVec.ofInt_natCast, BitVec.toNat_ofNat, BitVec.toNat_ofNat, Nat.mod_eq_of_lt (by omega), Nat.mod_eq_of_lt (by omega)]
  rw [e]
  split <;> omega
theorem rd_bytes {b : List Int} (hb : ∀ x ∈ b, 0 ≤ x ∧ x ≤ 255) (i : Int) : 0 ≤ rd b i ∧ rd b i ≤ 255 := by
  unfold rd
  rw [List.getD_eq_getElem?_getD]
  by_cases h : i.toNat < b.length
  · rw [List.getElem?_eq_getElem h]; exact hb _ (List.getElem_mem h)
  · rw [List.getElem?_eq_none (by omega)]; simp

theorem pick_ok {b : List Int} {p n : Int} {k : Nat} (hb : ∀ x ∈ b, 0 ≤ x ∧ x ≤ 255) (hp0 : 0 ≤ p) (hp : p ≤ 1000000) (hn : 1 ≤ n) (hk : 1 ≤ k) :
    ∃ v, spec_l6Rd_pick.f k b p n = some (v, p + 1) ∧ 0 ≤ v ∧ v < n := by
  obtain ⟨k, rfl⟩ : ∃ m, k = m + 1 := ⟨k - 1, by omega⟩
  have e0 : wrap64 (p + 1) = p + 1 := w64 (by omega) (by omega)
  have e1 : wrap64 (p + 1 - 1) = p := by unfold wrap64; omega
  unfold spec_l6Rd_pick.f
  rw [if_neg (by omega), e0]
  simp only [spec_l6Rd_pick.j0]
  rw [e1]
  by_cases h0 : b.length = 0
  · rw [if_pos (by simp [h0])]
    exact ⟨0, rfl, by omega, by omega⟩
  · have hl : 0 < (b.length : Int) := by omega
    rw [if_neg (by simp; intro h; exact h0 (by simp [h]))]
    by_cases h1 : p < (b.length : Int)
    · rw [if_pos h1, if_pos hp0, if_neg (by omega)]
      have hr := rd_bytes hb p
      rw [w64 (n := rd b p) (by omega) (by omega)]
      have ht := tm_range (x := rd b p) (m := n) hr.1 (by omega)
      exact ⟨_, rfl, ht.1, ht.2⟩
    · have t1 := tm_range (x := p) (m := (b.length : Int)) hp0 hl
      have e2 : wrap64 (wrap64 (p * 7) + 3) = p * 7 + 3 := by unfold wrap64; omega
      have t2 := tm_range (x := p * 7 + 3) (m := (b.length : Int)) (by omega) hl
      have t3 := td_range (x := p) (m := (b.length : Int)) hp0 hl
      rw [e2, if_neg h1, if_neg (by omega), if_pos t1.1, if_pos t1.2, if_pos t2.1, if_pos t2.2, if_neg (by omega)]
      have r1 := rd_bytes hb (Int.tmod p (b.length : Int))
      have r2 := rd_bytes hb (Int.tmod (p * 7 + 3) (b.length : Int))
      generalize rd b (Int.tmod p (b.length : Int)) = x1 at *
      generalize rd b (Int.tmod (p * 7 + 3) (b.length : Int)) = x2 at *
      generalize Int.tdiv p (b.length : Int) = q at *
      have e3 : wrap64 (wrap64 (wrap64 (wrap64 (wrap64 x1 * 131) + wrap64 (wrap64 x2 * 1117)) + wrap64 (p * 29)) + wrap64 (wrap64 q * 53)) = x1 * 131 + x2 * 1117 + p * 29 + q * 53 := by
        unfold wrap64; omega
      rw [e3]
      have hX : 0 ≤ x1 * 131 + x2 * 1117 + p * 29 + q * 53 ∧ x1 * 131 + x2 * 1117 + p * 29 + q * 53 < 1000000000 := by omega
      generalize x1 * 131 + x2 * 1117 + p * 29 + q * 53 = X at *
      have hd := td_range (x := X) (m := 64) hX.1 (by omega)
      have e4 : wrap64 (Int.tdiv X 64) = Int.tdiv X 64 := w64 (by omega) (by omega)
      rw [e4]
      have hx := xor_nonneg (x := X) (y := Int.tdiv X 64) hX.1 (by omega) hd.1 (by omega)
      have ht := tm_range (m := n) hx (by omega)
      exact ⟨_, rfl, ht.1, ht.2⟩
theorem open_ok {l : List Int} (hw : ∀ x ∈ l, (Lit.int .u8 x).wf = true) : ∃ b, spec_l6Open.f l = some (b, 0) ∧ ∀ x ∈ b, 0 ≤ x ∧ x ≤ 255 := by
  unfold spec_l6Open.f
  split
  · rw [if_pos (by omega)]
    exact ⟨_, rfl, fun x hx => wf8 (hw x (List.mem_of_mem_take hx))⟩
  · exact ⟨_, rfl, fun x hx => wf8 (hw x hx)⟩

theorem specWrap_ok (n : Int) (h : -9223372036854775808 ≤ n ∧ n ≤ 9223372036854775807) : spec_Wrap.f n = some (wrap32 n) := by
  unfold spec_Wrap.f
  have hm : Int.tmod n 4294967296 = if 0 ≤ n then n % 4294967296 else -((-n) % 4294967296) := by
    split
    · exact Int.tmod_eq_emod_of_nonneg (by omega)
    · have := Int.neg_tmod (-n) 4294967296
      rw [Int.neg_neg] at this
      rw [this, Int.tmod_eq_emod_of_nonneg (by omega)]
  rw [hm]
  generalize hq : (if 0 ≤ n then n % 4294967296 else -((-n) % 4294967296)) = q
  have hq' : (q - n) % 4294967296 = 0 ∧ -4294967296 < q ∧ q < 4294967296 := by subst hq; split <;> omega
  unfold wrap32 wrap64
  split
  · congr 1; omega
  · split
    · congr 1; omega
    · congr 1; omega
theorem wrap32_range (n : Int) : -2147483648 ≤ wrap32 n ∧ wrap32 n ≤ 2147483647 := by unfold wrap32; omega

def Word (v : Int) : Prop := -2147483648 ≤ v ∧ v ≤ 2147483647
theorem rd_all {xs : List Int} {P : Int → Prop} (h : ∀ x ∈ xs, P x) {i : Int} (h0 : 0 ≤ i) (h1 : i < (xs.length : Int)) : P (rd xs i) := by
  unfold rd
  rw [List.getD_eq_getElem?_getD, List.getElem?_eq_getElem (by omega)]
  exact h _ (List.getElem_mem _)
theorem l91Word_ok {b : List Int} {p : Int} {k : Nat} (hb : ∀ x ∈ b, 0 ≤ x ∧ x ≤ 255) (hp0 : 0 ≤ p) (hp : p ≤ 900000) (hk : 1 ≤ k) :
    ∃ v q, spec_l91Word.f k b p = some (v, q) ∧ Word v ∧ p ≤ q ∧ q ≤ p + 5 := by
  unfold spec_l91Word.f
  obtain ⟨c, ec, hc0, hc1⟩ := pick_ok (n := 6) hb hp0 (by omega) (by omega) hk
  rw [ec]; simp only [Option.bind_some]
  split
  · obtain ⟨d, ed, hd0, hd1⟩ := pick_ok (p := p + 1) (n := 8) hb (by omega) (by omega) (by omega) hk
    rw [ed]; simp only [Option.bind_some]
    rw [if_pos hd0, if_pos (by simpa using hd1)]
    exact ⟨_, _, rfl, rd_all (by unfold Word; decide) hd0 (by simpa using hd1), by omega, by omega⟩
  · split
    · obtain ⟨d1, e1, _, _⟩ := pick_ok (p := p + 1) (n := 256) hb (by omega) (by omega) (by omega) hk
      obtain ⟨d2, e2, _, _⟩ := pick_ok (p := p + 1 + 1) (n := 256) hb (by omega) (by omega) (by omega) hk
      obtain ⟨d3, e3, _, _⟩ := pick_ok (p := p + 1 + 1 + 1) (n := 256) hb (by omega) (by omega) (by omega) hk
      obtain ⟨d4, e4, _, _⟩ := pick_ok (p := p + 1 + 1 + 1 + 1) (n := 200) hb (by omega) (by omega) (by omega) hk
      rw [e1]; simp only [Option.bind_some]
      rw [e2]; simp only [Option.bind_some]
      rw [e3]; simp only [Option.bind_some]
      rw [e4]; simp only [Option.bind_some]
      rw [specWrap_ok _ (w64_range _)]; simp only [Option.bind_some]
      exact ⟨_, _, rfl, wrap32_range _, by omega, by omega⟩
    · split
      · obtain ⟨d1, e1, h0, h1⟩ := pick_ok (p := p + 1) (n := 200) hb (by omega) (by omega) (by omega) hk
        rw [e1]; simp only [Option.bind_some]
        exact ⟨_, _, rfl, by unfold Word wrap64; omega, by omega, by omega⟩
      · obtain ⟨d1, e1, h0, h1⟩ := pick_ok (p := p + 1) (n := 20) hb (by omega) (by omega) (by omega) hk
        rw [e1]; simp only [Option.bind_some]
        exact ⟨_, _, rfl, by unfold Word; omega, by omega, by omega⟩

theorem l91Any_ok {b : List Int} {p : Int} {k : Nat} (hb : ∀ x ∈ b, 0 ≤ x ∧ x ≤ 255) (hp0 : 0 ≤ p) (hp : p ≤ 800000) (hk : 1 ≤ k) :
    ∃ v q, spec_l91Any.f k b p = some (v, q) ∧ (-9223372036854775808 ≤ v ∧ v ≤ 9223372036854775807) ∧ p ≤ q ∧ q ≤ p + 7 := by
  unfold spec_l91Any.f
  obtain ⟨c, ec, hc0, hc1⟩ := pick_ok (n := 4) hb hp0 (by omega) (by omega) hk
  rw [ec]; simp only [Option.bind_some]
  split
  · obtain ⟨v, q, ev, hv, hq0, hq1⟩ := l91Word_ok (p := p + 1) hb (by omega) (by omega) hk
    rw [ev]; simp only [Option.bind_some]
    obtain ⟨d, ed, hd0, hd1⟩ := pick_ok (p := q) (n := 6) hb (by omega) (by omega) (by omega) hk
    rw [ed]; simp only [Option.bind_some]
    rw [if_pos hd0, if_pos (by simpa using hd1)]
    exact ⟨_, _, rfl, w64_range _, by omega, by omega⟩
  · split
    · obtain ⟨d, ed, hd0, hd1⟩ := pick_ok (p := p + 1) (n := 7) hb (by omega) (by omega) (by omega) hk
      rw [ed]; simp only [Option.bind_some]
      rw [if_pos hd0, if_pos (by simpa using hd1)]
      exact ⟨_, _, rfl, rd_all (P := fun v => -9223372036854775808 ≤ v ∧ v ≤ 9223372036854775807) (by decide) hd0 (by simpa using hd1), by omega, by omega⟩
    · obtain ⟨v, q, ev, hv, hq0, hq1⟩ := l91Word_ok (p := p + 1) hb (by omega) (by omega) hk
      rw [ev]; simp only [Option.bind_some]
      exact ⟨_, _, rfl, by unfold Word at hv; omega, by omega, by omega⟩

theorem drawUnsigned_ok {l : List Int} {k : Nat} (hw : ∀ x ∈ l, (Lit.int .u8 x).wf = true) (hk : 1 ≤ k) :
    ∃ n, spec_DrawUnsigned.f k l = some n ∧ (-9223372036854775808 ≤ n ∧ n ≤ 9223372036854775807) := by
  unfold spec_DrawUnsigned.f
  obtain ⟨b, eb, hb⟩ := open_ok hw
  rw [eb]; simp only [Option.bind_some]
  obtain ⟨c, ec, hc0, hc1⟩ := pick_ok (p := 0) (n := 10) hb (by omega) (by omega) (by omega) hk
  rw [ec]; simp only [Option.bind_some]
  split
  · obtain ⟨v, q, ev, hv, _, _⟩ := l91Any_ok (p := 0 + 1) hb (by omega) (by omega) hk
    rw [ev]; exact ⟨_, rfl, hv⟩
  · obtain ⟨v, q, ev, hv, _, _⟩ := l91Word_ok (p := 0 + 1) hb (by omega) (by omega) hk
    rw [ev]; exact ⟨_, rfl, by unfold Word at hv; omega⟩

theorem specWordValid_ok (n : Int) : spec_WordValid.f n = some (decide (-2147483648 ≤ n ∧ n ≤ 2147483647)) := by
  unfold spec_WordValid.f spec_l6In.f
  split <;> simp <;> omega

theorem implWordValid_ok (n : Int) : impl_WordValid.f n = some (decide (-2147483648 ≤ n ∧ n ≤ 2147483647)) := by
  unfold impl_WordValid.f
  split <;> simp <;> omega

theorem specUnsigned_ok (n : Int) : spec_Unsigned.f n = some (if -2147483648 ≤ n ∧ n ≤ 2147483647 then n % 4294967296 else -1) := by
  unfold spec_Unsigned.f
  rw [specWordValid_ok]
  simp only [Option.bind_some]
  by_cases h : -2147483648 ≤ n ∧ n ≤ 2147483647
  · rw [if_pos h]
    simp only [h, and_self, decide_true, if_true]
    split
    · congr 1; unfold wrap64; omega
    · congr 1 <;> omega
  · rw [if_neg h]
    simp [h]

theorem implUnsigned_ok (n : Int) : impl_Unsigned.f n = some (if -2147483648 ≤ n ∧ n ≤ 2147483647 then n % 4294967296 else -1) := by
  unfold impl_Unsigned.f
  rw [implWordValid_ok]
  simp only [Option.bind_some]
  by_cases h : -2147483648 ≤ n ∧ n ≤ 2147483647
  · rw [if_pos h]
    simp only [h, and_self, decide_true, if_true]
  · rw [if_neg h]
    simp [h]

theorem implWrap_ok (n : Int) : impl_Wrap.f n = some (wrap32 n) := by
  unfold impl_Wrap.f
  congr 1
  unfold wrap64 wrap32; omega

theorem FnUnsignedNext : laws_FnUnsignedNext.Pure := by
  intro l0 _ _ hw
  refine ⟨2, ?_⟩
  unfold laws_FnUnsignedNext.f
  split
  · rfl
  obtain ⟨n, en, hn⟩ := drawUnsigned_ok (k := 2) hw (by omega)
  rw [en]; simp only [Option.bind_some]
  rw [implUnsigned_ok, specUnsigned_ok]; simp only [Option.bind_some, if_true]
  simp only [laws_FnUnsignedNext.j0]
  by_cases h : -2147483648 ≤ n ∧ n ≤ 2147483647
  · have e1 : wrap64 (n + 1) = n + 1 := by unfold wrap64; omega
    have e2 : wrap64 (n % 4294967296 + 1) = n % 4294967296 + 1 := by unfold wrap64; omega
    have hr := wrap32_range (n + 1)
    have e3 : wrap32 (n + 1) % 4294967296 = (n % 4294967296 + 1) % 4294967296 := by unfold wrap32; omega
    rw [if_pos h, if_neg (by simp; omega), e1, implWrap_ok]; simp only [Option.bind_some]
    rw [implUnsigned_ok, if_pos hr, e2, Int.tmod_eq_emod_of_nonneg (by omega), e3]
    simp
  · rw [if_neg h]; simp

end Go.Proofs.Ytipkjmkcnkbbfaa.Pure
namespace Go.Proofs.Ytipkjmkcnkbbfaa.PrintWords
open Go Go.ChangeShapes Go.WideShapes
/-- The printed row asks for this word under this name. -/
theorem sized_ints {H : Type} {enc : TypeId × Value → H} {P : Program} {W : World} {base : Nat} {spare : Nat → Bool} {held : Bool} {t e : TypeId} {k : IntKind} {a : Option Addr} {len cap : Nat} {d : DataW H} {ps : List MemPlace} {ts : List TypeId} {ds : List (DataW H)} {j : Nat}
    (hsz : (DataW.weightsEach P ts ds).all (· ≤ reachBytes) = true) (ht : ts[j]? = some t) (hd : ds[j]? = some d) (hu : P.underlying t = some (.slice e)) (he : P.underlying e = some (.int k)) (hc : P.cellsOf e = 1) {B : Nat} (hB : P.bytesOf e = B)
    (h : DataW.Trod enc P W base spare held t (.slice a len cap) d ps) : len * B ≤ 140737488351232 :=
  Go.Proofs.YtipkjmkcnkbbfaaW.PrintWords.sized_ints hsz ht hd hu he hc hB h
end Go.Proofs.Ytipkjmkcnkbbfaa.PrintWords
