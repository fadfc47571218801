/- The law FnOpText, 'Operators have different symbols', answers true for every input: what the program's functions compute is shown to answer it; conditions: none beyond the given statement's own. -/
import Derived.Test.YtnjmmkbbckpobaaDoorGiven
import Derived.Test.YtnjmmkbbckpobaaDoorQx1
import Derived.Test.YtnjmmkbbckpobaaDoorWSized
namespace Go.Proofs.YtnjmmkbbckpobaaDoor.Pure
open Go.Proofs.YtnjmmkbbckpobaaDoor.Given
open Go Go.RowKit Go.Proofs.YtnjmmkbbckpobaaDoor.Q Go.Proofs.YtnjmmkbbckpobaaDoorW.PrintWords Go.Proofs.YtnjmmkbbckpobaaDoorW.PrintLast Go.Proofs.YtnjmmkbbckpobaaDoorW.PrintMore
set_option linter.unusedVariables false
set_option linter.unusedSimpArgs false

theorem w64 {n : Int} (h : -9223372036854775808 ≤ n) (h' : n ≤ 9223372036854775807) : wrap64 n = n := by unfold wrap64; omega
theorem w64_range (n : Int) : -9223372036854775808 ≤ wrap64 n ∧ wrap64 n ≤ 9223372036854775807 := by unfold wrap64; omega
theorem wf64 {n : Int} (h : (Lit.int .i64 n).wf = true) : -9223372036854775808 ≤ n ∧ n ≤ 9223372036854775807 := by
  simpa [Lit.wf, IntKind.min, IntKind.max, IntKind.signed, IntKind.bits] using h
theorem wf8 {n : Int} (h : (Lit.int .u8 n).wf = true) : 0 ≤ n ∧ n ≤ 255 := by
  simpa [Lit.wf, IntKind.min, IntKind.max, IntKind.signed, IntKind.bits] using h
theorem tm_range {x m : Int} (hx : 0 ≤ x) (hm : 0 < m) : 0 ≤ Int.tmod x m ∧ Int.tmod x m < m := by
  rw [Int.tmod_eq_emod_of_nonneg hx]; exact ⟨Int.emod_nonneg _ (by omega), Int.emod_lt_of_pos _ hm⟩
theorem td_range {x m : Int} (hx : 0 ≤ x) (hm : 0 < m) : 0 ≤ Int.tdiv x m ∧ Int.tdiv x m ≤ x := by
  rw [Int.tdiv_eq_ediv_of_nonneg hx]; exact ⟨Int.ediv_nonneg hx (by omega), Int.ediv_le_self _ hx⟩
theorem toInt_wrap (v : BitVec 64) : IntKind.i64.wrap (v.toNat : Int) = v.toInt := by
  rw [IntKind.wrap_i64, BitVec.toInt_eq_toNat_cond]
  have := v.isLt
  split <;> omega
theorem bits_and (x y : Int) : Go.bits .and .i64 x y = (BitVec.ofInt 64 x &&& BitVec.ofInt 64 y).toInt := toInt_wrap _
theorem bits_or (x y : Int) : Go.bits .or .i64 x y = (BitVec.ofInt 64 x ||| BitVec.ofInt 64 y).toInt := toInt_wrap _
theorem bits_xor (x y : Int) : Go.bits .xor .i64 x y = (BitVec.ofInt 64 x ^^^ BitVec.ofInt 64 y).toInt := toInt_wrap _
theorem xor_nonneg {x y : Int} (hx : 0 ≤ x) (hx' : x < 4611686018427387904) (hy : 0 ≤ y) (hy' : y < 4611686018427387904) :
    0 ≤ Go.bits .xor .i64 x y := by
  obtain ⟨a, rfl⟩ := Int.eq_ofNat_of_zero_le hx
  obtain ⟨b, rfl⟩ := Int.eq_ofNat_of_zero_le hy
  have ha : a < 2 ^ 62 := by omega
  have hb : b < 2 ^ 62 := by omega
  have h := Nat.xor_lt_two_pow ha hb
  rw [bits_xor, BitVec.toInt_eq_toNat_cond]
  have e : (BitVec.ofInt 64 (a : Int) ^^^ BitVec.ofInt 64 (b : Int)).toNat = a ^^^ b := by
    rw [BitVec.toNat_xor, BitVec.ofInt_natCast, BitVec.ofInt_natCast, BitVec.toNat_ofNat, BitVec.toNat_ofNat, Nat.mod_eq_of_lt (by omega), Nat.mod_eq_of_lt (by omega)]
  rw [e]
  split <;> omega
theorem rd_bytes {b : List Int} (hb : ∀ x ∈ b, 0 ≤ x ∧ x ≤ 255) (i : Int) : 0 ≤ rd b i ∧ rd b i ≤ 255 := by
  unfold rd
  rw [List.getD_eq_getElem?_getD]
  by_cases h : i.toNat < b.length
  · rw [List.getElem?_eq_getElem h]; exact hb _ (List.getElem_mem h)
  · rw [List.getElem?_eq_none (by omega)]; simp

theorem pick_ok {b : List Int} {p n : Int} {k : Nat} (hb : ∀ x ∈ b, 0 ≤ x ∧ x ≤ 255) (hp0 : 0 ≤ p) (hp : p ≤ 1000000) (hn : 1 ≤ n) (hk : 1 ≤ k) :
    ∃ v, spec_l6Rd_pick.f k b p n = some (v, p + 1) ∧ 0 ≤ v ∧ v < n := by
  obtain ⟨k, rfl⟩ : ∃ m, k = m + 1 := ⟨k - 1, by omega⟩
  have e0 : wrap64 (p + 1) = p + 1 := w64 (by omega) (by omega)
  have e1 : wrap64 (p + 1 - 1) = p := by unfold wrap64; omega
  unfold spec_l6Rd_pick.f
  rw [if_neg (by omega), e0]
  simp only [spec_l6Rd_pick.j0]
  rw [e1]
  by_cases h0 : b.length = 0
  · rw [if_pos (by simp [h0])]
    exact ⟨0, rfl, by omega, by omega⟩
  · have hl : 0 < (b.length : Int) := by omega
    rw [if_neg (by simp; intro h; exact h0 (by simp [h]))]
    by_cases h1 : p < (b.length : Int)
    · rw [if_pos h1, if_pos hp0, if_neg (by omega)]
      have hr := rd_bytes hb p
      rw [w64 (n := rd b p) (by omega) (by omega)]
      have ht := tm_range (x := rd b p) (m := n) hr.1 (by omega)
      exact ⟨_, rfl, ht.1, ht.2⟩
    · have t1 := tm_range (x := p) (m := (b.length : Int)) hp0 hl
      have e2 : wrap64 (wrap64 (p * 7) + 3) = p * 7 + 3 := by unfold wrap64; omega
      have t2 := tm_range (x := p * 7 + 3) (m := (b.length : Int)) (by omega) hl
      have t3 := td_range (x := p) (m := (b.length : Int)) hp0 hl
      rw [e2, if_neg h1, if_neg (by omega), if_pos t1.1, if_pos t1.2, if_pos t2.1, if_pos t2.2, if_neg (by omega)]
      have r1 := rd_bytes hb (Int.tmod p (b.length : Int))
      have r2 := rd_bytes hb (Int.tmod (p * 7 + 3) (b.length : Int))
      generalize rd b (Int.tmod p (b.length : Int)) = x1 at *
      generalize rd b (Int.tmod (p * 7 + 3) (b.length : Int)) = x2 at *
      generalize Int.tdiv p (b.length : Int) = q at *
      have e3 : wrap64 (wrap64 (wrap64 (wrap64 (wrap64 x1 * 131) + wrap64 (wrap64 x2 * 1117)) + wrap64 (p * 29)) + wrap64 (wrap64 q * 53)) = x1 * 131 + x2 * 1117 + p * 29 + q * 53 := by
        unfold wrap64; omega
      rw [e3]
      have hX : 0 ≤ x1 * 131 + x2 * 1117 + p * 29 + q * 53 ∧ x1 * 131 + x2 * 1117 + p * 29 + q * 53 < 1000000000 := by omega
      generalize x1 * 131 + x2 * 1117 + p * 29 + q * 53 = X at *
      have hd := td_range (x := X) (m := 64) hX.1 (by omega)
      have e4 : wrap64 (Int.tdiv X 64) = Int.tdiv X 64 := w64 (by omega) (by omega)
      rw [e4]
      have hx := xor_nonneg (x := X) (y := Int.tdiv X 64) hX.1 (by omega) hd.1 (by omega)
      have ht := tm_range (m := n) hx (by omega)
      exact ⟨_, rfl, ht.1, ht.2⟩
theorem open_ok {l : List Int} (hw : ∀ x ∈ l, (Lit.int .u8 x).wf = true) : ∃ b, spec_l6Open.f l = some (b, 0) ∧ ∀ x ∈ b, 0 ≤ x ∧ x ≤ 255 := by
  unfold spec_l6Open.f
  split
  · rw [if_pos (by omega)]
    exact ⟨_, rfl, fun x hx => wf8 (hw x (List.mem_of_mem_take hx))⟩
  · exact ⟨_, rfl, fun x hx => wf8 (hw x hx)⟩

theorem specOpValid_ok (n : Int) : spec_OpValid.f n = some (decide (1 ≤ n ∧ n ≤ 12)) := by
  unfold spec_OpValid.f spec_l6In.f
  split <;> simp <;> omega

theorem specText_ok (n : Int) : spec_OpText.f n = some (opText n) := by
  unfold spec_OpText.f opText
  rw [specOpValid_ok]; simp only [Option.bind_some]
  by_cases h : 1 ≤ n ∧ n ≤ 12
  · have e : wrap64 (n - 1) = n - 1 := by unfold wrap64; omega
    rw [if_pos (by simpa using h), if_pos h, e, if_pos (by omega), if_pos (by simp; omega)]
    have hc : n = 1 ∨ n = 2 ∨ n = 3 ∨ n = 4 ∨ n = 5 ∨ n = 6 ∨ n = 7 ∨ n = 8 ∨ n = 9 ∨ n = 10 ∨ n = 11 ∨ n = 12 := by omega
    rcases hc with rfl | rfl | rfl | rfl | rfl | rfl | rfl | rfl | rfl | rfl | rfl | rfl <;> rfl
  · rw [if_neg (by simpa using h), if_neg h]

theorem implValid_ok (n : Int) : impl_OpValid.f n = some (decide (1 ≤ n ∧ n ≤ 12)) := by
  unfold impl_OpValid.f
  split <;> simp <;> omega
theorem texts_apart : ∀ a : Nat, a < 12 → ∀ b : Nat, b < 12 → a ≠ b → (texts.getD a ⟨#[]⟩).data ≠ (texts.getD b ⟨#[]⟩).data := by decide
theorem texts_some : ∀ a : Nat, a < 12 → (texts.getD a ⟨#[]⟩).data ≠ #[] := by decide
theorem toList_inj {a b : ByteArray} (h : a.toList = b.toList) : a.data = b.data := by
  rw [ByteArray.toList_eq, ByteArray.toList_eq] at h
  exact Array.toList_inj.mp h
theorem opText_apart {n i : Int} (hn : 1 ≤ n ∧ n ≤ 12) (hi : i ≠ n) : ¬ (opText i).toList = (opText n).toList := by
  intro h
  have h' := toList_inj h
  unfold opText at h'
  rw [if_pos hn] at h'
  split at h'
  · exact texts_apart (i - 1).toNat (by omega) (n - 1).toNat (by omega) (by omega) h'
  · exact texts_some (n - 1).toNat (by omega) h'.symm
theorem text_l {n : Int} (hn : 1 ≤ n ∧ n ≤ 12) {k : Nat} : ∀ (d : Nat) (i : Int), 0 ≤ i → 16 - i ≤ d → i ≤ 16 → d < k → laws_FnOpText.l0 k n (opText n) i = some true := by
  induction k with
  | zero => intro d i _ _ _ h; omega
  | succ k ih =>
    intro d i h0 hd hi hk
    rw [laws_FnOpText.l0]
    by_cases h : i < 16
    · rw [if_pos h, show wrap64 (i + 1) = i + 1 by (unfold wrap64; omega)]
      by_cases hc : i = n
      · rw [if_pos hc]
        exact ih (d - 1) (i + 1) (by omega) (by omega) (by omega) (by omega)
      · rw [if_neg hc]
        unfold impl_OpText.f
        simp only [Option.bind_some]
        rw [if_neg (opText_apart hn hc)]
        exact ih (d - 1) (i + 1) (by omega) (by omega) (by omega) (by omega)
    · rw [if_neg h, implValid_ok]; simp [hn]
theorem FnOpText : laws_FnOpText.Pure := by
  intro l0 _ _ hw
  refine ⟨40, ?_⟩
  unfold laws_FnOpText.f spec_DrawOpText.f
  split
  · rfl
  obtain ⟨b, eb, hb⟩ := open_ok hw
  obtain ⟨v, ev, hv0, hv1⟩ := pick_ok (p := 0) (n := 14) (k := 40) hb (by omega) (by omega) (by omega) (by omega)
  rw [eb]; simp only [Option.bind_some]
  rw [ev]; simp only [Option.bind_some]
  have ef : impl_OpText.f v = some (opText v) := rfl
  rw [specText_ok, ef]; simp only [Option.bind_some, if_true]
  rw [laws_FnOpText.j0]
  split
  · simp
  · rename_i hne
    have hn : 1 ≤ v ∧ v ≤ 12 := Classical.byContradiction fun q => hne (by
      have : opText v = ⟨#[]⟩ := by unfold opText; rw [if_neg q]
      rw [this, ByteArray.toList_eq]; rfl)
    exact text_l hn 16 0 (by omega) (by omega) (by omega) (by omega)

end Go.Proofs.YtnjmmkbbckpobaaDoor.Pure
namespace Go.Proofs.YtnjmmkbbckpobaaDoor.PrintWords
open Go Go.ChangeShapes Go.WideShapes
/-- The printed row asks for this word under this name. -/
theorem sized_ints {H : Type} {enc : TypeId × Value → H} {P : Program} {W : World} {base : Nat} {spare : Nat → Bool} {held : Bool} {t e : TypeId} {k : IntKind} {a : Option Addr} {len cap : Nat} {d : DataW H} {ps : List MemPlace} {ts : List TypeId} {ds : List (DataW H)} {j : Nat}
    (hsz : (DataW.weightsEach P ts ds).all (· ≤ reachBytes) = true) (ht : ts[j]? = some t) (hd : ds[j]? = some d) (hu : P.underlying t = some (.slice e)) (he : P.underlying e = some (.int k)) (hc : P.cellsOf e = 1) {B : Nat} (hB : P.bytesOf e = B)
    (h : DataW.Trod enc P W base spare held t (.slice a len cap) d ps) : len * B ≤ 140737488351232 :=
  Go.Proofs.YtnjmmkbbckpobaaDoorW.PrintWords.sized_ints hsz ht hd hu he hc hB h
end Go.Proofs.YtnjmmkbbckpobaaDoor.PrintWords
