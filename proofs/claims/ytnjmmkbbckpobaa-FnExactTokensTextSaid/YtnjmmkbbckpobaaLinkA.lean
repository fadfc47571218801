/- What the reference's and the program's functions on single tokens compute, in the words of the plain law of tokens; for every string of at most 2^47 bytes. -/
import Derived.Test.YtnjmmkbbckpobaaToks
import Derived.Test.YtnjmmkbbckpobaaQx2
namespace Go.Proofs.Ytnjmmkbbckpobaa.Link
open Go Go.RowKit Go.Proofs.Ytnjmmkbbckpobaa.Given Go.Proofs.Ytnjmmkbbckpobaa.Toks Go.Proofs.Ytnjmmkbbckpobaa.Q Go.Proofs.YtnjmmkbbckpobaaW.PrintWords Go.Proofs.YtnjmmkbbckpobaaW.PrintLast Go.Proofs.YtnjmmkbbckpobaaW.PrintMore
set_option linter.unusedVariables false
set_option linter.unusedSimpArgs false
theorem w64 {n : Int} (h : -9223372036854775808 ≤ n) (h' : n ≤ 9223372036854775807) : wrap64 n = n := by unfold wrap64; omega
/-- A string's bytes. -/
abbrev L (s : ByteArray) : List UInt8 := s.data.toList
theorem L_len (s : ByteArray) : (L s).length = s.size := by simp [L]
def ba (l : List UInt8) : ByteArray := ⟨l.toArray⟩
theorem L_ba (l : List UInt8) : L (ba l) = l := rfl
theorem ba_L (s : ByteArray) : ba (L s) = s := Lib.mk_data s
theorem ba_size (l : List UInt8) : (ba l).size = l.length := by rw [← L_len, L_ba]
theorem ba_inj {a b : List UInt8} (h : ba a = ba b) : a = b := by have := congrArg L h; exact this
theorem bt_L (s : ByteArray) (i : Nat) (h : i < (L s).length) : bt s i = (((L s)[i]'h).toNat : Int) := by
  have h' : ((i : Int)).toNat < s.size := by rw [L_len] at h; simpa using h
  unfold bt
  rw [dif_pos h']
  rfl
theorem drop_L {l : List UInt8} {i : Nat} (h : i < l.length) : l.drop i = l[i] :: l.drop (i + 1) := List.drop_eq_getElem_cons h
theorem run_cons (p : UInt8 → Bool) (c : UInt8) (l : List UInt8) : run p (c :: l) = if p c = true then run p l + 1 else 0 := by
  unfold run
  rw [List.takeWhile_cons]
  split <;> simp
theorem run_nil (p : UInt8 → Bool) : run p [] = 0 := rfl
/-- The kind of a byte. -/
def K (c : UInt8) : Int := if dig c = true then 1 else if let_ c = true then 2 else if isBlank c = true then 3 else if sym c = true ∨ c = 62 then 4 else 0
theorem kind_l {c : UInt8} {k : Nat} : ∀ (d : Nat) (x : ByteArray) (i : Nat), (L x).length - i = d → d < k → x.size ≤ 1000 → i ≤ (L x).length →
    spec_l3Kind.l0 k c.toNat x i = some (if c ∈ (L x).drop i then 4 else 0) := by
  induction k with
  | zero => intro d x i _ h; omega
  | succ k ih =>
    intro d x i hd hk hx hi
    rw [spec_l3Kind.l0]
    by_cases h : i < (L x).length
    · have hs : ((i : Nat) : Int) < (x.size : Int) := by rw [← L_len]; omega
      rw [if_pos hs, if_pos (by omega), bt_L x i h, drop_L h]
      by_cases hc : (L x)[i] = c
      · rw [if_pos (by rw [hc]), if_pos (by rw [hc]; exact List.mem_cons_self)]
      · have hn : ¬ (((L x)[i].toNat : Int) = (c.toNat : Int)) := fun e => hc (UInt8.toNat_inj.mp (by omega))
        have e : wrap64 ((i : Int) + 1) = ((i + 1 : Nat) : Int) := by rw [L_len] at h; unfold wrap64; omega
        have hm : (c ∈ (L x)[i] :: (L x).drop (i + 1)) ↔ c ∈ (L x).drop (i + 1) := by
          rw [List.mem_cons]; exact ⟨fun h => h.resolve_left (fun e => hc e.symm), .inr⟩
        rw [if_neg hn, e, ih (d - 1) x (i + 1) (by omega) (by omega) hx (by omega)]
        by_cases hz : c ∈ (L x).drop (i + 1)
        · rw [if_pos hz, if_pos (hm.mpr hz)]
        · rw [if_neg hz, if_neg (fun q => hz (hm.mp q))]
    · rw [if_neg (by rw [← L_len]; omega), List.drop_eq_nil_of_le (by omega)]
      simp
theorem set_mem (c : UInt8) : c ∈ ([43, 45, 42, 47, 37, 38, 124, 94, 60, 62, 40, 41, 123, 125, 61, 59] : List UInt8) ↔ (sym c = true ∨ c = 62) := by
  unfold sym
  simp only [List.contains_eq_mem, List.mem_cons, List.not_mem_nil, or_false, decide_eq_true_eq]
  constructor
  · rintro (h | h | h | h | h | h | h | h | h | h | h | h | h | h | h | h) <;> simp [h]
  · rintro ((h | h | h | h | h | h | h | h | h | h | h | h | h | h | h) | h) <;> simp [h]
theorem kind_ok (c : UInt8) {k : Nat} (hk : 20 ≤ k) : spec_l3Kind.f k c.toNat = some (K c) := by
  obtain ⟨k, rfl⟩ : ∃ m, k = m + 2 := ⟨k - 2, by omega⟩
  have hset : spec_l3Kind.l0 k c.toNat (⟨#[43, 45, 42, 47, 37, 38, 124, 94, 60, 62, 40, 41, 123, 125, 61, 59]⟩ : ByteArray) 0 = some (if sym c = true ∨ c = 62 then 4 else 0) := by
    have h := kind_l (c := c) (k := k) 16 (⟨#[43, 45, 42, 47, 37, 38, 124, 94, 60, 62, 40, 41, 123, 125, 61, 59]⟩ : ByteArray) 0 rfl (by omega) (by decide) (by decide)
    rw [show ((0 : Nat) : Int) = 0 from rfl] at h
    rw [h]
    have e : (L (⟨#[43, 45, 42, 47, 37, 38, 124, 94, 60, 62, 40, 41, 123, 125, 61, 59]⟩ : ByteArray)).drop 0 = [43, 45, 42, 47, 37, 38, 124, 94, 60, 62, 40, 41, 123, 125, 61, 59] := rfl
    rw [e]
    by_cases hm : sym c = true ∨ c = 62
    · rw [if_pos hm, if_pos ((set_mem c).mpr hm)]
    · rw [if_neg hm, if_neg (fun q => hm ((set_mem c).mp q))]
  unfold spec_l3Kind.f K
  have hd : (dig c = true) ↔ (48 ≤ (c.toNat : Int) ∧ (c.toNat : Int) ≤ 57) := by unfold dig; rw [decide_eq_true_iff]; omega
  have hl : (let_ c = true) ↔ (97 ≤ (c.toNat : Int) ∧ (c.toNat : Int) ≤ 122) := by unfold let_; rw [decide_eq_true_iff]; omega
  have hb : (isBlank c = true) ↔ ((c.toNat : Int) = 32 ∨ (c.toNat : Int) = 10) := by
    unfold isBlank
    have e1 : c = 32 ↔ (c.toNat : Int) = 32 := ⟨fun h => by subst h; rfl, fun h => UInt8.toNat_inj.mp (by show c.toNat = 32; omega)⟩
    have e2 : c = 10 ↔ (c.toNat : Int) = 10 := ⟨fun h => by subst h; rfl, fun h => UInt8.toNat_inj.mp (by show c.toNat = 10; omega)⟩
    rw [Bool.or_eq_true, beq_iff_eq, beq_iff_eq, e1, e2]
  have rest : spec_l3Kind.j1 (k + 1) c.toNat false = some (if isBlank c = true then 3 else if sym c = true ∨ c = 62 then 4 else 0) := by
    rw [spec_l3Kind.j1, if_neg (by decide)]
    by_cases h1 : (c.toNat : Int) = 32
    · rw [if_pos h1, if_pos (hb.mpr (.inl h1))]
    · rw [if_neg h1]
      by_cases h2 : (c.toNat : Int) = 10
      · rw [if_pos h2, if_pos (hb.mpr (.inr h2))]
      · rw [if_neg h2, if_neg (fun q => (hb.mp q).elim h1 h2), hset]
  have mid : spec_l3Kind.j0 (k + 2) c.toNat false = some (if let_ c = true then 2 else if isBlank c = true then 3 else if sym c = true ∨ c = 62 then 4 else 0) := by
    rw [spec_l3Kind.j0, if_neg (by decide)]
    by_cases h1 : (c.toNat : Int) ≥ 97
    · rw [if_pos h1]
      by_cases h2 : (c.toNat : Int) ≤ 122
      · rw [decide_eq_true h2, spec_l3Kind.j1, if_pos rfl, if_pos (hl.mpr ⟨h1, h2⟩)]
      · rw [decide_eq_false h2, rest, if_neg (fun q => h2 (hl.mp q).2)]
    · rw [if_neg h1, rest, if_neg (fun q => h1 (hl.mp q).1)]
  by_cases h1 : (c.toNat : Int) ≥ 48
  · rw [if_pos h1]
    by_cases h2 : (c.toNat : Int) ≤ 57
    · rw [decide_eq_true h2, spec_l3Kind.j0, if_pos rfl, if_pos (hd.mpr ⟨h1, h2⟩)]
    · rw [decide_eq_false h2, mid, if_neg (fun q => h2 (hd.mp q).2)]
  · rw [if_neg h1, mid, if_neg (fun q => h1 (hd.mp q).1)]
theorem dig_let {c : UInt8} (h : dig c = true) : let_ c = false := by
  have := of_decide_eq_true h
  exact decide_eq_false (by omega)
theorem K_one (c : UInt8) : K c = 1 ↔ dig c = true := by
  unfold K
  split
  · rename_i h; simp [h]
  · rename_i h
    constructor
    · intro q; split at q
      · omega
      · split at q
        · omega
        · split at q <;> omega
    · intro q; exact absurd q h
theorem K_two (c : UInt8) : K c = 2 ↔ let_ c = true := by
  unfold K
  split
  · rename_i h; rw [dig_let h]; simp
  · split
    · rename_i h; simp [h]
    · rename_i h
      constructor
      · intro q; split at q
        · omega
        · split at q <;> omega
      · intro q; exact absurd q h
theorem run_loop {s : ByteArray} {a : Nat} (ha : a < (L s).length) {p : UInt8 → Bool} (hp : ∀ c, K c = K ((L s)[a]) ↔ p c = true) (hs : s.size ≤ 140737488355328) {k : Nat} :
    ∀ (d i : Nat), (L s).length - i = d → i ≤ (L s).length → d + 25 ≤ k → spec_l3Run.l0 k s a i = some ((i + run p ((L s).drop i) : Nat) : Int) := by
  induction k with
  | zero => intro d i _ _ h; omega
  | succ k ih =>
    intro d i hd hi hk
    rw [spec_l3Run.l0]
    by_cases h : i < (L s).length
    · have hs1 : ((i : Nat) : Int) < (s.size : Int) := by rw [← L_len]; omega
      have hs2 : ((a : Nat) : Int) < (s.size : Int) := by rw [← L_len]; omega
      rw [if_pos hs1, if_pos (by omega), bt_L s i h, kind_ok _ (by omega)]; simp only [Option.bind_some]
      rw [if_pos (by omega), if_pos hs2, bt_L s a ha, kind_ok _ (by omega)]; simp only [Option.bind_some]
      rw [drop_L h, run_cons]
      by_cases hc : K ((L s)[i]) = K ((L s)[a])
      · have e : wrap64 ((i : Int) + 1) = ((i + 1 : Nat) : Int) := by rw [L_len] at h; unfold wrap64; omega
        rw [if_pos hc, e, ih (d - 1) (i + 1) (by omega) (by omega) (by omega), if_pos ((hp _).mp hc)]
        congr 2; omega
      · rw [if_neg hc, if_neg (fun q => hc ((hp _).mpr q))]; rfl
    · rw [if_neg (by rw [← L_len]; omega), List.drop_eq_nil_of_le (by omega), run_nil]; rfl
theorem two_ok (t : ByteArray) : spec_l3Two.f t = some (decide (L t = [60, 60] ∨ L t = [62, 62] ∨ L t = [61, 61])) := by
  unfold spec_l3Two.f
  rw [Lib.toList_data]
  by_cases h1 : L t = [60, 60]
  · rw [if_pos h1]; simp [h1]
  · rw [if_neg h1]
    by_cases h2 : L t = [62, 62]
    · rw [if_pos h2]; simp [h2]
    · rw [if_neg h2]
      by_cases h3 : L t = [61, 61]
      · simp [h3]
      · simp [h1, h2, h3]
theorem two_iff (l : List UInt8) : two l = decide (l.take 2 = [60, 60] ∨ l.take 2 = [62, 62] ∨ l.take 2 = [61, 61]) := by
  unfold two
  rw [Bool.eq_iff_iff]
  simp only [Bool.or_eq_true, beq_iff_eq, decide_eq_true_eq]
  constructor
  · rintro (h | h | h)
    · exact .inr (.inr h)
    · exact .inl h
    · exact .inr (.inl h)
  · rintro (h | h | h)
    · exact .inr (.inl h)
    · exact .inr (.inr h)
    · exact .inl h
theorem two_kind {c : UInt8} {l : List UInt8} (h : two (c :: l) = true) : K c = 4 := by
  have h2 : c = 61 ∨ c = 60 ∨ c = 62 := by
    unfold two at h
    cases l with
    | nil => simp at h
    | cons y l => simp at h; rcases h with h | h | h <;> simp [h.1]
  rcases h2 with h | h | h <;> subst h <;> decide
theorem sym_kind {c : UInt8} (h : sym c = true) : K c = 4 := by
  unfold sym at h
  simp only [List.contains_eq_mem, List.mem_cons, List.not_mem_nil, or_false, decide_eq_true_eq] at h
  rcases h with h | h | h | h | h | h | h | h | h | h | h | h | h | h | h <;> subst h <;> decide
theorem K_four {c : UInt8} (h : K c = 4) : dig c = false ∧ let_ c = false ∧ (sym c = true ∨ c = 62) := by
  unfold K at h
  split at h
  · omega
  · rename_i h1
    split at h
    · omega
    · rename_i h2
      split at h
      · omega
      · split at h
        · rename_i h4; exact ⟨by simpa using h1, by simpa using h2, h4⟩
        · omega
theorem end_ok {s : ByteArray} (hs : s.size ≤ 140737488355328) {i : Nat} (hi : i < (L s).length) {k : Nat} (hk : s.size + 40 ≤ k) :
    spec_l3End.f k s i = some (if tokN ((L s).drop i) = 0 then -1 else ((i + tokN ((L s).drop i) : Nat) : Int)) := by
  obtain ⟨k, rfl⟩ : ∃ m, k = m + 2 := ⟨k - 2, by omega⟩
  have hs1 : ((i : Nat) : Int) < (s.size : Int) := by rw [← L_len]; omega
  have hlen := L_len s
  unfold spec_l3End.f
  rw [if_pos (by omega), if_pos hs1, bt_L s i hi, kind_ok _ (by omega)]; simp only [Option.bind_some]
  have hd := drop_L hi
  by_cases h1 : K ((L s)[i]) = 1
  · have hg := (K_one _).mp h1
    have hr : 0 < run dig ((L s).drop i) := by rw [hd, run_cons, if_pos hg]; omega
    have ht : tokN ((L s).drop i) = run dig ((L s).drop i) := by unfold tokN; rw [if_pos hr]
    rw [if_pos h1, spec_l3End.j0, if_pos rfl]
    unfold spec_l3Run.f
    rw [run_loop hi (p := dig) (fun c => by rw [h1]; exact K_one c) hs ((L s).length - i) i rfl (by omega) (by omega), ht, if_neg (by omega)]; rfl
  rw [if_neg h1]
  have g1 : dig ((L s)[i]) = false := by
    cases hq : dig ((L s)[i]) with
    | false => rfl
    | true => exact absurd ((K_one _).mpr hq) h1
  have r1 : run dig ((L s).drop i) = 0 := by rw [hd, run_cons, if_neg (by rw [g1]; decide)]
  by_cases h2 : K ((L s)[i]) = 2
  · have hg := (K_two _).mp h2
    have hr : 0 < run let_ ((L s).drop i) := by rw [hd, run_cons, if_pos hg]; omega
    have ht : tokN ((L s).drop i) = run let_ ((L s).drop i) := by unfold tokN; rw [r1, if_neg (by omega), if_pos hr]
    have hb : (K ((L s)[i]) == 2) = true := by simpa using h2
    rw [hb, spec_l3End.j0, if_pos rfl]
    unfold spec_l3Run.f
    rw [run_loop hi (p := let_) (fun c => by rw [h2]; exact K_two c) hs ((L s).length - i) i rfl (by omega) (by omega), ht, if_neg (by omega)]; rfl
  have g2 : let_ ((L s)[i]) = false := by
    cases hq : let_ ((L s)[i]) with
    | false => rfl
    | true => exact absurd ((K_two _).mpr hq) h2
  have r2 : run let_ ((L s).drop i) = 0 := by rw [hd, run_cons, if_neg (by rw [g2]; decide)]
  have hb : (K ((L s)[i]) == 2) = false := by simpa using h2
  rw [hb, spec_l3End.j0, if_neg (by decide)]
  by_cases h4 : K ((L s)[i]) = 4
  · have e2 : wrap64 ((i : Int) + 2) = ((i + 2 : Nat) : Int) := by unfold wrap64; omega
    have e1 : wrap64 ((i : Int) + 1) = ((i + 1 : Nat) : Int) := by unfold wrap64; omega
    have fin : ∀ t, t = two ((L s).drop i) → spec_l3End.j1 (k + 1) s i t = some (if tokN ((L s).drop i) = 0 then -1 else ((i + tokN ((L s).drop i) : Nat) : Int)) := by
      intro t ht
      rw [spec_l3End.j1, e2, e1]
      cases t with
      | true =>
        have : tokN ((L s).drop i) = 2 := by unfold tokN; rw [r1, r2, if_neg (by omega), if_neg (by omega), if_pos ht.symm]
        rw [if_pos rfl, this, if_neg (by omega)]
      | false =>
        rw [if_neg (by decide), if_pos (by omega), if_pos hs1, bt_L s i hi]
        by_cases h62 : (L s)[i] = 62
        · have : tokN ((L s).drop i) = 0 := by
            have ho : ¬ one ((L s).drop i) = true := by rw [hd, h62]; show ¬ sym 62 = true; decide
            unfold tokN; rw [r1, r2, if_neg (by omega), if_neg (by omega), if_neg (by rw [← ht]; decide), if_neg ho]
          rw [if_pos (by rw [h62]; rfl), this, if_pos rfl]
        · have hn : ¬ (((L s)[i].toNat : Int) = 62) := fun e => h62 (UInt8.toNat_inj.mp (by show _ = 62; omega))
          have : tokN ((L s).drop i) = 1 := by
            have ho : one ((L s).drop i) = true := by rw [hd]; exact (K_four h4).2.2.resolve_right h62
            unfold tokN; rw [r1, r2, if_neg (by omega), if_neg (by omega), if_neg (by rw [← ht]; decide), if_pos ho]
          rw [if_neg hn, this, if_neg (by omega)]
    rw [if_pos h4, e2]
    by_cases hl : i + 2 ≤ (L s).length
    · rw [if_pos (by omega), if_pos (by omega), if_pos (by omega), two_ok]; simp only [Option.bind_some]
      refine fin _ ?_
      have e3 : L (s.extract ((i : Int)).toNat (((i + 2 : Nat) : Int)).toNat) = ((L s).drop i).take 2 := by
        show (s.extract _ _).data.toList = _
        rw [Lib.extract_data]
        have q1 : ((i : Int)).toNat = i := by omega
        have q2 : (((i + 2 : Nat) : Int)).toNat - i = 2 := by omega
        rw [q1, q2]
      rw [e3, two_iff]
    · rw [if_neg (by omega)]
      refine fin _ ?_
      have e3 : (L s).drop i = [(L s)[i]] := by rw [hd, List.drop_eq_nil_of_le (by omega)]
      rw [e3]; simp [two]
  · rw [if_neg h4]
    have ht : tokN ((L s).drop i) = 0 := by
      have n1 : ¬ two ((L s).drop i) = true := by rw [hd]; exact fun q => h4 (two_kind q)
      have n2 : ¬ one ((L s).drop i) = true := by rw [hd]; exact fun q => h4 (sym_kind q)
      unfold tokN; rw [r1, r2, if_neg (by omega), if_neg (by omega), if_neg n1, if_neg n2]
    rw [ht, if_pos rfl]
theorem tokenLength_ok {s : ByteArray} (hs : s.size ≤ 140737488355328) : impl_tokenLength.f s = some ((tokN (L s) : Nat) : Int) := by
  unfold impl_tokenLength.f
  rw [if_pos hs, tokLen_eq]
theorem nil_iff (s : ByteArray) : s.toList = ([] : List UInt8) ↔ L s = [] := by rw [Lib.toList_data]
theorem implValid_ok {s : ByteArray} (hs : s.size ≤ 140737488355328) : impl_TokenValid.f s = some (valid (L s)) := by
  unfold impl_TokenValid.f valid
  by_cases h : L s = []
  · rw [if_pos ((nil_iff s).mpr h)]; simp [h]
  · rw [if_neg (fun q => h ((nil_iff s).mp q)), tokenLength_ok hs]; simp only [Option.bind_some]
    have hl := L_len s
    congr 1
    by_cases e : tokN (L s) = (L s).length
    · rw [decide_eq_true ⟨h, e⟩]; simp; omega
    · rw [decide_eq_false (fun q => e q.2)]; simp; omega
theorem specValid_ok {s : ByteArray} (hs : s.size ≤ 140737488355328) {k : Nat} (hk : s.size + 40 ≤ k) : spec_TokenValid.f k s = some (valid (L s)) := by
  unfold spec_TokenValid.f valid
  by_cases h : L s = []
  · rw [if_pos ((nil_iff s).mpr h)]; simp [h]
  · have hpos : 0 < (L s).length := List.length_pos_iff.mpr h
    have he := end_ok hs hpos hk
    rw [show ((0 : Nat) : Int) = 0 from rfl, List.drop_zero, Nat.zero_add] at he
    rw [if_neg (fun q => h ((nil_iff s).mp q)), he]; simp only [Option.bind_some]
    have hl := L_len s
    congr 1
    by_cases e : tokN (L s) = (L s).length
    · rw [decide_eq_true ⟨h, e⟩, if_neg (by omega)]; simp; omega
    · rw [decide_eq_false (fun q => e q.2)]
      split
      · simp
      · simp; omega
end Go.Proofs.Ytnjmmkbbckpobaa.Link
