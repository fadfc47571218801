/- What the reference's and the program's functions on texts and lists of tokens compute, in the words of the plain law of tokens; for every text, and every list whose joined text is of at most 2^47 bytes. -/
import Derived.Test.YtnjmmkbbckpobaaLinkA
import Derived.Test.YtnjmmkbbckpobaaQx6
namespace Go.Proofs.Ytnjmmkbbckpobaa.Link
open Go Go.RowKit Go.Proofs.Ytnjmmkbbckpobaa.Given Go.Proofs.Ytnjmmkbbckpobaa.Toks Go.Proofs.Ytnjmmkbbckpobaa.Q Go.Proofs.YtnjmmkbbckpobaaW.PrintWords Go.Proofs.YtnjmmkbbckpobaaW.PrintLast Go.Proofs.YtnjmmkbbckpobaaW.PrintMore
set_option linter.unusedVariables false
set_option linter.unusedSimpArgs false
/-- What 'Tokens' answers. -/
def TKl (acc : List ByteArray) (l : List UInt8) : List ByteArray × Bool :=
  match T l with
  | none => ([], false)
  | some ts => (acc ++ ts.map ba, true)
def TK (s : ByteArray) : List ByteArray × Bool := if s.size > 20000 then ([], false) else TKl [] (L s)
theorem TKl_nil (acc : List ByteArray) : TKl acc [] = (acc, true) := by unfold TKl; rw [T_nil]; simp
theorem TKl_blank (acc : List ByteArray) {c : UInt8} (l : List UInt8) (h : isBlank c = true) : TKl acc (c :: l) = TKl acc l := by unfold TKl; rw [T_cons, if_pos h]
theorem TKl_none (acc : List ByteArray) {c : UInt8} (l : List UInt8) (h : ¬ isBlank c = true) (h0 : tokN (c :: l) = 0) : TKl acc (c :: l) = ([], false) := by unfold TKl; rw [T_cons, if_neg h, if_pos h0]
theorem TKl_tok (acc : List ByteArray) {c : UInt8} (l : List UInt8) (h : ¬ isBlank c = true) (h0 : ¬ tokN (c :: l) = 0) :
    TKl acc (c :: l) = TKl (acc ++ [ba ((c :: l).take (tokN (c :: l)))]) ((c :: l).drop (tokN (c :: l))) := by
  unfold TKl; rw [T_cons, if_neg h, if_neg h0]
  cases T ((c :: l).drop (tokN (c :: l))) with
  | none => rfl
  | some ts => simp
theorem K_blank (c : UInt8) : K c = 3 ↔ isBlank c = true := by
  unfold K
  split
  · rename_i h
    constructor
    · intro q; omega
    · intro q; have := (stop_blank q).1; rw [this] at h; exact absurd h (by decide)
  · split
    · rename_i h
      constructor
      · intro q; omega
      · intro q; have := (stop_blank q).2.1; rw [this] at h; exact absurd h (by decide)
    · split
      · rename_i h; simp [h]
      · rename_i h
        constructor
        · intro q; split at q <;> omega
        · intro q; exact absurd q h
theorem extract_ba (s : ByteArray) (i n : Nat) : s.extract ((i : Int)).toNat (((i + n : Nat) : Int)).toNat = ba (((L s).drop i).take n) := by
  rw [← ba_L (s.extract _ _)]
  congr 1
  show (s.extract _ _).data.toList = _
  rw [Lib.extract_data]
  have q1 : ((i : Int)).toNat = i := by omega
  have q2 : (((i + n : Nat) : Int)).toNat - i = n := by omega
  rw [q1, q2]
theorem specTokens_l {s : ByteArray} (hs : s.size ≤ 20000) {k : Nat} : ∀ (d i : Nat) (acc : List ByteArray), (L s).length - i = d → i ≤ (L s).length → acc.length ≤ i → d + 20100 ≤ k →
    spec_Tokens.l0 k s acc i = some (TKl acc ((L s).drop i)) := by
  have hlen := L_len s
  induction k with
  | zero => intro d i acc _ _ _ h; omega
  | succ k ih =>
    intro d i acc hd hi ha hk
    rw [spec_Tokens.l0]
    by_cases h : i < (L s).length
    · have hs1 : ((i : Nat) : Int) < (s.size : Int) := by omega
      rw [if_pos hs1, if_pos (by omega), bt_L s i h, kind_ok _ (by omega)]; simp only [Option.bind_some]
      have hdr := drop_L h
      by_cases hb : K ((L s)[i]) = 3
      · have e : wrap64 ((i : Int) + 1) = ((i + 1 : Nat) : Int) := by unfold wrap64; omega
        rw [if_pos hb, e, ih (d - 1) (i + 1) acc (by omega) (by omega) (by omega) (by omega), hdr, TKl_blank _ _ ((K_blank _).mp hb)]
      · have hnb : ¬ isBlank ((L s)[i]) = true := fun q => hb ((K_blank _).mpr q)
        have hle := tokN_le ((L s).drop i)
        rw [List.length_drop] at hle
        rw [if_neg hb, end_ok (by omega) h (by omega)]; simp only [Option.bind_some]
        by_cases hz : tokN ((L s).drop i) = 0
        · rw [if_pos hz, if_pos (by omega)]
          have : TKl acc ((L s).drop i) = ([], false) := by rw [hdr]; rw [hdr] at hz; exact TKl_none acc _ hnb hz
          rw [this]
        · rw [if_neg hz, if_neg (by omega), if_pos (by omega), if_pos (by omega), if_pos (by omega), extract_ba]
          rw [ih ((L s).length - (i + tokN ((L s).drop i))) (i + tokN ((L s).drop i)) _ rfl (by omega) (by simp; omega) (by omega)]
          have e2 : (L s).drop (i + tokN ((L s).drop i)) = ((L s).drop i).drop (tokN ((L s).drop i)) := by rw [List.drop_drop]
          rw [e2]
          have : TKl acc ((L s).drop i) = TKl (acc ++ [ba (((L s).drop i).take (tokN ((L s).drop i)))]) (((L s).drop i).drop (tokN ((L s).drop i))) := by
            rw [hdr]; rw [hdr] at hz; exact TKl_tok acc _ hnb hz
          rw [this]
    · rw [if_neg (by omega), List.drop_eq_nil_of_le (by omega), TKl_nil]
theorem specTokens_ok (s : ByteArray) {k : Nat} (hk : 50000 ≤ k) : spec_Tokens.f k s = some (TK s) := by
  unfold spec_Tokens.f TK
  simp only [Option.bind_some]
  have hlen := L_len s
  by_cases h : (s.size : Int) > 20000
  · rw [if_pos h, if_pos (by omega)]
  · rw [if_neg h, if_neg (by omega)]
    have := specTokens_l (s := s) (by omega) (k := k) ((L s).length - 0) 0 [] rfl (by omega) (by simp) (by omega)
    rw [List.drop_zero] at this
    exact this
theorem blank_bytes (c : UInt8) : isBlank c = true ↔ ((c.toNat : Int) = 32 ∨ (c.toNat : Int) = 10) := by
  unfold isBlank
  have e1 : c = 32 ↔ (c.toNat : Int) = 32 := ⟨fun h => by subst h; rfl, fun h => UInt8.toNat_inj.mp (by show c.toNat = 32; omega)⟩
  have e2 : c = 10 ↔ (c.toNat : Int) = 10 := ⟨fun h => by subst h; rfl, fun h => UInt8.toNat_inj.mp (by show c.toNat = 10; omega)⟩
  rw [Bool.or_eq_true, beq_iff_eq, beq_iff_eq, e1, e2]
theorem implTokens_l {s : ByteArray} (hs : s.size ≤ 20000) {k : Nat} : ∀ (d i : Nat) (acc : List ByteArray), (L s).length - i = d → i ≤ (L s).length → acc.length ≤ i → 2 * d + 10 ≤ k →
    impl_Tokens.l0 k s acc i = some (TKl acc ((L s).drop i)) := by
  have hlen := L_len s
  induction k using Nat.strongRecOn with
  | _ k ih =>
    intro d i acc hd hi ha hk
    obtain ⟨k, rfl⟩ : ∃ m, k = m + 2 := ⟨k - 2, by omega⟩
    rw [impl_Tokens.l0]
    by_cases h : i < (L s).length
    · have hs1 : ((i : Nat) : Int) < (s.size : Int) := by omega
      rw [if_pos hs1, if_pos (by omega), bt_L s i h]
      have hdr := drop_L h
      have fin : ∀ t, t = isBlank ((L s)[i]) → impl_Tokens.j1 (k + 1) s acc i t = some (TKl acc ((L s).drop i)) := by
        intro t ht
        rw [impl_Tokens.j1]
        cases t with
        | true =>
          have e : wrap64 ((i : Int) + 1) = ((i + 1 : Nat) : Int) := by unfold wrap64; omega
          rw [if_pos rfl, e, ih k (by omega) (d - 1) (i + 1) acc (by omega) (by omega) (by omega) (by omega), hdr, TKl_blank _ _ ht.symm]
        | false =>
          have hnb : ¬ isBlank ((L s)[i]) = true := by rw [← ht]; decide
          have hle := tokN_le ((L s).drop i)
          rw [List.length_drop] at hle
          have hx : s.extract ((i : Int)).toNat s.size = ba ((L s).drop i) := by
            have := extract_ba s i (s.size - i)
            rw [show i + (s.size - i) = s.size by omega] at this
            have q : ((s.size : Nat) : Int).toNat = s.size := by omega
            rw [q] at this
            rw [this, List.take_of_length_le (by rw [List.length_drop]; omega)]
          have hxs : (ba ((L s).drop i)).size ≤ 140737488355328 := by rw [ba_size, List.length_drop]; omega
          rw [if_neg (by decide), if_pos (by omega), if_pos (by omega), hx, tokenLength_ok hxs, L_ba]; simp only [Option.bind_some]
          by_cases hz : tokN ((L s).drop i) = 0
          · rw [if_pos (by omega)]
            have : TKl acc ((L s).drop i) = ([], false) := by rw [hdr]; rw [hdr] at hz; exact TKl_none acc _ hnb hz
            rw [this]
          · have e : wrap64 ((i : Int) + (tokN ((L s).drop i) : Int)) = ((i + tokN ((L s).drop i) : Nat) : Int) := by unfold wrap64; omega
            rw [if_neg (by omega), e, if_pos (by omega), if_pos (by omega), if_pos (by omega), extract_ba]
            rw [ih k (by omega) ((L s).length - (i + tokN ((L s).drop i))) (i + tokN ((L s).drop i)) _ rfl (by omega) (by simp; omega) (by omega)]
            have e2 : (L s).drop (i + tokN ((L s).drop i)) = ((L s).drop i).drop (tokN ((L s).drop i)) := by rw [List.drop_drop]
            rw [e2]
            have : TKl acc ((L s).drop i) = TKl (acc ++ [ba (((L s).drop i).take (tokN ((L s).drop i)))]) (((L s).drop i).drop (tokN ((L s).drop i))) := by
              rw [hdr]; rw [hdr] at hz; exact TKl_tok acc _ hnb hz
            rw [this]
      have hb := blank_bytes ((L s)[i])
      by_cases h32 : ((L s)[i].toNat : Int) = 32
      · rw [if_pos h32]
        exact fin true (hb.mpr (.inl h32)).symm
      · rw [if_neg h32]
        refine fin _ ?_
        by_cases h10 : ((L s)[i].toNat : Int) = 10
        · rw [hb.mpr (.inr h10)]; simpa using h10
        · have : isBlank ((L s)[i]) = false := by
            cases hq : isBlank ((L s)[i]) with
            | false => rfl
            | true => exact absurd (hb.mp hq) (fun q => q.elim h32 h10)
          rw [this]; simpa using h10
    · rw [if_neg (by omega), List.drop_eq_nil_of_le (by omega), TKl_nil]
theorem implTokens_ok (s : ByteArray) {k : Nat} (hk : 50000 ≤ k) : impl_Tokens.f k s = some (TK s) := by
  unfold impl_Tokens.f TK
  have hlen := L_len s
  by_cases h : (s.size : Int) > 20000
  · rw [if_pos h, if_pos (by omega)]
  · rw [if_neg h, if_neg (by omega)]
    have := implTokens_l (s := s) (by omega) (k := k) ((L s).length - 0) 0 [] rfl (by omega) (by simp) (by omega)
    rw [List.drop_zero] at this
    exact this
/-- What is known of a text's tokens. -/
theorem TK_cases (s : ByteArray) : TK s = ([], false) ∨ ∃ ts, T (L s) = some ts ∧ TK s = (ts.map ba, true) ∧ s.size ≤ 20000 ∧ (∀ t ∈ ts, valid t = true) ∧ (ts.map List.length).sum ≤ s.size ∧ ts.length ≤ s.size := by
  unfold TK TKl
  by_cases h : s.size > 20000
  · rw [if_pos h]; exact .inl rfl
  · rw [if_neg h]
    cases ht : T (L s) with
    | none => exact .inl rfl
    | some ts =>
      have := T_valid (L s).length (L s) ts (Nat.le_refl _) ht
      rw [L_len] at this
      exact .inr ⟨ts, rfl, by simp, by omega, this⟩
theorem eqS_same (l : List ByteArray) {k : Nat} : ∀ (d i : Nat), l.length - i = d → i ≤ l.length → d < k → l.length ≤ 9000000000000 → laws_eqStringS.l0 k l l i = some true := by
  induction k with
  | zero => intro d i _ _ h; omega
  | succ k ih =>
    intro d i hd hi hk hl
    rw [laws_eqStringS.l0]
    by_cases h : i < l.length
    · have e : wrap64 ((i : Int) + 1) = ((i + 1 : Nat) : Int) := by unfold wrap64; omega
      rw [if_pos (by omega), if_pos (by omega), if_pos (by omega), if_pos rfl, e]
      exact ih (d - 1) (i + 1) (by omega) (by omega) (by omega) hl
    · rw [if_neg (by omega)]
theorem eqS_ok (l : List ByteArray) {k : Nat} (hk : l.length < k) (hl : l.length ≤ 9000000000000) : laws_eqStringS.f k l l = some true := by
  unfold laws_eqStringS.f
  rw [if_pos rfl]
  exact eqS_same l l.length 0 (by omega) (by omega) hk hl
/-- What 'TokensText' answers. -/
def TT (l : List ByteArray) : ByteArray := if l.all (fun t => valid (L t)) = true then ba (Lib.join (l.map L) [32]) else ba []
theorem rdOf_get {l : List ByteArray} {i : Nat} (h : i < l.length) : rdOf ByteArray.empty l (i : Int) = l[i] := by
  unfold rdOf
  have q : ((i : Int)).toNat = i := by omega
  rw [q, List.getD_eq_getElem?_getD, List.getElem?_eq_getElem h]; rfl
theorem implText_l {l : List ByteArray} (hv : ∀ t ∈ l, t.size ≤ 140737488355328) (hn : l.length ≤ 140737488355328) (hj : (Lib.join (l.map L) [32]).length ≤ 140737488355328) {k : Nat} :
    ∀ (d i : Nat), l.length - i = d → i ≤ l.length → (l.take i).all (fun t => valid (L t)) = true → d < k → impl_TokensText.l0 k l l (l.length : Int) i = some (TT l) := by
  induction k with
  | zero => intro d i _ _ _ h; omega
  | succ k ih =>
    intro d i hd hi hall hk
    rw [impl_TokensText.l0]
    by_cases h : i < l.length
    · have e : wrap64 ((i : Int) + 1) = ((i + 1 : Nat) : Int) := by unfold wrap64; omega
      rw [if_pos (by omega), if_pos (by omega), if_pos (by omega), rdOf_get h, implValid_ok (hv _ (List.getElem_mem h))]; simp only [Option.bind_some]
      by_cases hx : valid (L l[i]) = true
      · rw [if_pos hx, e]
        refine ih (d - 1) (i + 1) (by omega) (by omega) ?_ (by omega)
        rw [List.take_succ_eq_append_getElem h, List.all_append, hall]; simp [hx]
      · have : TT l = ba [] := by
          unfold TT
          rw [if_neg (fun q => hx (by rw [List.all_eq_true] at q; exact q _ (List.getElem_mem h)))]
        rw [if_neg hx, this]; rfl
    · have hall' : l.all (fun t => valid (L t)) = true := by rw [List.take_of_length_le (by omega)] at hall; exact hall
      rw [if_neg (by omega)]
      unfold strings_Join.f TT
      have e32 : (⟨#[32]⟩ : ByteArray).data.toList = [32] := rfl
      rw [e32, if_pos ⟨hn, hj⟩, if_pos hall']; rfl
theorem implText_ok {l : List ByteArray} (hv : ∀ t ∈ l, t.size ≤ 140737488355328) (hn : l.length ≤ 140737488355328) (hj : (Lib.join (l.map L) [32]).length ≤ 140737488355328) {k : Nat} (hk : l.length < k) :
    impl_TokensText.f k l = some (TT l) := by
  unfold impl_TokensText.f
  exact implText_l hv hn hj l.length 0 (by omega) (by omega) (by simp) hk
theorem L_append (a b : ByteArray) : L (a ++ b) = L a ++ L b := by simp [L]
theorem ba_append (a b : List UInt8) : ba a ++ ba b = ba (a ++ b) := by
  rw [← ba_L (ba a ++ ba b), L_append, L_ba, L_ba]
theorem joinTail_nil : Lib.joinTail [32] [] = [] := rfl
theorem joinTail_cons (x : List UInt8) (r : List (List UInt8)) : Lib.joinTail [32] (x :: r) = 32 :: (x ++ Lib.joinTail [32] r) := by
  unfold Lib.joinTail; simp
theorem specText_l {l : List ByteArray} {K0 : Nat} (hv : ∀ t ∈ l, t.size ≤ K0) (hK : K0 ≤ 140737488355328) (hn : l.length ≤ 140737488355328) {k : Nat} :
    ∀ (d i : Nat) (acc : List UInt8), l.length - i = d → 0 < i → i ≤ l.length → d + K0 + 50 ≤ k → (acc ++ Lib.joinTail [32] ((l.drop i).map L)).length ≤ 140737488355328 →
    spec_TokensText.l0 k l (ba acc) i = some (if (l.drop i).all (fun t => valid (L t)) = true then ba (acc ++ Lib.joinTail [32] ((l.drop i).map L)) else ba []) := by
  induction k with
  | zero => intro d i acc _ _ _ h; omega
  | succ k ih =>
    intro d i acc hd h0 hi hk hj
    rw [spec_TokensText.l0]
    by_cases h : i < l.length
    · have e : wrap64 ((i : Int) + 1) = ((i + 1 : Nat) : Int) := by unfold wrap64; omega
      have hdr : l.drop i = l[i] :: l.drop (i + 1) := List.drop_eq_getElem_cons h
      have hsz := hv _ (List.getElem_mem h)
      rw [if_pos (by omega), if_pos (by omega), rdOf_get h, specValid_ok (by omega) (by omega)]; simp only [Option.bind_some]
      rw [hdr, List.map_cons, joinTail_cons, List.length_append, List.length_cons, List.length_append, L_len] at hj
      by_cases hx : valid (L l[i]) = true
      · have e1 : (ba acc).size = acc.length := ba_size acc
        have e2 : (ba acc ++ (⟨#[32]⟩ : ByteArray)) = ba (acc ++ [32]) := ba_append acc [32]
        have e3 : (ba (acc ++ [32])).size = acc.length + 1 := by rw [ba_size]; simp
        have e4 : ba (acc ++ [32]) ++ l[i] = ba (acc ++ [32] ++ L l[i]) := by
          conv => lhs; rw [← ba_L l[i]]
          exact ba_append _ _
        rw [if_pos hx, if_pos (by omega), if_pos (by omega), e2, if_pos (by omega), e4, e]
        rw [ih (d - 1) (i + 1) _ (by omega) (by omega) (by omega) (by omega) (by rw [List.length_append, List.length_append, List.length_append, L_len]; simp only [List.length_cons, List.length_nil]; omega)]
        rw [hdr, List.all_cons, hx, Bool.true_and, List.map_cons, joinTail_cons]
        simp
      · rw [if_neg hx, if_neg (by rw [hdr, List.all_cons]; simp [hx])]; rfl
    · rw [if_neg (by omega), List.drop_eq_nil_of_le (by omega)]
      simp [joinTail_nil]
theorem specText_ok {l : List ByteArray} {K0 : Nat} (hv : ∀ t ∈ l, t.size ≤ K0) (hK : K0 ≤ 140737488355328) (hn : l.length ≤ 140737488355328) (hj : (Lib.join (l.map L) [32]).length ≤ 140737488355328) {k : Nat} (hk : l.length + K0 + 60 ≤ k) :
    spec_TokensText.f k l = some (TT l) := by
  unfold spec_TokensText.f
  obtain ⟨k, rfl⟩ : ∃ m, k = m + 1 := ⟨k - 1, by omega⟩
  cases l with
  | nil => rw [spec_TokensText.l0, if_neg (by simp)]; rfl
  | cons t l =>
    have hsz := hv t List.mem_cons_self
    have hr := rdOf_get (l := t :: l) (i := 0) (by simp)
    rw [show ((0 : Nat) : Int) = 0 from rfl] at hr
    rw [List.map_cons, Lib.join_cons] at hj
    rw [List.length_append, L_len] at hj
    have e : wrap64 ((0 : Int) + 1) = ((1 : Nat) : Int) := by unfold wrap64; omega
    rw [spec_TokensText.l0, if_pos (by simp), if_pos (by omega), hr, List.getElem_cons_zero, specValid_ok (by omega) (by omega)]; simp only [Option.bind_some]
    unfold TT
    rw [List.all_cons, List.map_cons, Lib.join_cons]
    by_cases hx : valid (L t) = true
    · have e4 : (⟨#[]⟩ : ByteArray) ++ t = ba (L t) := by
        have := ba_append [] (L t)
        rw [ba_L] at this
        rw [ba_L]; exact this
      have e5 : (⟨#[]⟩ : ByteArray).size = 0 := rfl
      simp only [List.length_cons] at hn hk
      rw [if_pos hx, if_neg (by omega), if_pos (by omega), e4, e]
      rw [specText_l hv hK (by simp; omega) ((t :: l).length - 1) 1 _ rfl (by omega) (by simp) (by simp; omega) (by show (L t ++ Lib.joinTail [32] (l.map L)).length ≤ _; rw [List.length_append, L_len]; exact hj)]
      rw [hx]; simp
    · rw [if_neg hx, if_neg (by simp [hx])]; rfl
end Go.Proofs.Ytnjmmkbbckpobaa.Link
