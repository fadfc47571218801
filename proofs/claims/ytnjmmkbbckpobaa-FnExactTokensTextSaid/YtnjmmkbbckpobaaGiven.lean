/- Contracts of two functions that the print does not take: 'tokenLength' of the program, and the library's 'strings.Join'; for every string of at most 2^47 bytes, and every list whose joined text has at most 2^47 bytes. -/
import Derived.Test.YtnjmmkbbckpobaaProg
import Derived.Test.YtnjmmkbbckpobaaWMore
import Derived.Test.YtnjmmkbbckpobaaShelf
import Derived.WalkKit
import Derived.KernelRfl
import Derived.Lib.Hide
namespace Go.Proofs.Ytnjmmkbbckpobaa.Given
open Go Go.RowKit Go.Proofs.YtnjmmkbbckpobaaW.PrintWords Go.Proofs.YtnjmmkbbckpobaaW.PrintLast Go.Proofs.YtnjmmkbbckpobaaW.PrintMore
/-- Is a byte a digit, is it a letter? -/
def dig (c : UInt8) : Bool := decide (48 ≤ c.toNat ∧ c.toNat ≤ 57)
def let_ (c : UInt8) : Bool := decide (97 ≤ c.toNat ∧ c.toNat ≤ 122)
def run (p : UInt8 → Bool) (l : List UInt8) : Nat := (l.takeWhile p).length
theorem run_le (p : UInt8 → Bool) (l : List UInt8) : run p l ≤ l.length := by
  unfold run; exact (List.takeWhile_prefix p).length_le
theorem run_step {p : UInt8 → Bool} {l : List UInt8} {n : Nat} (h : n ≤ run p l) (hn : n < l.length) (hp : p l[n] = true) : n + 1 ≤ run p l := by
  induction l generalizing n with
  | nil => simp at hn
  | cons a l ih =>
    unfold run at *
    cases n with
    | zero =>
      simp at hp; simp [hp]
    | succ n =>
      rw [List.takeWhile_cons] at *
      split at h
      · rename_i ha
        rw [if_pos ha]
        simp only [List.length_cons] at h hn ⊢
        have := ih (n := n) (by omega) (by omega) (by simpa using hp)
        omega
      · simp at h
theorem run_stop {p : UInt8 → Bool} {l : List UInt8} {n : Nat} (h : n ≤ run p l) (hn : n < l.length) (hp : p l[n] = false) : run p l = n := by
  induction l generalizing n with
  | nil => simp at hn
  | cons a l ih =>
    unfold run at *
    cases n with
    | zero =>
      simp at hp; simp [hp]
    | succ n =>
      rw [List.takeWhile_cons] at *
      split at h
      · rename_i ha
        rw [if_pos ha]
        simp only [List.length_cons] at h hn ⊢
        have := ih (n := n) (by omega) (by omega) (by simpa using hp)
        omega
      · simp at h
set_option maxHeartbeats 400000 in
theorem dig_yes (c : UInt8) (w : World) (h : dig c = true) : Calls Try.prog 43 #[.int .u8 c.toNat] w fun e w' => e = .returned (.bool true) ∧ w = w' := by
  have h0 := of_decide_eq_true h
  have h1 : decide ((48 : Int) ≤ (c.toNat : Int)) = true := decide_eq_true (by omega)
  have h2 : decide ((c.toNat : Int) ≤ 57) = true := decide_eq_true (by omega)
  clear h h0
  go_enter Try.func43, Try.ntmps43
  go_wp2
  go_ret
  exact ⟨rfl, rfl⟩
set_option maxHeartbeats 400000 in
theorem dig_no (c : UInt8) (w : World) (h : dig c = false) : Calls Try.prog 43 #[.int .u8 c.toNat] w fun e w' => e = .returned (.bool false) ∧ w = w' := by
  have h0 := of_decide_eq_false h
  clear h
  by_cases h1 : 48 ≤ c.toNat
  · have h2 : decide ((48 : Int) ≤ (c.toNat : Int)) = true := decide_eq_true (by omega)
    have h3 : decide ((c.toNat : Int) ≤ 57) = false := decide_eq_false (by omega)
    clear h0 h1
    go_enter Try.func43, Try.ntmps43
    go_wp2
    go_ret
    exact ⟨rfl, rfl⟩
  · have h2 : decide ((48 : Int) ≤ (c.toNat : Int)) = false := decide_eq_false (by omega)
    clear h0 h1
    go_enter Try.func43, Try.ntmps43
    go_wp2
    go_ret
    exact ⟨rfl, rfl⟩
set_option maxHeartbeats 400000 in
theorem let_yes (c : UInt8) (w : World) (h : let_ c = true) : Calls Try.prog 44 #[.int .u8 c.toNat] w fun e w' => e = .returned (.bool true) ∧ w = w' := by
  have h0 := of_decide_eq_true h
  have h1 : decide ((97 : Int) ≤ (c.toNat : Int)) = true := decide_eq_true (by omega)
  have h2 : decide ((c.toNat : Int) ≤ 122) = true := decide_eq_true (by omega)
  clear h h0
  go_enter Try.func44, Try.ntmps44
  go_wp2
  go_ret
  exact ⟨rfl, rfl⟩
set_option maxHeartbeats 400000 in
theorem let_no (c : UInt8) (w : World) (h : let_ c = false) : Calls Try.prog 44 #[.int .u8 c.toNat] w fun e w' => e = .returned (.bool false) ∧ w = w' := by
  have h0 := of_decide_eq_false h
  clear h
  by_cases h1 : 97 ≤ c.toNat
  · have h2 : decide ((97 : Int) ≤ (c.toNat : Int)) = true := decide_eq_true (by omega)
    have h3 : decide ((c.toNat : Int) ≤ 122) = false := decide_eq_false (by omega)
    clear h0 h1
    go_enter Try.func44, Try.ntmps44
    go_wp2
    go_ret
    exact ⟨rfl, rfl⟩
  · have h2 : decide ((97 : Int) ≤ (c.toNat : Int)) = false := decide_eq_false (by omega)
    clear h0 h1
    go_enter Try.func44, Try.ntmps44
    go_wp2
    go_ret
    exact ⟨rfl, rfl⟩
/-- What 'tokenLength' answers. -/
def tokLen (l : List UInt8) : Int :=
  if 0 < run dig l then run dig l else if 0 < run let_ l then run let_ l
  else if Lib.hasPrefix l [61, 61] = true ∨ Lib.hasPrefix l [60, 60] = true ∨ Lib.hasPrefix l [62, 62] = true then 2
  else if l ≠ [] ∧ 0 ≤ Lib.indexByte [124, 94, 38, 60, 43, 45, 42, 47, 37, 40, 41, 123, 125, 61, 59] (l.headD 0) then 1 else 0
theorem pre_yes (s p : ByteArray) (w : World) (h : Lib.hasPrefix s.data.toList p.data.toList = true) :
    Calls Try.prog 45 #[.string s, .string p] w fun e w' => e = .returned (.bool true) ∧ w = w' :=
  (Try.strings_HasPrefix s p w).mono fun _ _ ⟨he, hw⟩ => ⟨by rw [he, h], hw.symm⟩
theorem pre_no (s p : ByteArray) (w : World) (h : Lib.hasPrefix s.data.toList p.data.toList = false) :
    Calls Try.prog 45 #[.string s, .string p] w fun e w' => e = .returned (.bool false) ∧ w = w' :=
  (Try.strings_HasPrefix s p w).mono fun _ _ ⟨he, hw⟩ => ⟨by rw [he, h], hw.symm⟩
theorem idx_any (c : UInt8) (w : World) :
    Calls Try.prog 46 #[.string { data := #[124, 94, 38, 60, 43, 45, 42, 47, 37, 40, 41, 123, 125, 61, 59] }, .int .u8 c.toNat] w fun e w' => e = .returned (.int .i64 (Lib.indexByte [124, 94, 38, 60, 43, 45, 42, 47, 37, 40, 41, 123, 125, 61, 59] c)) ∧ w = w' :=
  (Try.strings_IndexByte _ _ w).mono fun _ _ ⟨he, hw⟩ => ⟨by rw [he]; simp, hw.symm⟩
theorem head_at (s : ByteArray) (h : 0 < s.size) : s.data.toList.headD 0 = s[0] := by
  have hl : 0 < s.data.toList.length := by simpa using h
  have e : s[0] = s.data.toList[0] := rfl
  rw [e, List.headD_eq_head?_getD, List.head?_eq_getElem?, List.getElem?_eq_getElem hl]; rfl
theorem ret_i {a b : Int} (h : a = b) : Ending.returned (.int .i64 a) = .returned (.int .i64 b) := by rw [h]
set_option maxHeartbeats 1000000 in
theorem tokenLength_calls (s : ByteArray) (w : World) (hs : s.size ≤ 140737488355328) :
    Calls Try.prog 31 #[.string s] w fun e w' => e = .returned (.int .i64 (tokLen s.data.toList)) ∧ Below w.heap.size w w' := by
  have HL : Hid (s.data.toList.length = s.size) := Lib.hid (by simp)
  go_enter Try.func31, Try.ntmps31
  go_wp2
  go_loop [10] (fun i => ∃ k : Nat, k ≤ 2 ∧ i = .int .i64 k ∧ (1 ≤ k → run dig s.data.toList = 0) ∧ (2 ≤ k → run let_ s.data.toList = 0)) (fun i => 2 - (intOf i).toNat)
  case atStart => exact ⟨0, by omega, rfl, by omega, by omega⟩
  case round =>
    obtain ⟨k, hk, rfl, h1, h2⟩ := hrel
    have H1 := Lib.hid h1
    have H2 := Lib.hid h2
    clear h1 h2
    obtain rfl | rfl | rfl : k = 0 ∨ k = 1 ∨ k = 2 := by omega
    · go_wp2
      go_loop [5] (fun i => ∃ n : Nat, n ≤ s.size ∧ i = .int .i64 n ∧ n ≤ run dig s.data.toList) (fun i => s.size - (intOf i).toNat)
      case atStart => exact ⟨0, by omega, rfl, by omega⟩
      case round =>
        obtain ⟨n, hn, rfl, hr⟩ := hrel
        by_cases hlt : n < s.size
        · have hl : n < s.data.toList.length := by simpa using hlt
          by_cases hd : dig s[n] = true
          · have HD := Lib.hid hd
            have HR := Lib.hid (run_step hr hl hd)
            clear hd hr
            go_wp2_with (go_at_call 43; refine (dig_yes _ _ HD.out).mono ?_; rintro e w' ⟨rfl, rfl⟩)
            go_round
            case rel => exact ⟨n + 1, by omega, by go_num, HR.out⟩
            case measure => simp [intOf]; omega
          · have HD := Lib.hid (by simpa using hd : dig s[n] = false)
            have HR := Lib.hid (run_stop hr hl HD.out)
            clear hd hr
            by_cases h0 : n = 0
            · subst h0
              go_wp2_with (go_at_call 43; refine (dig_no _ _ HD.out).mono ?_; rintro e w' ⟨rfl, rfl⟩)
              go_round
              case rel => exact ⟨1, by omega, rfl, fun _ => HR.out, by omega⟩
              case measure => simp [intOf]
            · have hp : decide (0 < (n : Int)) = true := decide_eq_true (by omega)
              go_wp2_with (go_at_call 43; refine (dig_no _ _ HD.out).mono ?_; rintro e w' ⟨rfl, rfl⟩)
              go_ret
              exact ⟨ret_i (by unfold tokLen; rw [HR.out, if_pos (by omega)]), (Below.refl _ _).alloc (Nat.le_refl _) _⟩
        · have HR := Lib.hid (show run dig s.data.toList = n from by have := run_le dig s.data.toList; have := HL.out; omega)
          clear hr
          by_cases h0 : n = 0
          · subst h0
            go_wp2
            go_round
            case rel => exact ⟨1, by omega, rfl, fun _ => HR.out, by omega⟩
            case measure => simp [intOf]
          · have hp : decide (0 < (n : Int)) = true := decide_eq_true (by omega)
            go_wp2
            go_ret
            exact ⟨ret_i (by unfold tokLen; rw [HR.out, if_pos (by omega)]), (Below.refl _ _).alloc (Nat.le_refl _) _⟩
    · go_wp2
      go_loop [5] (fun i => ∃ n : Nat, n ≤ s.size ∧ i = .int .i64 n ∧ n ≤ run let_ s.data.toList) (fun i => s.size - (intOf i).toNat)
      case atStart => exact ⟨0, by omega, rfl, by omega⟩
      case round =>
        obtain ⟨n, hn, rfl, hr⟩ := hrel
        by_cases hlt : n < s.size
        · have hl : n < s.data.toList.length := by simpa using hlt
          by_cases hd : let_ s[n] = true
          · have HD := Lib.hid hd
            have HR := Lib.hid (run_step hr hl hd)
            clear hd hr
            go_wp2_with (go_at_call 44; refine (let_yes _ _ HD.out).mono ?_; rintro e w' ⟨rfl, rfl⟩)
            go_round
            case rel => exact ⟨n + 1, by omega, by go_num, HR.out⟩
            case measure => simp [intOf]; omega
          · have HD := Lib.hid (by simpa using hd : let_ s[n] = false)
            have HR := Lib.hid (run_stop hr hl HD.out)
            clear hd hr
            by_cases h0 : n = 0
            · subst h0
              go_wp2_with (go_at_call 44; refine (let_no _ _ HD.out).mono ?_; rintro e w' ⟨rfl, rfl⟩)
              go_round
              case rel => exact ⟨2, by omega, rfl, fun _ => H1.out (by omega), fun _ => HR.out⟩
              case measure => simp [intOf]
            · have hp : decide (0 < (n : Int)) = true := decide_eq_true (by omega)
              go_wp2_with (go_at_call 44; refine (let_no _ _ HD.out).mono ?_; rintro e w' ⟨rfl, rfl⟩)
              go_ret
              exact ⟨ret_i (by unfold tokLen; rw [H1.out (by omega), if_neg (by omega), HR.out, if_pos (by omega)]), (Below.refl _ _).alloc (Nat.le_refl _) _⟩
        · have HR := Lib.hid (show run let_ s.data.toList = n from by have := run_le let_ s.data.toList; have := HL.out; omega)
          clear hr
          by_cases h0 : n = 0
          · subst h0
            go_wp2
            go_round
            case rel => exact ⟨2, by omega, rfl, fun _ => H1.out (by omega), fun _ => HR.out⟩
            case measure => simp [intOf]
          · have hp : decide (0 < (n : Int)) = true := decide_eq_true (by omega)
            go_wp2
            go_ret
            exact ⟨ret_i (by unfold tokLen; rw [H1.out (by omega), if_neg (by omega), HR.out, if_pos (by omega)]), (Below.refl _ _).alloc (Nat.le_refl _) _⟩
    · go_wp2
      go_loop [33] (fun i => ∃ j : Nat, j ≤ 3 ∧ i = .int .i64 j ∧ (1 ≤ j → Lib.hasPrefix s.data.toList [61, 61] = false) ∧ (2 ≤ j → Lib.hasPrefix s.data.toList [60, 60] = false) ∧ (3 ≤ j → Lib.hasPrefix s.data.toList [62, 62] = false)) (fun i => 3 - (intOf i).toNat)
      case atStart => exact ⟨0, by omega, rfl, by omega, by omega, by omega⟩
      case round =>
        obtain ⟨j, hj, rfl, p1, p2, p3⟩ := hrel
        have P1 := Lib.hid p1
        have P2 := Lib.hid p2
        have P3 := Lib.hid p3
        clear p1 p2 p3
        obtain rfl | rfl | rfl | rfl : j = 0 ∨ j = 1 ∨ j = 2 ∨ j = 3 := by omega
        · by_cases hp : Lib.hasPrefix s.data.toList [61, 61] = true
          · have HP := Lib.hid hp
            clear hp
            go_wp2_with (go_at_call 45; refine (pre_yes _ _ _ HP.out).mono ?_; rintro e w' ⟨rfl, rfl⟩)
            go_ret
            exact ⟨ret_i (by unfold tokLen; rw [H1.out (by omega), if_neg (by omega), H2.out (by omega), if_neg (by omega), if_pos (.inl HP.out)]), ((Below.refl _ _).alloc (Nat.le_refl _) _).alloc (by simp) _⟩
          · have HP := Lib.hid (by simpa using hp : Lib.hasPrefix s.data.toList [61, 61] = false)
            clear hp
            go_wp2_with (go_at_call 45; refine (pre_no _ _ _ HP.out).mono ?_; rintro e w' ⟨rfl, rfl⟩)
            go_round
            case rel => exact ⟨1, by omega, rfl, fun _ => HP.out, by omega, by omega⟩
            case measure => simp [intOf]
        · by_cases hp : Lib.hasPrefix s.data.toList [60, 60] = true
          · have HP := Lib.hid hp
            clear hp
            go_wp2_with (go_at_call 45; refine (pre_yes _ _ _ HP.out).mono ?_; rintro e w' ⟨rfl, rfl⟩)
            go_ret
            exact ⟨ret_i (by unfold tokLen; rw [H1.out (by omega), if_neg (by omega), H2.out (by omega), if_neg (by omega), if_pos (.inr (.inl HP.out))]), ((Below.refl _ _).alloc (Nat.le_refl _) _).alloc (by simp) _⟩
          · have HP := Lib.hid (by simpa using hp : Lib.hasPrefix s.data.toList [60, 60] = false)
            clear hp
            go_wp2_with (go_at_call 45; refine (pre_no _ _ _ HP.out).mono ?_; rintro e w' ⟨rfl, rfl⟩)
            go_round
            case rel => exact ⟨2, by omega, rfl, fun _ => P1.out (by omega), fun _ => HP.out, by omega⟩
            case measure => simp [intOf]
        · by_cases hp : Lib.hasPrefix s.data.toList [62, 62] = true
          · have HP := Lib.hid hp
            clear hp
            go_wp2_with (go_at_call 45; refine (pre_yes _ _ _ HP.out).mono ?_; rintro e w' ⟨rfl, rfl⟩)
            go_ret
            exact ⟨ret_i (by unfold tokLen; rw [H1.out (by omega), if_neg (by omega), H2.out (by omega), if_neg (by omega), if_pos (.inr (.inr HP.out))]), ((Below.refl _ _).alloc (Nat.le_refl _) _).alloc (by simp) _⟩
          · have HP := Lib.hid (by simpa using hp : Lib.hasPrefix s.data.toList [62, 62] = false)
            clear hp
            go_wp2_with (go_at_call 45; refine (pre_no _ _ _ HP.out).mono ?_; rintro e w' ⟨rfl, rfl⟩)
            go_round
            case rel => exact ⟨3, by omega, rfl, fun _ => P1.out (by omega), fun _ => P2.out (by omega), fun _ => HP.out⟩
            case measure => simp [intOf]
        · have HN : Hid (¬ (Lib.hasPrefix s.data.toList [61, 61] = true ∨ Lib.hasPrefix s.data.toList [60, 60] = true ∨ Lib.hasPrefix s.data.toList [62, 62] = true)) := Lib.hid (by rw [P1.out (by omega), P2.out (by omega), P3.out (by omega)]; simp)
          by_cases h0 : s.size = 0
          · have he : s.toList = [] := by
              rw [Lib.toList_data]; exact List.eq_nil_of_length_eq_zero (by have := HL.out; omega)
            have hn : s.data.toList = [] := by rw [← Lib.toList_data]; exact he
            have HE := Lib.hid hn
            clear h0 hn
            go_wp2
            go_ret
            exact ⟨ret_i (by unfold tokLen; rw [H1.out (by omega), if_neg (by omega), H2.out (by omega), if_neg (by omega), if_neg HN.out, if_neg (fun h => h.1 HE.out)]), ((Below.refl _ _).alloc (Nat.le_refl _) _).alloc (by simp) _⟩
          · have hlt : 0 < s.size := by omega
            have hne : ¬ s.toList = [] := by
              rw [Lib.toList_data]; intro h; have := HL.out; rw [h] at this; simp at this; omega
            have hnb : s.toList.isEmpty = false := by
              cases hc : s.toList with
              | nil => exact absurd hc hne
              | cons a l => rfl
            have hnb2 : (!s.toList.isEmpty) = true := by rw [hnb]; rfl
            have HD : Hid (s.data.toList ≠ [] ∧ s.data.toList.headD 0 = s[0]) := Lib.hid ⟨by rw [← Lib.toList_data]; exact hne, head_at s hlt⟩
            clear h0
            go_wp2_with (go_at_call 46; refine (idx_any _ _).mono ?_; rintro e w' ⟨rfl, rfl⟩)
            · have hx : 0 ≤ Lib.indexByte [124, 94, 38, 60, 43, 45, 42, 47, 37, 40, 41, 123, 125, 61, 59] s[0] := by assumption
              go_ret
              exact ⟨ret_i (by unfold tokLen; rw [H1.out (by omega), if_neg (by omega), H2.out (by omega), if_neg (by omega), if_neg HN.out, if_pos ⟨HD.out.1, by rw [HD.out.2]; exact hx⟩]), ((Below.refl _ _).alloc (Nat.le_refl _) _).alloc (by simp) _⟩
            · have hx : Lib.indexByte [124, 94, 38, 60, 43, 45, 42, 47, 37, 40, 41, 123, 125, 61, 59] s[0] < 0 := by assumption
              go_ret
              exact ⟨ret_i (by unfold tokLen; rw [H1.out (by omega), if_neg (by omega), H2.out (by omega), if_neg (by omega), if_neg HN.out, if_neg (fun h => by have h2 := h.2; rw [HD.out.2] at h2; omega)]), ((Below.refl _ _).alloc (Nat.le_refl _) _).alloc (by simp) _⟩
/-- 'tokenLength', as the print tells functions. -/
def impl_tokenLength.f (a0 : ByteArray) : Option Int := if a0.size ≤ 140737488355328 then some (tokLen a0.data.toList) else none
theorem impl_tokenLength.calls (a0 : ByteArray) (r : Int) (w : World) (h : impl_tokenLength.f a0 = some r) :
    Calls Try.prog 31 #[.string a0] w fun e w' => e = .returned (.int .i64 r) ∧ Below w.heap.size w w' := by
  unfold impl_tokenLength.f at h
  split at h
  · rename_i hs
    obtain rfl := Option.some.inj h
    exact tokenLength_calls a0 w hs
  · cases h
/-- 'strings.Join', as the print tells functions. -/
def strings_Join.f (l0 : List ByteArray) (a1 : ByteArray) : Option ByteArray :=
  if l0.length ≤ 140737488355328 ∧ (Lib.join (l0.map (·.data.toList)) a1.data.toList).length ≤ 140737488355328 then some ⟨(Lib.join (l0.map (·.data.toList)) a1.data.toList).toArray⟩ else none
theorem add_plain_ (g o j : Nat) : (⟨g, o, none⟩ : Addr).add j = ⟨g, o + j, none⟩ := by
  unfold Addr.add
  split
  · rename_i h; subst h; rfl
  · rfl
theorem strings_Join.calls (A0 : Option Addr) (c0 : Nat) (l0 : List ByteArray) (a1 : ByteArray) (r : ByteArray) (w : World) (hr0 : Kd.C Kd.string w A0 l0.length l0) (hc0 : l0.length ≤ c0) (h : strings_Join.f l0 a1 = some r) :
    Calls Try.prog 34 #[.slice A0 l0.length c0, .string a1] w fun e w' => e = .returned (.string r) ∧ Below w.heap.size w w' := by
  unfold strings_Join.f at h
  split at h
  · rename_i hs
    obtain rfl := Option.some.inj h
    by_cases h0 : l0 = []
    · subst h0
      exact (Try.strings_Join_none A0 c0 a1 w).mono fun e w' ⟨he, hw⟩ => ⟨he, by rw [hw]; exact Below.refl _ _⟩
    · have hl : 0 < l0.length := List.length_pos_iff.mpr h0
      obtain ⟨ad, rfl, hc⟩ := hr0.2.2 hl
      have cell : ∀ (j : Nat) x, l0[j]? = some x → w.cell? (ad.add j) = some (.string x) := by
        intro j x hx
        obtain ⟨c, _, hk, hcc⟩ := hc j x hx
        have hk' : c = [Value.string x] := hk
        subst hk'
        have := hcc 0 _ rfl
        simpa [Kd.string, Kd.scalar] using this
      obtain ⟨bk, o, sp⟩ := ad
      have c0' := cell 0 _ (List.getElem?_eq_getElem hl)
      have hsp : sp = none := by
        have e0 : (⟨bk, o, sp⟩ : Addr).add 0 = ⟨bk, o, sp⟩ := rfl
        rw [e0] at c0'
        unfold World.cell? at c0'
        cases sp with
        | none => rfl
        | some q =>
          simp only [Option.isSome_some, if_true] at c0'
          split at c0' <;> cases c0'
      subst hsp
      refine Try.strings_Join bk o c0 l0 a1 w (fun j x hx => ?_) ?_ hs.1 hc0 hs.2
      · rw [← add_plain_]; exact cell j x hx
      · exact World.block_lt_of_cell? w _ c0'
  · cases h
end Go.Proofs.Ytnjmmkbbckpobaa.Given
