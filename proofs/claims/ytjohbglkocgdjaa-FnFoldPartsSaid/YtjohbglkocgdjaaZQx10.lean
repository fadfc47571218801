/- Written for this claim by the kit's print program, over contracts that are this seat's own (): not the print's own text. -/
import Derived.Test.YtjohbglkocgdjaaZQx0
import Derived.Test.YtjohbglkocgdjaaZQx1
import Derived.Test.YtjohbglkocgdjaaZQx8
namespace Go.Proofs.Ytjohbglkocgdjaa.Q
open Go.RowKit Go.Proofs.YtjohbglkocgdjaaW.PrintWords Go.Proofs.YtjohbglkocgdjaaW.PrintLast Go.Proofs.YtjohbglkocgdjaaW.PrintMore
attribute [local go_sem] max2_int min2_int max_two min_two max_three min_three max_four min_four   -- for this text's walks alone
set_option linter.unusedVariables false
set_option linter.unusedSimpArgs false

/-! ### spec_WordValid: function 60 -/
def spec_WordValid.f (a0 : Int) : Option (Bool) := (spec_l6In.f a0 (-2147483648) 2147483647).bind fun t471 => (some t471)
set_option maxHeartbeats 8000000 in
set_option maxRecDepth 100000 in
theorem spec_WordValid.calls (a0 : Int) (r : Bool) (w : World) (h : spec_WordValid.f a0 = some r) :
  Calls Try.prog 60 #[.int .i64 a0] w fun e w' => e = .returned (.bool r) ∧ Drawn0 w w' := by
 have H : ((spec_l6In.f a0 (-2147483648) 2147483647).bind fun t471 => (some t471)) = some r := h
 clear h
 replace H := X2 H
 obtain ⟨t471, A20, H⟩ := H
 replace H : (some t471) = some r := H
 have A2 := X1 A20
 clear A20
 obtain rfl := Option.some.inj H
 go_enter Try.func60, Try.ntmps60
 go_wp2_with (first | ((with_reducible refine gate_callee (f := 54) rfl ?_); refine goesL_ (some 4) rfl rfl Try.func54 (by kernel_rfl) rfl #[.int .i64 a0, .int .i64 (-2147483648), .int .i64 2147483647] rfl (by (try simp only [List.map_toArray, List.map_cons, List.map_nil]); first | done | rfl | (simp only [List.length_drop, List.length_take]; rfl)) ?_; (with_reducible refine (spec_l6In.calls a0 (-2147483648) 2147483647 t471 _ A2.out).mono ?_); rintro e w' ⟨rfl, ⟨nd, rfl⟩⟩; refine ⟨_, rfl, ?_⟩))
 go_ret
 exact ⟨by first | rfl | (simp; done) | (simp [*]; done), by repeat (first | exact Drawn0.refl _ | apply Drawn0.step)⟩

/-! ### spec_l2Flag: function 61 -/
def spec_l2Flag.f (a0 : Bool) : Option (Int) := if a0 = true then (some 1) else (some 0)
set_option maxHeartbeats 8000000 in
set_option maxRecDepth 100000 in
theorem spec_l2Flag.calls (a0 : Bool) (r : Int) (w : World) (h : spec_l2Flag.f a0 = some r) :
  Calls Try.prog 61 #[.bool a0] w fun e w' => e = .returned (.int .i64 r) ∧ Drawn0 w w' := by
 have H : (if a0 = true then (some 1) else (some 0)) = some r := h
 clear h
 by_cases c2 : a0 = true
 ·subst c2
  have H1 : (some 1) = some r := by rw [if_pos rfl] at H; exact H
  clear H
  have H := H1
  clear H1
  obtain rfl := Option.some.inj H
  go_enter Try.func61, Try.ntmps61
  go_wp2
  go_ret
  exact ⟨by first | rfl | (simp; done) | (simp [*]; done), by repeat (first | exact Drawn0.refl _ | apply Drawn0.step)⟩
 ·replace c2 := Bool.eq_false_iff.mpr c2
  subst c2
  have H1 : (some 0) = some r := by rw [if_neg (show ¬ (false = true) by decide)] at H; exact H
  clear H
  have H := H1
  clear H1
  obtain rfl := Option.some.inj H
  go_enter Try.func61, Try.ntmps61
  go_wp2
  go_ret
  exact ⟨by first | rfl | (simp; done) | (simp [*]; done), by repeat (first | exact Drawn0.refl _ | apply Drawn0.step)⟩

/-! ### spec_Wrap: function 63 -/
def spec_Wrap.f (a0 : Int) : Option (Int) := if (Int.tmod a0 4294967296) > 2147483647 then (some (wrap64 ((Int.tmod a0 4294967296) - 4294967296))) else (if (Int.tmod a0 4294967296) < (-2147483648) then (some (wrap64 ((Int.tmod a0 4294967296) + 4294967296))) else (some (Int.tmod a0 4294967296)))
set_option maxHeartbeats 8000000 in
set_option maxRecDepth 100000 in
theorem spec_Wrap.calls (a0 : Int) (r : Int) (w : World) (h : spec_Wrap.f a0 = some r) :
  Calls Try.prog 63 #[.int .i64 a0] w fun e w' => e = .returned (.int .i64 r) ∧ Drawn0 w w' := by
 have H : (if (Int.tmod a0 4294967296) > 2147483647 then (some (wrap64 ((Int.tmod a0 4294967296) - 4294967296))) else (if (Int.tmod a0 4294967296) < (-2147483648) then (some (wrap64 ((Int.tmod a0 4294967296) + 4294967296))) else (some (Int.tmod a0 4294967296)))) = some r := h
 clear h
 by_cases c2 : (Int.tmod a0 4294967296) > 2147483647
 ·rw [if_pos c2] at H
  have c2b0 : decide (2147483647 < (Int.tmod a0 4294967296)) = true := decide_eq_true c2
  clear c2
  obtain rfl := Option.some.inj H
  go_enter Try.func63, Try.ntmps63
  go_wp2
  go_ret
  exact ⟨by first | rfl | (simp; done) | (simp [*]; done), by repeat (first | exact Drawn0.refl _ | apply Drawn0.step)⟩
 ·rw [if_neg c2] at H
  have c2b0 : decide (2147483647 < (Int.tmod a0 4294967296)) = false := decide_eq_false c2
  clear c2
  by_cases c3 : (Int.tmod a0 4294967296) < (-2147483648)
  ·rw [if_pos c3] at H
   have c3b0 : decide ((Int.tmod a0 4294967296) < (-2147483648)) = true := decide_eq_true c3
   clear c3
   obtain rfl := Option.some.inj H
   go_enter Try.func63, Try.ntmps63
   go_wp2
   go_ret
   exact ⟨by first | rfl | (simp; done) | (simp [*]; done), by repeat (first | exact Drawn0.refl _ | apply Drawn0.step)⟩
  ·rw [if_neg c3] at H
   have c3b0 : decide ((Int.tmod a0 4294967296) < (-2147483648)) = false := decide_eq_false c3
   clear c3
   obtain rfl := Option.some.inj H
   go_enter Try.func63, Try.ntmps63
   go_wp2
   go_ret
   exact ⟨by first | rfl | (simp; done) | (simp [*]; done), by repeat (first | exact Drawn0.refl _ | apply Drawn0.step)⟩

/-! ### spec_l2Shift: function 62 -/
def spec_l2Shift.f (a0 : Int) (a1 : Int) (a2 : Bool) : Option (Int) := if a2 = true then (if 0 ≤ (Go.bits .and .i64 a1 31) then (some (shr .i64 a0 (Go.bits .and .i64 a1 31))) else (none)) else (if 0 ≤ (Go.bits .and .i64 a1 31) then ((spec_Wrap.f (shl .i64 a0 (Go.bits .and .i64 a1 31))).bind fun t472 => (some t472)) else (none))
set_option maxHeartbeats 8000000 in
set_option maxRecDepth 100000 in
theorem spec_l2Shift.calls (a0 : Int) (a1 : Int) (a2 : Bool) (r : Int) (w : World) (h : spec_l2Shift.f a0 a1 a2 = some r) :
  Calls Try.prog 62 #[.int .i64 a0, .int .i64 a1, .bool a2] w fun e w' => e = .returned (.int .i64 r) ∧ Drawn0 w w' := by
 have H : (if a2 = true then (if 0 ≤ (Go.bits .and .i64 a1 31) then (some (shr .i64 a0 (Go.bits .and .i64 a1 31))) else (none)) else (if 0 ≤ (Go.bits .and .i64 a1 31) then ((spec_Wrap.f (shl .i64 a0 (Go.bits .and .i64 a1 31))).bind fun t472 => (some t472)) else (none))) = some r := h
 clear h
 by_cases c4 : a2 = true
 ·subst c4
  have H1 : (if 0 ≤ (Go.bits .and .i64 a1 31) then (some (shr .i64 a0 (Go.bits .and .i64 a1 31))) else (none)) = some r := by rw [if_pos rfl] at H; exact H
  clear H
  have H := H1
  clear H1
  by_cases c5 : 0 ≤ (Go.bits .and .i64 a1 31)
  ·rw [if_pos c5] at H
   have c5b0 := eq_true c5
   have c5b1 : decide (0 ≤ (Go.bits .and .i64 a1 31)) = true := decide_eq_true c5
   clear c5
   obtain ⟨ji6, hji6⟩ : ∃ j_ : Int, (shr .i64 a0 (Go.bits .and .i64 a1 31)) = j_ := ⟨_, rfl⟩
   replace H : (some ji6) = some r := by first | (rw [hji6] at H; exact H) | (simp only [hji6] at H ⊢; exact H)
   have hji6_ : (a0 / 2 ^ min (Go.bits .and .i64 a1 31).toNat 64) = ji6 := hji6
   have hji6z : (Go.bits .and .i64 a1 31) ≤ 64 → (a0 / 2 ^ (Go.bits .and .i64 a1 31).toNat) = ji6 := shr_small hji6
   obtain rfl := Option.some.inj H
   go_enter Try.func62, Try.ntmps62
   go_wp2
   go_ret
   exact ⟨by first | rfl | (simp; done) | (simp only [← hji6] <;> (first | rfl | simp)) | (simp [*]; done), by repeat (first | exact Drawn0.refl _ | apply Drawn0.step)⟩
  ·rw [if_neg c5] at H
   exact absurd H (by simp)
 ·replace c4 := Bool.eq_false_iff.mpr c4
  subst c4
  have H1 : (if 0 ≤ (Go.bits .and .i64 a1 31) then ((spec_Wrap.f (shl .i64 a0 (Go.bits .and .i64 a1 31))).bind fun t472 => (some t472)) else (none)) = some r := by rw [if_neg (show ¬ (false = true) by decide)] at H; exact H
  clear H
  have H := H1
  clear H1
  by_cases c7 : 0 ≤ (Go.bits .and .i64 a1 31)
  ·rw [if_pos c7] at H
   have c7b0 := eq_true c7
   have c7b1 : decide (0 ≤ (Go.bits .and .i64 a1 31)) = true := decide_eq_true c7
   clear c7
   obtain ⟨ji8, hji8⟩ : ∃ j_ : Int, (shl .i64 a0 (Go.bits .and .i64 a1 31)) = j_ := ⟨_, rfl⟩
   replace H : ((spec_Wrap.f (ji8)).bind fun t472 => (some t472)) = some r := by first | (rw [hji8] at H; exact H) | (simp only [hji8] at H ⊢; exact H)
   have hji8_ : (IntKind.i64.wrap (a0 * 2 ^ min (Go.bits .and .i64 a1 31).toNat 64)) = ji8 := hji8
   have hji8z : (Go.bits .and .i64 a1 31) ≤ 64 → (IntKind.i64.wrap (a0 * 2 ^ (Go.bits .and .i64 a1 31).toNat)) = ji8 := shl_small hji8
   have hji8y : (wrap64 (a0 * 2 ^ min (Go.bits .and .i64 a1 31).toNat 64)) = ji8 := (i64_w _).symm.trans hji8_
   have hji8x : (Go.bits .and .i64 a1 31) ≤ 64 → (wrap64 (a0 * 2 ^ (Go.bits .and .i64 a1 31).toNat)) = ji8 := fun h_ => (i64_w _).symm.trans (hji8z h_)
   replace H := X2 H
   obtain ⟨t472, A90, H⟩ := H
   replace H : (some t472) = some r := H
   have A9 := X1 A90
   clear A90
   obtain rfl := Option.some.inj H
   go_enter Try.func62, Try.ntmps62
   go_wp2_with (first | ((with_reducible refine gate_callee (f := 63) rfl ?_); refine goesL_ (some 16) rfl rfl Try.func63 (by kernel_rfl) rfl #[.int .i64 ji8] rfl (by (try simp only [List.map_toArray, List.map_cons, List.map_nil]); first | done | (simp only [hji8]; rfl) | rfl | (simp only [List.length_drop, List.length_take]; rfl)) ?_; (with_reducible refine (spec_Wrap.calls ji8 t472 _ A9.out).mono ?_); rintro e w' ⟨rfl, ⟨nd, rfl⟩⟩; refine ⟨_, rfl, ?_⟩))
   go_ret
   exact ⟨by first | rfl | (simp; done) | (simp only [← hji8] <;> (first | rfl | simp)) | (simp [*]; done), by repeat (first | exact Drawn0.refl _ | apply Drawn0.step)⟩
  ·rw [if_neg c7] at H
   exact absurd H (by simp)

/-! ### spec_l2Divide: function 64 -/
def spec_l2Divide.f (a0 : Int) (a1 : Int) : Option (Int) := if a1 = 0 then (some (-1)) else ((spec_Wrap.f (wrap64 (Int.tdiv a0 a1))).bind fun t473 => (some t473))
set_option maxHeartbeats 8000000 in
set_option maxRecDepth 100000 in
theorem spec_l2Divide.calls (a0 : Int) (a1 : Int) (r : Int) (w : World) (h : spec_l2Divide.f a0 a1 = some r) :
  Calls Try.prog 64 #[.int .i64 a0, .int .i64 a1] w fun e w' => e = .returned (.int .i64 r) ∧ Drawn0 w w' := by
 have H : (if a1 = 0 then (some (-1)) else ((spec_Wrap.f (wrap64 (Int.tdiv a0 a1))).bind fun t473 => (some t473))) = some r := h
 clear h
 by_cases c3 : a1 = 0
 ·rw [if_pos c3] at H
  have c3b0 : (a1 == 0) = true := beq_iff_eq.mpr c3
  have c3b1 : (a1 != 0) = false := bne_eq_false_iff_eq.mpr c3
  clear c3
  obtain rfl := Option.some.inj H
  go_enter Try.func64, Try.ntmps64
  go_wp2
  go_ret
  exact ⟨by first | rfl | (simp; done) | (simp [*]; done), by repeat (first | exact Drawn0.refl _ | apply Drawn0.step)⟩
 ·rw [if_neg c3] at H
  have c3b0 : (a1 == 0) = false := beq_eq_false_iff_ne.mpr c3
  have c3b1 : (a1 != 0) = true := bne_iff_ne.mpr c3
  replace H := X2 H
  obtain ⟨t473, A40, H⟩ := H
  replace H : (some t473) = some r := H
  have A4 := X1 A40
  clear A40
  obtain rfl := Option.some.inj H
  go_enter Try.func64, Try.ntmps64
  go_wp2_with (first | ((with_reducible refine gate_callee (f := 63) rfl ?_); refine goesL_ (some 10) rfl rfl Try.func63 (by kernel_rfl) rfl #[.int .i64 (wrap64 (Int.tdiv a0 a1))] rfl (by (try simp only [List.map_toArray, List.map_cons, List.map_nil]); first | done | rfl | (simp only [List.length_drop, List.length_take]; rfl)) ?_; (with_reducible refine (spec_Wrap.calls (wrap64 (Int.tdiv a0 a1)) t473 _ A4.out).mono ?_); rintro e w' ⟨rfl, ⟨nd, rfl⟩⟩; refine ⟨_, rfl, ?_⟩))
  go_ret
  exact ⟨by first | rfl | (simp; done) | (simp [*]; done), by repeat (first | exact Drawn0.refl _ | apply Drawn0.step)⟩

/-! ### spec_l2Remain: function 65 -/
def spec_l2Remain.f (a0 : Int) (a1 : Int) : Option (Int) := if a1 = 0 then (some a0) else (some (Int.tmod a0 a1))
set_option maxHeartbeats 8000000 in
set_option maxRecDepth 100000 in
theorem spec_l2Remain.calls (a0 : Int) (a1 : Int) (r : Int) (w : World) (h : spec_l2Remain.f a0 a1 = some r) :
  Calls Try.prog 65 #[.int .i64 a0, .int .i64 a1] w fun e w' => e = .returned (.int .i64 r) ∧ Drawn0 w w' := by
 have H : (if a1 = 0 then (some a0) else (some (Int.tmod a0 a1))) = some r := h
 clear h
 by_cases c3 : a1 = 0
 ·rw [if_pos c3] at H
  have c3b0 : (a1 == 0) = true := beq_iff_eq.mpr c3
  have c3b1 : (a1 != 0) = false := bne_eq_false_iff_eq.mpr c3
  clear c3
  obtain rfl := Option.some.inj H
  go_enter Try.func65, Try.ntmps65
  go_wp2
  go_ret
  exact ⟨by first | rfl | (simp; done) | (simp [*]; done), by repeat (first | exact Drawn0.refl _ | apply Drawn0.step)⟩
 ·rw [if_neg c3] at H
  have c3b0 : (a1 == 0) = false := beq_eq_false_iff_ne.mpr c3
  have c3b1 : (a1 != 0) = true := bne_iff_ne.mpr c3
  obtain rfl := Option.some.inj H
  go_enter Try.func65, Try.ntmps65
  go_wp2
  go_ret
  exact ⟨by first | rfl | (simp; done) | (simp [*]; done), by repeat (first | exact Drawn0.refl _ | apply Drawn0.step)⟩

/-! ### spec_Apply: function 57 -/
def spec_Apply.j0 : Nat → Int → Int → Int → Bool → Option (Int × Bool)
 | 0, _, _, _, _ => none
 | k + 1, x0, x1, x2, x20 => if x20 = true then (some (0, false)) else (if x0 = 1 then (some (Go.bits .or .i64 x1 x2, true)) else (if x0 = 2 then (some (Go.bits .xor .i64 x1 x2, true)) else (if x0 = 3 then (some (Go.bits .and .i64 x1 x2, true)) else (if x0 = 4 then ((spec_l2Flag.f (x1 == x2)).bind fun t477 => (some (t477, true))) else (if x0 = 5 then ((spec_l2Flag.f (decide (x1 < x2))).bind fun t478 => (some (t478, true))) else (if x0 = 6 then ((spec_l2Shift.f x1 x2 false).bind fun t479 => (some (t479, true))) else (if x0 = 7 then ((spec_l2Shift.f x1 x2 true).bind fun t480 => (some (t480, true))) else (if x0 = 8 then ((spec_Wrap.f (wrap64 (x1 + x2))).bind fun t481 => (some (t481, true))) else (if x0 = 9 then ((spec_Wrap.f (wrap64 (x1 - x2))).bind fun t482 => (some (t482, true))) else (if x0 = 10 then ((spec_Wrap.f (wrap64 (x1 * x2))).bind fun t483 => (some (t483, true))) else (if x0 = 11 then ((spec_l2Divide.f x1 x2).bind fun t484 => (some (t484, true))) else ((spec_l2Remain.f x1 x2).bind fun t485 => (some (t485, true))))))))))))))
def spec_Apply.f (k : Nat) (a0 : Int) (a1 : Int) (a2 : Int) : Option (Int × Bool) := (spec_OpValid.f a0).bind fun t474 => (if t474 = true then ((spec_WordValid.f a1).bind fun t475 => (if t475 = true then ((spec_WordValid.f a2).bind fun t476 => (spec_Apply.j0 k a0 a1 a2 (!t476))) else (spec_Apply.j0 k a0 a1 a2 true))) else (spec_Apply.j0 k a0 a1 a2 true))
set_option maxHeartbeats 8000000 in
set_option maxRecDepth 100000 in
theorem spec_Apply.calls (k : Nat) (a0 : Int) (a1 : Int) (a2 : Int) (r1 : Int) (r2 : Bool) (w : World) (h : spec_Apply.f k a0 a1 a2 = some (r1, r2)) :
  Calls Try.prog 57 #[.int .i64 a0, .int .i64 a1, .int .i64 a2] w fun e w' => e = .returned (.tuple #[.int .i64 r1, .bool r2]) ∧ Drawn0 w w' := by
 have H : ((spec_OpValid.f a0).bind fun t474 => (if t474 = true then ((spec_WordValid.f a1).bind fun t475 => (if t475 = true then ((spec_WordValid.f a2).bind fun t476 => (spec_Apply.j0 k a0 a1 a2 (!t476))) else (spec_Apply.j0 k a0 a1 a2 true))) else (spec_Apply.j0 k a0 a1 a2 true))) = some (r1, r2) := h
 clear h
 have HC4 := X1 H
 clear H
 go_enter Try.func57, Try.ntmps57
 go_upto_region 1 with (fail)
 go_cut [20] (fun v20 wc => ∃ (kq : Nat) (x20_3 : Bool), v20 = .bool x20_3 ∧ Aside0 (spec_Apply.j0 kq a0 a1 a2 x20_3 = some (r1, r2)) ∧ Aside0 (kq ≤ k) ∧ Drawn0 w wc)
 case first =>
  have H := HC4.out
  clear HC4
  replace H := X2 H
  obtain ⟨t474, A50, H⟩ := H
  replace H : (if t474 = true then ((spec_WordValid.f a1).bind fun t475 => (if t475 = true then ((spec_WordValid.f a2).bind fun t476 => (spec_Apply.j0 k a0 a1 a2 (!t476))) else (spec_Apply.j0 k a0 a1 a2 true))) else (spec_Apply.j0 k a0 a1 a2 true)) = some (r1, r2) := H
  have A5 := X1 A50
  clear A50
  by_cases c6 : t474 = true
  ·subst c6
   have H1 : ((spec_WordValid.f a1).bind fun t475 => (if t475 = true then ((spec_WordValid.f a2).bind fun t476 => (spec_Apply.j0 k a0 a1 a2 (!t476))) else (spec_Apply.j0 k a0 a1 a2 true))) = some (r1, r2) := by rw [if_pos rfl] at H; exact H
   clear H
   have H := H1
   clear H1
   replace H := X2 H
   obtain ⟨t475, A70, H⟩ := H
   replace H : (if t475 = true then ((spec_WordValid.f a2).bind fun t476 => (spec_Apply.j0 k a0 a1 a2 (!t476))) else (spec_Apply.j0 k a0 a1 a2 true)) = some (r1, r2) := H
   have A7 := X1 A70
   clear A70
   by_cases c8 : t475 = true
   ·subst c8
    have H1 : ((spec_WordValid.f a2).bind fun t476 => (spec_Apply.j0 k a0 a1 a2 (!t476))) = some (r1, r2) := by rw [if_pos rfl] at H; exact H
    clear H
    have H := H1
    clear H1
    replace H := X2 H
    obtain ⟨t476, A90, H⟩ := H
    replace H : (spec_Apply.j0 k a0 a1 a2 (!t476)) = some (r1, r2) := H
    have A9 := X1 A90
    clear A90
    have H' := X1 H
    clear H
    go_wp2_with (first | ((with_reducible refine gate_callee (f := 55) rfl ?_); refine goesL_ (some 9) rfl rfl Try.func55 (by kernel_rfl) rfl #[.int .i64 a0] rfl (by (try simp only [List.map_toArray, List.map_cons, List.map_nil]); first | done | rfl | (simp only [List.length_drop, List.length_take]; rfl)) ?_; (with_reducible refine (spec_OpValid.calls a0 true _ A5.out).mono ?_); rintro e w' ⟨rfl, ⟨nd, rfl⟩⟩; refine ⟨_, rfl, ?_⟩) | (go_at_call 60; (with_reducible refine (spec_WordValid.calls a1 true _ A7.out).mono ?_); rintro e w' ⟨rfl, ⟨nd, rfl⟩⟩) | (go_at_call 60; (with_reducible refine (spec_WordValid.calls a2 t476 _ A9.out).mono ?_); rintro e w' ⟨rfl, ⟨nd, rfl⟩⟩))
    go_meet
    case rel => exact ⟨_, (!t476), (by first | rfl | (simp; done) | (simp [*]; done)), H', ⟨by first | omega | exact Nat.le_refl _⟩, by repeat (first | exact Drawn0.refl _ | apply Drawn0.step)⟩
   ·replace c8 := Bool.eq_false_iff.mpr c8
    subst c8
    have H1 : (spec_Apply.j0 k a0 a1 a2 true) = some (r1, r2) := by rw [if_neg (show ¬ (false = true) by decide)] at H; exact H
    clear H
    have H := H1
    clear H1
    have H' := X1 H
    clear H
    go_wp2_with (first | ((with_reducible refine gate_callee (f := 55) rfl ?_); refine goesL_ (some 9) rfl rfl Try.func55 (by kernel_rfl) rfl #[.int .i64 a0] rfl (by (try simp only [List.map_toArray, List.map_cons, List.map_nil]); first | done | rfl | (simp only [List.length_drop, List.length_take]; rfl)) ?_; (with_reducible refine (spec_OpValid.calls a0 true _ A5.out).mono ?_); rintro e w' ⟨rfl, ⟨nd, rfl⟩⟩; refine ⟨_, rfl, ?_⟩) | (go_at_call 60; (with_reducible refine (spec_WordValid.calls a1 false _ A7.out).mono ?_); rintro e w' ⟨rfl, ⟨nd, rfl⟩⟩))
    go_meet
    case rel => exact ⟨_, (true), (by first | rfl | (simp; done) | (simp [*]; done)), H', ⟨by first | omega | exact Nat.le_refl _⟩, by repeat (first | exact Drawn0.refl _ | apply Drawn0.step)⟩
  ·replace c6 := Bool.eq_false_iff.mpr c6
   subst c6
   have H1 : (spec_Apply.j0 k a0 a1 a2 true) = some (r1, r2) := by rw [if_neg (show ¬ (false = true) by decide)] at H; exact H
   clear H
   have H := H1
   clear H1
   have H' := X1 H
   clear H
   go_wp2_with (first | ((with_reducible refine gate_callee (f := 55) rfl ?_); refine goesL_ (some 9) rfl rfl Try.func55 (by kernel_rfl) rfl #[.int .i64 a0] rfl (by (try simp only [List.map_toArray, List.map_cons, List.map_nil]); first | done | rfl | (simp only [List.length_drop, List.length_take]; rfl)) ?_; (with_reducible refine (spec_OpValid.calls a0 false _ A5.out).mono ?_); rintro e w' ⟨rfl, ⟨nd, rfl⟩⟩; refine ⟨_, rfl, ?_⟩))
   go_meet
   case rel => exact ⟨_, (true), (by first | rfl | (simp; done) | (simp [*]; done)), H', ⟨by first | omega | exact Nat.le_refl _⟩, by repeat (first | exact Drawn0.refl _ | apply Drawn0.step)⟩
 case rest =>
  clear HC4
  try clear p2
  try clear c5
  try clear c6
  try clear c8
  obtain ⟨kq, x20_3, rfl, HA, HJ3, ⟨mc3, rfl⟩⟩ := hcut
  cases kq with
  | zero => exact absurd HA.out (by simp [spec_Apply.j0])
  | succ kj3 =>
   have H := HA.out
   clear HA
   simp only [spec_Apply.j0] at H
   by_cases c10 : x20_3 = true
   ·subst c10
    have H1 : (some (0, false)) = some (r1, r2) := by rw [if_pos rfl] at H; exact H
    clear H
    have H := H1
    clear H1
    simp only [Option.some.injEq, Prod.mk.injEq] at H
    obtain ⟨rfl, rfl⟩ := H
    go_wp2
    go_ret2
    exact ⟨by first | rfl | (simp; done) | (simp [*]; done), by repeat (first | exact Drawn0.refl _ | apply Drawn0.step)⟩
   ·replace c10 := Bool.eq_false_iff.mpr c10
    subst c10
    have H1 : (if a0 = 1 then (some (Go.bits .or .i64 a1 a2, true)) else (if a0 = 2 then (some (Go.bits .xor .i64 a1 a2, true)) else (if a0 = 3 then (some (Go.bits .and .i64 a1 a2, true)) else (if a0 = 4 then ((spec_l2Flag.f (a1 == a2)).bind fun t477 => (some (t477, true))) else (if a0 = 5 then ((spec_l2Flag.f (decide (a1 < a2))).bind fun t478 => (some (t478, true))) else (if a0 = 6 then ((spec_l2Shift.f a1 a2 false).bind fun t479 => (some (t479, true))) else (if a0 = 7 then ((spec_l2Shift.f a1 a2 true).bind fun t480 => (some (t480, true))) else (if a0 = 8 then ((spec_Wrap.f (wrap64 (a1 + a2))).bind fun t481 => (some (t481, true))) else (if a0 = 9 then ((spec_Wrap.f (wrap64 (a1 - a2))).bind fun t482 => (some (t482, true))) else (if a0 = 10 then ((spec_Wrap.f (wrap64 (a1 * a2))).bind fun t483 => (some (t483, true))) else (if a0 = 11 then ((spec_l2Divide.f a1 a2).bind fun t484 => (some (t484, true))) else ((spec_l2Remain.f a1 a2).bind fun t485 => (some (t485, true)))))))))))))) = some (r1, r2) := by rw [if_neg (show ¬ (false = true) by decide)] at H; exact H
    clear H
    have H := H1
    clear H1
    by_cases c11 : a0 = 1
    ·rw [if_pos c11] at H
     have c11b0 : (a0 == 1) = true := beq_iff_eq.mpr c11
     have c11b1 : (a0 != 1) = false := bne_eq_false_iff_eq.mpr c11
     clear c11
     simp only [Option.some.injEq, Prod.mk.injEq] at H
     obtain ⟨rfl, rfl⟩ := H
     go_wp2
     go_ret2
     exact ⟨by first | rfl | (simp; done) | (simp [*]; done), by repeat (first | exact Drawn0.refl _ | apply Drawn0.step)⟩
    ·rw [if_neg c11] at H
     have c11b0 : (a0 == 1) = false := beq_eq_false_iff_ne.mpr c11
     have c11b1 : (a0 != 1) = true := bne_iff_ne.mpr c11
     by_cases c12 : a0 = 2
     ·rw [if_pos c12] at H
      have c12b0 : (a0 == 2) = true := beq_iff_eq.mpr c12
      have c12b1 : (a0 != 2) = false := bne_eq_false_iff_eq.mpr c12
      clear c12
      simp only [Option.some.injEq, Prod.mk.injEq] at H
      obtain ⟨rfl, rfl⟩ := H
      go_wp2
      go_ret2
      exact ⟨by first | rfl | (simp; done) | (simp [*]; done), by repeat (first | exact Drawn0.refl _ | apply Drawn0.step)⟩
     ·rw [if_neg c12] at H
      have c12b0 : (a0 == 2) = false := beq_eq_false_iff_ne.mpr c12
      have c12b1 : (a0 != 2) = true := bne_iff_ne.mpr c12
      by_cases c13 : a0 = 3
      ·rw [if_pos c13] at H
       have c13b0 : (a0 == 3) = true := beq_iff_eq.mpr c13
       have c13b1 : (a0 != 3) = false := bne_eq_false_iff_eq.mpr c13
       clear c13
       simp only [Option.some.injEq, Prod.mk.injEq] at H
       obtain ⟨rfl, rfl⟩ := H
       go_wp2
       go_ret2
       exact ⟨by first | rfl | (simp; done) | (simp [*]; done), by repeat (first | exact Drawn0.refl _ | apply Drawn0.step)⟩
      ·rw [if_neg c13] at H
       have c13b0 : (a0 == 3) = false := beq_eq_false_iff_ne.mpr c13
       have c13b1 : (a0 != 3) = true := bne_iff_ne.mpr c13
       by_cases c14 : a0 = 4
       ·rw [if_pos c14] at H
        have c14b0 : (a0 == 4) = true := beq_iff_eq.mpr c14
        have c14b1 : (a0 != 4) = false := bne_eq_false_iff_eq.mpr c14
        clear c14
        replace H := X2 H
        obtain ⟨t477, A150, H⟩ := H
        replace H : (some (t477, true)) = some (r1, r2) := H
        have A15 := X1 A150
        clear A150
        simp only [Option.some.injEq, Prod.mk.injEq] at H
        obtain ⟨rfl, rfl⟩ := H
        go_wp2_with (first | ((with_reducible refine gate_callee (f := 61) rfl ?_); refine goesL_ (some 42) rfl rfl Try.func61 (by kernel_rfl) rfl #[.bool (a1 == a2)] rfl (by (try simp only [List.map_toArray, List.map_cons, List.map_nil]); first | done | rfl | (simp only [List.length_drop, List.length_take]; rfl)) ?_; (with_reducible refine (spec_l2Flag.calls (a1 == a2) t477 _ A15.out).mono ?_); rintro e w' ⟨rfl, ⟨nd, rfl⟩⟩; refine ⟨_, rfl, ?_⟩))
        go_ret2
        exact ⟨by first | rfl | (simp; done) | (simp [*]; done), by repeat (first | exact Drawn0.refl _ | apply Drawn0.step)⟩
       ·rw [if_neg c14] at H
        have c14b0 : (a0 == 4) = false := beq_eq_false_iff_ne.mpr c14
        have c14b1 : (a0 != 4) = true := bne_iff_ne.mpr c14
        by_cases c16 : a0 = 5
        ·rw [if_pos c16] at H
         have c16b0 : (a0 == 5) = true := beq_iff_eq.mpr c16
         have c16b1 : (a0 != 5) = false := bne_eq_false_iff_eq.mpr c16
         clear c16
         replace H := X2 H
         obtain ⟨t478, A170, H⟩ := H
         replace H : (some (t478, true)) = some (r1, r2) := H
         have A17 := X1 A170
         clear A170
         simp only [Option.some.injEq, Prod.mk.injEq] at H
         obtain ⟨rfl, rfl⟩ := H
         go_wp2_with (first | ((with_reducible refine gate_callee (f := 61) rfl ?_); refine goesL_ (some 48) rfl rfl Try.func61 (by kernel_rfl) rfl #[.bool (decide (a1 < a2))] rfl (by (try simp only [List.map_toArray, List.map_cons, List.map_nil]); first | done | rfl | (simp only [List.length_drop, List.length_take]; rfl)) ?_; (with_reducible refine (spec_l2Flag.calls (decide (a1 < a2)) t478 _ A17.out).mono ?_); rintro e w' ⟨rfl, ⟨nd, rfl⟩⟩; refine ⟨_, rfl, ?_⟩))
         go_ret2
         exact ⟨by first | rfl | (simp; done) | (simp [*]; done), by repeat (first | exact Drawn0.refl _ | apply Drawn0.step)⟩
        ·rw [if_neg c16] at H
         have c16b0 : (a0 == 5) = false := beq_eq_false_iff_ne.mpr c16
         have c16b1 : (a0 != 5) = true := bne_iff_ne.mpr c16
         by_cases c18 : a0 = 6
         ·rw [if_pos c18] at H
          have c18b0 : (a0 == 6) = true := beq_iff_eq.mpr c18
          have c18b1 : (a0 != 6) = false := bne_eq_false_iff_eq.mpr c18
          clear c18
          replace H := X2 H
          obtain ⟨t479, A190, H⟩ := H
          replace H : (some (t479, true)) = some (r1, r2) := H
          have A19 := X1 A190
          clear A190
          simp only [Option.some.injEq, Prod.mk.injEq] at H
          obtain ⟨rfl, rfl⟩ := H
          go_wp2_with (first | ((with_reducible refine gate_callee (f := 62) rfl ?_); refine goesL_ (some 53) rfl rfl Try.func62 (by kernel_rfl) rfl #[.int .i64 a1, .int .i64 a2, .bool false] rfl (by (try simp only [List.map_toArray, List.map_cons, List.map_nil]); first | done | rfl | (simp only [List.length_drop, List.length_take]; rfl)) ?_; (with_reducible refine (spec_l2Shift.calls a1 a2 false t479 _ A19.out).mono ?_); rintro e w' ⟨rfl, ⟨nd, rfl⟩⟩; refine ⟨_, rfl, ?_⟩))
          go_ret2
          exact ⟨by first | rfl | (simp; done) | (simp [*]; done), by repeat (first | exact Drawn0.refl _ | apply Drawn0.step)⟩
         ·rw [if_neg c18] at H
          have c18b0 : (a0 == 6) = false := beq_eq_false_iff_ne.mpr c18
          have c18b1 : (a0 != 6) = true := bne_iff_ne.mpr c18
          by_cases c20 : a0 = 7
          ·rw [if_pos c20] at H
           have c20b0 : (a0 == 7) = true := beq_iff_eq.mpr c20
           have c20b1 : (a0 != 7) = false := bne_eq_false_iff_eq.mpr c20
           clear c20
           replace H := X2 H
           obtain ⟨t480, A210, H⟩ := H
           replace H : (some (t480, true)) = some (r1, r2) := H
           have A21 := X1 A210
           clear A210
           simp only [Option.some.injEq, Prod.mk.injEq] at H
           obtain ⟨rfl, rfl⟩ := H
           go_wp2_with (first | ((with_reducible refine gate_callee (f := 62) rfl ?_); refine goesL_ (some 58) rfl rfl Try.func62 (by kernel_rfl) rfl #[.int .i64 a1, .int .i64 a2, .bool true] rfl (by (try simp only [List.map_toArray, List.map_cons, List.map_nil]); first | done | rfl | (simp only [List.length_drop, List.length_take]; rfl)) ?_; (with_reducible refine (spec_l2Shift.calls a1 a2 true t480 _ A21.out).mono ?_); rintro e w' ⟨rfl, ⟨nd, rfl⟩⟩; refine ⟨_, rfl, ?_⟩))
           go_ret2
           exact ⟨by first | rfl | (simp; done) | (simp [*]; done), by repeat (first | exact Drawn0.refl _ | apply Drawn0.step)⟩
          ·rw [if_neg c20] at H
           have c20b0 : (a0 == 7) = false := beq_eq_false_iff_ne.mpr c20
           have c20b1 : (a0 != 7) = true := bne_iff_ne.mpr c20
           by_cases c22 : a0 = 8
           ·rw [if_pos c22] at H
            have c22b0 : (a0 == 8) = true := beq_iff_eq.mpr c22
            have c22b1 : (a0 != 8) = false := bne_eq_false_iff_eq.mpr c22
            clear c22
            replace H := X2 H
            obtain ⟨t481, A230, H⟩ := H
            replace H : (some (t481, true)) = some (r1, r2) := H
            have A23 := X1 A230
            clear A230
            simp only [Option.some.injEq, Prod.mk.injEq] at H
            obtain ⟨rfl, rfl⟩ := H
            go_wp2_with (first | ((with_reducible refine gate_callee (f := 63) rfl ?_); refine goesL_ (some 64) rfl rfl Try.func63 (by kernel_rfl) rfl #[.int .i64 (wrap64 (a1 + a2))] rfl (by (try simp only [List.map_toArray, List.map_cons, List.map_nil]); first | done | rfl | (simp only [List.length_drop, List.length_take]; rfl)) ?_; (with_reducible refine (spec_Wrap.calls (wrap64 (a1 + a2)) t481 _ A23.out).mono ?_); rintro e w' ⟨rfl, ⟨nd, rfl⟩⟩; refine ⟨_, rfl, ?_⟩))
            go_ret2
            exact ⟨by first | rfl | (simp; done) | (simp [*]; done), by repeat (first | exact Drawn0.refl _ | apply Drawn0.step)⟩
           ·rw [if_neg c22] at H
            have c22b0 : (a0 == 8) = false := beq_eq_false_iff_ne.mpr c22
            have c22b1 : (a0 != 8) = true := bne_iff_ne.mpr c22
            by_cases c24 : a0 = 9
            ·rw [if_pos c24] at H
             have c24b0 : (a0 == 9) = true := beq_iff_eq.mpr c24
             have c24b1 : (a0 != 9) = false := bne_eq_false_iff_eq.mpr c24
             clear c24
             replace H := X2 H
             obtain ⟨t482, A250, H⟩ := H
             replace H : (some (t482, true)) = some (r1, r2) := H
             have A25 := X1 A250
             clear A250
             simp only [Option.some.injEq, Prod.mk.injEq] at H
             obtain ⟨rfl, rfl⟩ := H
             go_wp2_with (first | ((with_reducible refine gate_callee (f := 63) rfl ?_); refine goesL_ (some 70) rfl rfl Try.func63 (by kernel_rfl) rfl #[.int .i64 (wrap64 (a1 - a2))] rfl (by (try simp only [List.map_toArray, List.map_cons, List.map_nil]); first | done | rfl | (simp only [List.length_drop, List.length_take]; rfl)) ?_; (with_reducible refine (spec_Wrap.calls (wrap64 (a1 - a2)) t482 _ A25.out).mono ?_); rintro e w' ⟨rfl, ⟨nd, rfl⟩⟩; refine ⟨_, rfl, ?_⟩))
             go_ret2
             exact ⟨by first | rfl | (simp; done) | (simp [*]; done), by repeat (first | exact Drawn0.refl _ | apply Drawn0.step)⟩
            ·rw [if_neg c24] at H
             have c24b0 : (a0 == 9) = false := beq_eq_false_iff_ne.mpr c24
             have c24b1 : (a0 != 9) = true := bne_iff_ne.mpr c24
             by_cases c26 : a0 = 10
             ·rw [if_pos c26] at H
              have c26b0 : (a0 == 10) = true := beq_iff_eq.mpr c26
              have c26b1 : (a0 != 10) = false := bne_eq_false_iff_eq.mpr c26
              clear c26
              replace H := X2 H
              obtain ⟨t483, A270, H⟩ := H
              replace H : (some (t483, true)) = some (r1, r2) := H
              have A27 := X1 A270
              clear A270
              simp only [Option.some.injEq, Prod.mk.injEq] at H
              obtain ⟨rfl, rfl⟩ := H
              go_wp2_with (first | ((with_reducible refine gate_callee (f := 63) rfl ?_); refine goesL_ (some 76) rfl rfl Try.func63 (by kernel_rfl) rfl #[.int .i64 (wrap64 (a1 * a2))] rfl (by (try simp only [List.map_toArray, List.map_cons, List.map_nil]); first | done | rfl | (simp only [List.length_drop, List.length_take]; rfl)) ?_; (with_reducible refine (spec_Wrap.calls (wrap64 (a1 * a2)) t483 _ A27.out).mono ?_); rintro e w' ⟨rfl, ⟨nd, rfl⟩⟩; refine ⟨_, rfl, ?_⟩))
              go_ret2
              exact ⟨by first | rfl | (simp; done) | (simp [*]; done), by repeat (first | exact Drawn0.refl _ | apply Drawn0.step)⟩
             ·rw [if_neg c26] at H
              have c26b0 : (a0 == 10) = false := beq_eq_false_iff_ne.mpr c26
              have c26b1 : (a0 != 10) = true := bne_iff_ne.mpr c26
              by_cases c28 : a0 = 11
              ·rw [if_pos c28] at H
               have c28b0 : (a0 == 11) = true := beq_iff_eq.mpr c28
               have c28b1 : (a0 != 11) = false := bne_eq_false_iff_eq.mpr c28
               clear c28
               replace H := X2 H
               obtain ⟨t484, A290, H⟩ := H
               replace H : (some (t484, true)) = some (r1, r2) := H
               have A29 := X1 A290
               clear A290
               simp only [Option.some.injEq, Prod.mk.injEq] at H
               obtain ⟨rfl, rfl⟩ := H
               go_wp2_with (first | ((with_reducible refine gate_callee (f := 64) rfl ?_); refine goesL_ (some 81) rfl rfl Try.func64 (by kernel_rfl) rfl #[.int .i64 a1, .int .i64 a2] rfl (by (try simp only [List.map_toArray, List.map_cons, List.map_nil]); first | done | rfl | (simp only [List.length_drop, List.length_take]; rfl)) ?_; (with_reducible refine (spec_l2Divide.calls a1 a2 t484 _ A29.out).mono ?_); rintro e w' ⟨rfl, ⟨nd, rfl⟩⟩; refine ⟨_, rfl, ?_⟩))
               go_ret2
               exact ⟨by first | rfl | (simp; done) | (simp [*]; done), by repeat (first | exact Drawn0.refl _ | apply Drawn0.step)⟩
              ·rw [if_neg c28] at H
               have c28b0 : (a0 == 11) = false := beq_eq_false_iff_ne.mpr c28
               have c28b1 : (a0 != 11) = true := bne_iff_ne.mpr c28
               replace H := X2 H
               obtain ⟨t485, A300, H⟩ := H
               replace H : (some (t485, true)) = some (r1, r2) := H
               have A30 := X1 A300
               clear A300
               simp only [Option.some.injEq, Prod.mk.injEq] at H
               obtain ⟨rfl, rfl⟩ := H
               go_wp2_with (first | ((with_reducible refine gate_callee (f := 65) rfl ?_); refine goesL_ (some 84) rfl rfl Try.func65 (by kernel_rfl) rfl #[.int .i64 a1, .int .i64 a2] rfl (by (try simp only [List.map_toArray, List.map_cons, List.map_nil]); first | done | rfl | (simp only [List.length_drop, List.length_take]; rfl)) ?_; (with_reducible refine (spec_l2Remain.calls a1 a2 t485 _ A30.out).mono ?_); rintro e w' ⟨rfl, ⟨nd, rfl⟩⟩; refine ⟨_, rfl, ?_⟩))
               go_ret2
               exact ⟨by first | rfl | (simp; done) | (simp [*]; done), by repeat (first | exact Drawn0.refl _ | apply Drawn0.step)⟩

end Go.Proofs.Ytjohbglkocgdjaa.Q
