/- Written for this claim by the kit's print program, over contracts that are this seat's own (): not the print's own text. -/
import Derived.Test.YtjohbglkocgdjaaZQx0
import Derived.Test.YtjohbglkocgdjaaZQx8
import Derived.Test.YtjohbglkocgdjaaZQx9b
import Derived.Test.YtjohbglkocgdjaaZQx10
import Derived.Test.YtjohbglkocgdjaaZQx11
import Derived.Test.YtjohbglkocgdjaaZQx12
namespace Go.Proofs.Ytjohbglkocgdjaa.Q
open Go.RowKit Go.Proofs.YtjohbglkocgdjaaW.PrintWords Go.Proofs.YtjohbglkocgdjaaW.PrintLast Go.Proofs.YtjohbglkocgdjaaW.PrintMore
attribute [local go_sem] max2_int min2_int max_two min_two max_three min_three max_four min_four   -- for this text's walks alone
set_option linter.unusedVariables false
set_option linter.unusedSimpArgs false

/-! ### laws_FnFoldParts: function 10 -/
mutual
def laws_FnFoldParts.j0 : Nat → Bool → Bool → Bool → Int → Int → List (S29) → Int → Int → List (S29) → Int → Int → List (S29) → Option (Bool)
 | 0, _, _, _, _, _, _, _, _, _, _, _, _ => none
 | k + 1, x5, x7, x42, x432000, x432001, x432002, x439000, x439001, x439002, x446000, x446001, x446002 => if x42 = true then (if (x5 == x7) = true then ((laws_sameExpr.f k x439000 x439001 x439002 x446000 x446001 x446002).bind fun t447 => (some t447)) else (none)) else (if (x439002.length : Int) = 0 then (some true) else (if 0 < (x432002.length : Int) then ((impl_ExprFold.f k ((rd_T29 x432002 0).f0) ((rd_T29 x432002 0).f1) ((rd_T29 x432002 0).f2)).bind fun bt449 => (if 1 < (x432002.length : Int) then ((impl_ExprFold.f k ((rd_T29 x432002 1).f0) ((rd_T29 x432002 1).f1) ((rd_T29 x432002 1).f2)).bind fun bt457 => ((impl_Apply.f x439000 bt449.2.1 bt457.2.1).bind fun bt464 => (if bt449.1 = 0 then (if bt457.1 = 0 then (if bt464.2 = true then (if bt464.1 ≥ 0 then (laws_FnFoldParts.j1 k bt449.2.2.2 bt457.2.2.2 (decide (bt464.1 ≤ 99999)) x432000 x432001 x432002 x439000 x439001 x439002 bt449.1 bt449.2.1 bt449.2.2.1 bt457.1 bt457.2.1 bt457.2.2.1) else (laws_FnFoldParts.j1 k bt449.2.2.2 bt457.2.2.2 false x432000 x432001 x432002 x439000 x439001 x439002 bt449.1 bt449.2.1 bt449.2.2.1 bt457.1 bt457.2.1 bt457.2.2.1)) else (laws_FnFoldParts.j1 k bt449.2.2.2 bt457.2.2.2 false x432000 x432001 x432002 x439000 x439001 x439002 bt449.1 bt449.2.1 bt449.2.2.1 bt457.1 bt457.2.1 bt457.2.2.1)) else (laws_FnFoldParts.j1 k bt449.2.2.2 bt457.2.2.2 false x432000 x432001 x432002 x439000 x439001 x439002 bt449.1 bt449.2.1 bt449.2.2.1 bt457.1 bt457.2.1 bt457.2.2.1)) else (laws_FnFoldParts.j1 k bt449.2.2.2 bt457.2.2.2 false x432000 x432001 x432002 x439000 x439001 x439002 bt449.1 bt449.2.1 bt449.2.2.1 bt457.1 bt457.2.1 bt457.2.2.1)))) else (none))) else (none)))
def laws_FnFoldParts.j1 : Nat → Bool → Bool → Bool → Int → Int → List (S29) → Int → Int → List (S29) → Int → Int → List (S29) → Int → Int → List (S29) → Option (Bool)
 | 0, _, _, _, _, _, _, _, _, _, _, _, _, _, _, _ => none
 | k + 1, x9, x11, x14, x432000, x432001, x432002, x439000, x439001, x439002, x456000, x456001, x456002, x464000, x464001, x464002 => if x9 = true then (if x11 = true then (if x439000 = x432000 then (if 0 < (x439002.length : Int) then ((laws_sameExpr.f k x456000 x456001 x456002 ((rd_T29 x439002 0).f0) ((rd_T29 x439002 0).f1) ((rd_T29 x439002 0).f2)).bind fun t467 => (if t467 = true then (if 1 < (x439002.length : Int) then ((laws_sameExpr.f k x464000 x464001 x464002 ((rd_T29 x439002 1).f0) ((rd_T29 x439002 1).f1) ((rd_T29 x439002 1).f2)).bind fun t469 => (if t469 = true then (some (!x14)) else (none))) else (none)) else (none))) else (none)) else (none)) else (none)) else (none)
end
def laws_FnFoldParts.f (k : Nat) (l0 : List Int) : Option (Bool) := if (l0.length : Int) > 1048576 then (some true) else ((spec_DrawExprFold.f k l0).bind fun bt426 => ((impl_ExprFold.f k bt426.1 bt426.2.1 bt426.2.2).bind fun bt432 => ((spec_ExprFold.f k bt426.1 bt426.2.1 bt426.2.2).bind fun bt439 => (if (bt432.2.2.2 != bt439.2.2.2) = true then (laws_FnFoldParts.j0 k bt432.2.2.2 bt439.2.2.2 true bt426.1 bt426.2.1 bt426.2.2 bt432.1 bt432.2.1 bt432.2.2.1 bt439.1 bt439.2.1 bt439.2.2.1) else ((laws_sameExpr.f k bt432.1 bt432.2.1 bt432.2.2.1 bt439.1 bt439.2.1 bt439.2.2.1).bind fun t446 => (if t446 = true then (laws_FnFoldParts.j0 k bt432.2.2.2 bt439.2.2.2 (!bt432.2.2.2) bt426.1 bt426.2.1 bt426.2.2 bt432.1 bt432.2.1 bt432.2.2.1 bt439.1 bt439.2.1 bt439.2.2.1) else (laws_FnFoldParts.j0 k bt432.2.2.2 bt439.2.2.2 true bt426.1 bt426.2.1 bt426.2.2 bt432.1 bt432.2.1 bt432.2.2.1 bt439.1 bt439.2.1 bt439.2.2.1)))))))
def laws_FnFoldParts.T14 : Bool × List (List Nat × List Nat) := (true, [([], []), ([0], [0]), ([1], [1]), ([1, 2], [1, 2]), ([3, 1], [3]), ([4], [4]), ([5, 4], [4, 5]), ([4], [4]), ([7, 4], [4, 7]), ([6, 8, 4], [4, 6, 8]), ([4, 9], [4, 9]), ([10, 4], [10]), ([11], [11]), ([11], [11]), ([13, 11], [11, 13]), ([14, 11], [11, 14]), ([15, 11], [11, 15]), ([12, 16, 11, 11], [11, 12, 16]), ([11, 17], [11, 17]), ([18, 17], [18]), ([19], [19]), ([19], [19]), ([21, 19], [19, 21]), ([22, 19], [19, 22]), ([23, 19], [19, 23]), ([20, 24, 19, 19], [19, 20, 24]), ([19, 25], [19, 25]), ([26, 25], [26]), ([27], [27]), ([28, 27], [27, 28]), ([27, 29], [27, 29]), ([30, 27, 0, 1, 2, 3, 4, 5, 6, 7, 8, 9, 10, 11, 12, 13, 14, 15, 16, 17, 18, 19, 20, 21, 22, 23, 24, 25, 26, 27, 28, 29, 30], [30])])
def laws_FnFoldParts.B14 : List Nat := [0, 1, 3, 7, 15, 31, 63, 31, 159, 511, 1023, 2047, 4095, 4095, 12287, 28671, 61439, 131071, 262143, 524287, 1048575, 1048575, 3145727, 7340031, 15728639, 33554431, 67108863, 134217727, 268435455, 536870911, 1073741823, 2147483647]
theorem laws_FnFoldParts.tab14 : rtab .any (opsOf Try.f10 14) = laws_FnFoldParts.T14 := by kernel_rfl
theorem laws_FnFoldParts.bits14 : waitsOk laws_FnFoldParts.T14.2 laws_FnFoldParts.B14 = true := by kernel_rfl
set_option maxHeartbeats 8000000 in
set_option maxRecDepth 100000 in
theorem laws_FnFoldParts.calls (k : Nat) (A0 : Option Addr) (c0 : Nat) (l0 : List Int) (r : Bool) (w : World) (hr0 : Kd.C (Kd.int .u8) w A0 l0.length l0) (hc0 : l0.length ≤ c0) (h : laws_FnFoldParts.f k l0 = some r) :
  Calls Try.prog 10 #[.slice A0 l0.length c0] w fun e w' => e = .returned (.bool r) ∧ Below w.heap.size w w' := by
 have hu29 := Try.underlying29
 have HR0 := X1 hr0
 have HC0 := X1 hc0
 clear hr0 hc0
 have HB := X1 (Below.refl w.heap.size w)
 have H : (if (l0.length : Int) > 1048576 then (some true) else ((spec_DrawExprFold.f k l0).bind fun bt426 => ((impl_ExprFold.f k bt426.1 bt426.2.1 bt426.2.2).bind fun bt432 => ((spec_ExprFold.f k bt426.1 bt426.2.1 bt426.2.2).bind fun bt439 => (if (bt432.2.2.2 != bt439.2.2.2) = true then (laws_FnFoldParts.j0 k bt432.2.2.2 bt439.2.2.2 true bt426.1 bt426.2.1 bt426.2.2 bt432.1 bt432.2.1 bt432.2.2.1 bt439.1 bt439.2.1 bt439.2.2.1) else ((laws_sameExpr.f k bt432.1 bt432.2.1 bt432.2.2.1 bt439.1 bt439.2.1 bt439.2.2.1).bind fun t446 => (if t446 = true then (laws_FnFoldParts.j0 k bt432.2.2.2 bt439.2.2.2 (!bt432.2.2.2) bt426.1 bt426.2.1 bt426.2.2 bt432.1 bt432.2.1 bt432.2.2.1 bt439.1 bt439.2.1 bt439.2.2.1) else (laws_FnFoldParts.j0 k bt432.2.2.2 bt439.2.2.2 true bt426.1 bt426.2.1 bt426.2.2 bt432.1 bt432.2.1 bt432.2.2.1 bt439.1 bt439.2.1 bt439.2.2.1)))))))) = some r := h
 clear h
 by_cases c2 : (l0.length : Int) > 1048576
 ·rw [if_pos c2] at H
  have c2b0 : decide (1048576 < (l0.length : Int)) = true := decide_eq_true c2
  have c2b1 : decide (1048576 < l0.length) = true := decide_eq_true (by omega)
  clear c2
  obtain rfl := Option.some.inj H
  go_enter Try.func10, Try.ntmps10
  go_wp2
  go_ret
  exact ⟨by first | rfl | (simp [errW_none, errW_some] <;> rfl) | (simp [*, errW_none, errW_some] <;> rfl), by repeat (first | (with_reducible first | exact HB.out | apply X5 | apply X4 | apply X3) | exact HB.out)⟩
 ·rw [if_neg c2] at H
  have c2b0 : decide (1048576 < (l0.length : Int)) = false := decide_eq_false c2
  have c2b1 : decide (1048576 < l0.length) = false := decide_eq_false (by omega)
  clear c2
  replace H := X2 H
  obtain ⟨⟨t426, t427, t428⟩, A30, H⟩ := H
  replace H : ((impl_ExprFold.f k t426 t427 t428).bind fun bt432 => ((spec_ExprFold.f k t426 t427 t428).bind fun bt439 => (if (bt432.2.2.2 != bt439.2.2.2) = true then (laws_FnFoldParts.j0 k bt432.2.2.2 bt439.2.2.2 true t426 t427 t428 bt432.1 bt432.2.1 bt432.2.2.1 bt439.1 bt439.2.1 bt439.2.2.1) else ((laws_sameExpr.f k bt432.1 bt432.2.1 bt432.2.2.1 bt439.1 bt439.2.1 bt439.2.2.1).bind fun t446 => (if t446 = true then (laws_FnFoldParts.j0 k bt432.2.2.2 bt439.2.2.2 (!bt432.2.2.2) t426 t427 t428 bt432.1 bt432.2.1 bt432.2.2.1 bt439.1 bt439.2.1 bt439.2.2.1) else (laws_FnFoldParts.j0 k bt432.2.2.2 bt439.2.2.2 true t426 t427 t428 bt432.1 bt432.2.1 bt432.2.2.1 bt439.1 bt439.2.1 bt439.2.2.1)))))) = some r := H
  have A3 := X1 A30
  clear A30
  replace H := X2 H
  obtain ⟨⟨t432, t433, t434, t437⟩, A40, H⟩ := H
  replace H : ((spec_ExprFold.f k t426 t427 t428).bind fun bt439 => (if (t437 != bt439.2.2.2) = true then (laws_FnFoldParts.j0 k t437 bt439.2.2.2 true t426 t427 t428 t432 t433 t434 bt439.1 bt439.2.1 bt439.2.2.1) else ((laws_sameExpr.f k t432 t433 t434 bt439.1 bt439.2.1 bt439.2.2.1).bind fun t446 => (if t446 = true then (laws_FnFoldParts.j0 k t437 bt439.2.2.2 (!t437) t426 t427 t428 t432 t433 t434 bt439.1 bt439.2.1 bt439.2.2.1) else (laws_FnFoldParts.j0 k t437 bt439.2.2.2 true t426 t427 t428 t432 t433 t434 bt439.1 bt439.2.1 bt439.2.2.1))))) = some r := H
  have A4 := X1 A40
  clear A40
  replace H := X2 H
  obtain ⟨⟨t439, t440, t441, t444⟩, A50, H⟩ := H
  replace H : (if (t437 != t444) = true then (laws_FnFoldParts.j0 k t437 t444 true t426 t427 t428 t432 t433 t434 t439 t440 t441) else ((laws_sameExpr.f k t432 t433 t434 t439 t440 t441).bind fun t446 => (if t446 = true then (laws_FnFoldParts.j0 k t437 t444 (!t437) t426 t427 t428 t432 t433 t434 t439 t440 t441) else (laws_FnFoldParts.j0 k t437 t444 true t426 t427 t428 t432 t433 t434 t439 t440 t441)))) = some r := H
  have A5 := X1 A50
  clear A50
  have HC6 := X1 H
  clear H
  go_enter Try.func10, Try.ntmps10
  go_upto_region 6 with (first | ((with_reducible refine gate_callee (f := 26) rfl ?_); refine goesL_ (some 19) rfl rfl Try.func26 (by kernel_rfl) rfl #[.slice A0 l0.length c0] rfl (by (try simp only [List.map_toArray, List.map_cons, List.map_nil]); first | done | rfl | (simp only [List.length_drop, List.length_take]; rfl)) ?_; (with_reducible refine (spec_DrawExprFold.calls k _ _ l0 t426 t427 t428 _ ?side1 ?side2 A3.out).mono ?_); (case side1 => repeat (first | exact HR0.out | (with_reducible refine Kd.C_alloc ?_ _) | (with_reducible refine Kd.C_drewN ?_ _) | (with_reducible refine Kd.C_drew ?_))); (case side2 => exact HC0.out); rintro e w7 ⟨v429, rfl, ho0, hb⟩; refine ⟨_, rfl, ?_⟩; have n0_ := X1 (Kd.N_lower (Kd.N_mono (ok' := fun k_ => True) ho0 (fun k_ hk_ => trivial)) (below_size (by repeat (first | (with_reducible first | exact HB.out | apply X5 | apply X4 | apply X3) | exact HB.out)))); have n1_ := X1 (below_step (by repeat (first | (with_reducible first | exact HB.out | apply X5 | apply X4 | apply X3) | exact HB.out)) hb); clear HB; have HO430 := n0_; have HB := n1_; clear n0_ n1_; (try clear hb); (try clear hb2); (try clear hk); (try clear hi); (try clear ho0)) | ((with_reducible refine gate_dst (N := 3) rfl ?_); refine box_event ?hg (N := 3) ?hd (cs := #[.int .i64 0, .int .i64 0, .slice none 0 0]) (t := 29) ?hr ?_; (case hd => rfl); (case hg => rfl); (case hr => first | (go_simp; done) | (go_simp; rfl)); intro gb431 hg w8 hbox hb; have n0_ := X1 (Kd.N_below (Kd.N_elderB (by (with_reducible repeat (first | apply Kd.N_alloc | apply Kd.N_drewN | apply Kd.N_drew)); exact HO430.out) gb431 (Nat.le_of_eq hg.symm)) hb); have n1_ := X1 (below_step (by repeat (first | (with_reducible first | exact HB.out | apply X5 | apply X4 | apply X3) | exact HB.out)) hb); have n2_ := X1 (hbox); have n3_ := X1 ((by rw [hg]; exact (below_size (by repeat (first | (with_reducible first | exact HB.out | apply X5 | apply X4 | apply X3) | exact HB.out))) : w.heap.size ≤ gb431)); have n4_ := X1 ((by rw [hg]; exact (below_size (by repeat (first | (with_reducible first | exact HB.out | apply X5 | apply X4 | apply X3) | exact HB.out))) : w.heap.size ≤ gb431)); clear HO430; clear HB; have HO430 := n0_; have HB := n1_; have BK431 := n2_; have GW431 := n3_; have GE431 := n4_; clear n0_ n1_ n2_ n3_ n4_; clear hb hbox hg; have hcz9_0 : w8.cell? ⟨gb431, 0, none⟩ = some (.int .i64 0) := (X11 BK431.out 0).trans rfl; have hcz9_1 : w8.cell? ⟨gb431, 1, none⟩ = some (.int .i64 0) := (X11 BK431.out 1).trans rfl; have hcz9_2 : w8.cell? ⟨gb431, 2, none⟩ = some (.slice none 0 0) := (X11 BK431.out 2).trans rfl; have hfz9_0 := X12 BK431.out 0; have hfz9_1 := X12 BK431.out 1; have hfz9_2 := X12 BK431.out 2; obtain ⟨Ao10, co10, eo10⟩ := Kd.N_slice HO430.out; subst eo10) | ((with_reducible refine gate_callee (f := 27) rfl ?_); refine goesL_ (some 22) rfl rfl Try.func27 (by kernel_rfl) rfl #[.agg #[.int .i64 t426, .int .i64 t427, .slice Ao10 t428.length co10]] rfl (by (try simp only [List.map_toArray, List.map_cons, List.map_nil]); first | done | rfl | (simp only [List.length_drop, List.length_take]; rfl)) ?_; (with_reducible refine (impl_ExprFold.calls k t426 t427 _ _ t428 t432 t433 t434 t437 _ ?side1 ?side2 A4.out).mono ?_); (case side1 => refine (Kd.N_reads' (e := 29) (base := w.heap.size) (ok := fun k_ => (True ∧ k_ ≠ gb431)) (n := t428.length) (c := co10) ?_).2.2; exact (by (with_reducible repeat (first | apply Kd.N_alloc | apply Kd.N_drewN | apply Kd.N_drew)); exact (Kd.N_mono (Kd.N_far (p := ⟨gb431, 2, none⟩) (Kd.N_far (p := ⟨gb431, 1, none⟩) (Kd.N_far (p := ⟨gb431, 0, none⟩) (Kd.N_mono HO430.out (fun k_ hk => (⟨hk, hk.2⟩ : _ ∧ k_ ≠ gb431))) (fun _ hk => hk.2) (.int .i64 t426)) (fun _ hk => hk.2) (.int .i64 t427)) (fun _ hk => hk.2) (.slice Ao10 t428.length co10)) (fun _ h_ => h_.1)))); (case side2 => exact (Kd.N_reads' HO430.out).2.1); rintro e w11 ⟨v435, rfl, ho0, hb⟩; refine ⟨_, rfl, ?_⟩; have n0_ := X1 (Kd.N_elder' (by (with_reducible repeat (first | apply Kd.N_alloc | apply Kd.N_drewN | apply Kd.N_drew)); exact (Kd.N_mono (Kd.N_far (p := ⟨gb431, 2, none⟩) (Kd.N_far (p := ⟨gb431, 1, none⟩) (Kd.N_far (p := ⟨gb431, 0, none⟩) (Kd.N_mono HO430.out (fun k_ hk => (⟨hk, hk.2⟩ : _ ∧ k_ ≠ gb431))) (fun _ hk => hk.2) (.int .i64 t426)) (fun _ hk => hk.2) (.int .i64 t427)) (fun _ hk => hk.2) (.slice Ao10 t428.length co10)) (fun _ h_ => h_.1))) (Kd.N_base ho0) hb); have n1_ := X1 (Kd.N_lower (Kd.N_mono (ok' := fun k_ => some k_ ≠ (.slice Ao10 t428.length co10 : Value).ownBlock ∧ k_ ≠ gb431) ho0 (fun k_ hk_ => ⟨(Kd.fresh' (Kd.N_lt (by (with_reducible repeat (first | apply Kd.N_alloc | apply Kd.N_drewN | apply Kd.N_drew)); exact (Kd.N_mono (Kd.N_far (p := ⟨gb431, 2, none⟩) (Kd.N_far (p := ⟨gb431, 1, none⟩) (Kd.N_far (p := ⟨gb431, 0, none⟩) (Kd.N_mono HO430.out (fun k_ hk => (⟨hk, hk.2⟩ : _ ∧ k_ ≠ gb431))) (fun _ hk => hk.2) (.int .i64 t426)) (fun _ hk => hk.2) (.int .i64 t427)) (fun _ hk => hk.2) (.slice Ao10 t428.length co10)) (fun _ h_ => h_.1)))) k_ hk_), (Kd.freshB (g := gb431) (o := .cells #[.int .i64 t426, .int .i64 t427, .slice Ao10 t428.length co10] 29 (0, 0)) (by (with_reducible repeat (first | refine X7 ?_ _ | refine X8 ?_ | refine X6 ?_ _)); refine blk_put (cs := #[.int .i64 t426, .int .i64 t427, .slice none 0 0]) ?_ 2 _ rfl; (with_reducible repeat (first | refine X7 ?_ _ | refine X8 ?_ | refine X6 ?_ _)); refine blk_put (cs := #[.int .i64 t426, .int .i64 0, .slice none 0 0]) ?_ 1 _ rfl; (with_reducible repeat (first | refine X7 ?_ _ | refine X8 ?_ | refine X6 ?_ _)); refine blk_put (cs := #[.int .i64 0, .int .i64 0, .slice none 0 0]) ?_ 0 _ rfl; (with_reducible repeat (first | refine X7 ?_ _ | refine X8 ?_ | refine X6 ?_ _)); exact BK431.out) k_ hk_)⟩)) (below_size (by repeat (first | (with_reducible first | exact HB.out | apply X5 | apply X4 | apply X3 | refine X10 ?_ GE431.out) | exact HB.out)))); have n2_ := X1 (blk_below (g := gb431) (o := .cells #[.int .i64 t426, .int .i64 t427, .slice Ao10 t428.length co10] 29 (0, 0)) (by (with_reducible repeat (first | refine X7 ?_ _ | refine X8 ?_ | refine X6 ?_ _)); refine blk_put (cs := #[.int .i64 t426, .int .i64 t427, .slice none 0 0]) ?_ 2 _ rfl; (with_reducible repeat (first | refine X7 ?_ _ | refine X8 ?_ | refine X6 ?_ _)); refine blk_put (cs := #[.int .i64 t426, .int .i64 0, .slice none 0 0]) ?_ 1 _ rfl; (with_reducible repeat (first | refine X7 ?_ _ | refine X8 ?_ | refine X6 ?_ _)); refine blk_put (cs := #[.int .i64 0, .int .i64 0, .slice none 0 0]) ?_ 0 _ rfl; (with_reducible repeat (first | refine X7 ?_ _ | refine X8 ?_ | refine X6 ?_ _)); exact BK431.out) hb); have n3_ := X1 (below_step (by repeat (first | (with_reducible first | exact HB.out | apply X5 | apply X4 | apply X3 | refine X10 ?_ GE431.out) | exact HB.out)) hb); clear HO430; clear BK431; clear HB; have HO430 := n0_; have HO436 := n1_; have BK431 := n2_; have HB := n3_; clear n0_ n1_ n2_ n3_; (try clear hb); (try clear hb2); (try clear hk); (try clear hi); (try clear ho0)) | ((with_reducible refine gate_dst (N := 4) rfl ?_); refine box_event ?hg (N := 4) ?hd (cs := #[.int .i64 0, .int .i64 0, .slice none 0 0]) (t := 29) ?hr ?_; (case hd => rfl); (case hg => rfl); (case hr => first | (go_simp; done) | (go_simp; rfl)); intro gb438 hg w12 hbox hb; have n0_ := X1 (Kd.N_below (Kd.N_elderB (by (with_reducible repeat (first | apply Kd.N_alloc | apply Kd.N_drewN | apply Kd.N_drew)); exact HO430.out) gb438 (Nat.le_of_eq hg.symm)) hb); have n1_ := X1 (Kd.N_below (Kd.N_elderB (by (with_reducible repeat (first | apply Kd.N_alloc | apply Kd.N_drewN | apply Kd.N_drew)); exact HO436.out) gb438 (Nat.le_of_eq hg.symm)) hb); have n2_ := X1 (blk_below (g := gb431) (o := .cells #[.int .i64 t426, .int .i64 t427, .slice Ao10 t428.length co10] 29 (0, 0)) (by (with_reducible repeat (first | refine X7 ?_ _ | refine X8 ?_ | refine X6 ?_ _)); exact BK431.out) hb); have n3_ := X1 (below_step (by repeat (first | (with_reducible first | exact HB.out | apply X5 | apply X4 | apply X3 | refine X10 ?_ GE431.out) | exact HB.out)) hb); have n4_ := X1 (hbox); have n5_ := X1 ((by rw [hg]; exact (below_size (by repeat (first | (with_reducible first | exact HB.out | apply X5 | apply X4 | apply X3 | refine X10 ?_ GE431.out) | exact HB.out))) : w.heap.size ≤ gb438)); have n6_ := X1 ((by rw [hg]; exact (below_size (by repeat (first | (with_reducible first | exact HB.out | apply X5 | apply X4 | apply X3 | refine X10 ?_ GE431.out) | exact HB.out))) : w.heap.size ≤ gb438)); have n7_ := X1 ((by rw [hg]; exact Nat.ne_of_lt (blk_lt (g := gb431) (o := .cells #[.int .i64 t426, .int .i64 t427, .slice Ao10 t428.length co10] 29 (0, 0)) (by (with_reducible repeat (first | refine X7 ?_ _ | refine X8 ?_ | refine X6 ?_ _)); exact BK431.out)) : gb431 ≠ gb438)); have n8_ := X1 ((by rw [hg]; exact Nat.ne_of_gt (blk_lt (g := gb431) (o := .cells #[.int .i64 t426, .int .i64 t427, .slice Ao10 t428.length co10] 29 (0, 0)) (by (with_reducible repeat (first | refine X7 ?_ _ | refine X8 ?_ | refine X6 ?_ _)); exact BK431.out)) : gb438 ≠ gb431)); clear HO430; clear HO436; clear BK431; clear HB; have HO430 := n0_; have HO436 := n1_; have BK431 := n2_; have HB := n3_; have BK438 := n4_; have GW438 := n5_; have GE438 := n6_; have NB431_438 := n7_; have NB438_431 := n8_; clear n0_ n1_ n2_ n3_ n4_ n5_ n6_ n7_ n8_; clear hb hbox hg; have hnb13 := NB438_431.out; have hnc13 := NB431_438.out; have hcz14_0 : w12.cell? ⟨gb438, 0, none⟩ = some (.int .i64 0) := (X11 BK438.out 0).trans rfl; have hcz14_1 : w12.cell? ⟨gb438, 1, none⟩ = some (.int .i64 0) := (X11 BK438.out 1).trans rfl; have hcz14_2 : w12.cell? ⟨gb438, 2, none⟩ = some (.slice none 0 0) := (X11 BK438.out 2).trans rfl; have hfz14_0 := X12 BK438.out 0; have hfz14_1 := X12 BK438.out 1; have hfz14_2 := X12 BK438.out 2; obtain ⟨Ao15, co15, eo15⟩ := Kd.N_slice HO436.out; subst eo15; have hcz16_0 : w12.cell? ⟨gb431, 0, none⟩ = some (.int .i64 t426) := (X11 BK431.out 0).trans rfl; have hcz16_1 : w12.cell? ⟨gb431, 1, none⟩ = some (.int .i64 t427) := (X11 BK431.out 1).trans rfl; have hcz16_2 : w12.cell? ⟨gb431, 2, none⟩ = some (.slice Ao10 t428.length co10) := (X11 BK431.out 2).trans rfl; have hfz16_0 := X12 BK431.out 0; have hfz16_1 := X12 BK431.out 1; have hfz16_2 := X12 BK431.out 2) | ((with_reducible refine gate_callee (f := 28) rfl ?_); refine goesL_ (some 27) rfl rfl Try.func28 (by kernel_rfl) rfl #[.agg #[.int .i64 t426, .int .i64 t427, .slice Ao10 t428.length co10]] rfl (by (try simp only [List.map_toArray, List.map_cons, List.map_nil]); first | done | rfl | (simp only [List.length_drop, List.length_take]; rfl)) ?_; (with_reducible refine (spec_ExprFold.calls k t426 t427 _ _ t428 t439 t440 t441 t444 _ ?side1 ?side2 A5.out).mono ?_); (case side1 => refine (Kd.N_reads' (e := 29) (base := w.heap.size) (ok := fun k_ => (((True ∧ k_ ≠ gb431) ∧ some k_ ≠ (.slice Ao15 t434.length co15 : Value).ownBlock) ∧ k_ ≠ gb438)) (n := t428.length) (c := co10) ?_).2.2; exact (by (with_reducible repeat (first | apply Kd.N_alloc | apply Kd.N_drewN | apply Kd.N_drew)); exact (Kd.N_mono (Kd.N_far (p := ⟨gb438, 2, none⟩) (Kd.N_far (p := ⟨gb438, 1, none⟩) (Kd.N_far (p := ⟨gb438, 0, none⟩) (Kd.N_mono HO430.out (fun k_ hk => (⟨hk, hk.2⟩ : _ ∧ k_ ≠ gb438))) (fun _ hk => hk.2) (.int .i64 t432)) (fun _ hk => hk.2) (.int .i64 t433)) (fun _ hk => hk.2) (.slice Ao15 t434.length co15)) (fun _ h_ => h_.1)))); (case side2 => exact (Kd.N_reads' HO430.out).2.1); rintro e w17 ⟨v442, rfl, ho0, hb⟩; refine ⟨_, rfl, ?_⟩; have n0_ := X1 (Kd.N_elder' (by (with_reducible repeat (first | apply Kd.N_alloc | apply Kd.N_drewN | apply Kd.N_drew)); exact (Kd.N_mono (Kd.N_far (p := ⟨gb438, 2, none⟩) (Kd.N_far (p := ⟨gb438, 1, none⟩) (Kd.N_far (p := ⟨gb438, 0, none⟩) (Kd.N_mono HO430.out (fun k_ hk => (⟨hk, hk.2⟩ : _ ∧ k_ ≠ gb438))) (fun _ hk => hk.2) (.int .i64 t432)) (fun _ hk => hk.2) (.int .i64 t433)) (fun _ hk => hk.2) (.slice Ao15 t434.length co15)) (fun _ h_ => h_.1))) (Kd.N_base ho0) hb); have n1_ := X1 (Kd.N_elder' (by (with_reducible repeat (first | apply Kd.N_alloc | apply Kd.N_drewN | apply Kd.N_drew)); exact (Kd.N_mono (Kd.N_far (p := ⟨gb438, 2, none⟩) (Kd.N_far (p := ⟨gb438, 1, none⟩) (Kd.N_far (p := ⟨gb438, 0, none⟩) (Kd.N_mono HO436.out (fun k_ hk => (⟨hk, hk.2⟩ : _ ∧ k_ ≠ gb438))) (fun _ hk => hk.2) (.int .i64 t432)) (fun _ hk => hk.2) (.int .i64 t433)) (fun _ hk => hk.2) (.slice Ao15 t434.length co15)) (fun _ h_ => h_.1))) (Kd.N_base ho0) hb); have n2_ := X1 (Kd.N_lower (Kd.N_mono (ok' := fun k_ => some k_ ≠ (.slice Ao10 t428.length co10 : Value).ownBlock ∧ some k_ ≠ (.slice Ao15 t434.length co15 : Value).ownBlock ∧ k_ ≠ gb431 ∧ k_ ≠ gb438) ho0 (fun k_ hk_ => ⟨(Kd.fresh' (Kd.N_lt (by (with_reducible repeat (first | apply Kd.N_alloc | apply Kd.N_drewN | apply Kd.N_drew)); exact (Kd.N_mono (Kd.N_far (p := ⟨gb438, 2, none⟩) (Kd.N_far (p := ⟨gb438, 1, none⟩) (Kd.N_far (p := ⟨gb438, 0, none⟩) (Kd.N_mono HO430.out (fun k_ hk => (⟨hk, hk.2⟩ : _ ∧ k_ ≠ gb438))) (fun _ hk => hk.2) (.int .i64 t432)) (fun _ hk => hk.2) (.int .i64 t433)) (fun _ hk => hk.2) (.slice Ao15 t434.length co15)) (fun _ h_ => h_.1)))) k_ hk_), (Kd.fresh' (Kd.N_lt (by (with_reducible repeat (first | apply Kd.N_alloc | apply Kd.N_drewN | apply Kd.N_drew)); exact (Kd.N_mono (Kd.N_far (p := ⟨gb438, 2, none⟩) (Kd.N_far (p := ⟨gb438, 1, none⟩) (Kd.N_far (p := ⟨gb438, 0, none⟩) (Kd.N_mono HO436.out (fun k_ hk => (⟨hk, hk.2⟩ : _ ∧ k_ ≠ gb438))) (fun _ hk => hk.2) (.int .i64 t432)) (fun _ hk => hk.2) (.int .i64 t433)) (fun _ hk => hk.2) (.slice Ao15 t434.length co15)) (fun _ h_ => h_.1)))) k_ hk_), (Kd.freshB (g := gb431) (o := .cells #[.int .i64 t426, .int .i64 t427, .slice Ao10 t428.length co10] 29 (0, 0)) (by (with_reducible repeat (first | refine X7 ?_ _ | refine X8 ?_ | refine X6 ?_ _)); refine blk_far ?_ NB431_438.out _; (with_reducible repeat (first | refine X7 ?_ _ | refine X8 ?_ | refine X6 ?_ _)); refine blk_far ?_ NB431_438.out _; (with_reducible repeat (first | refine X7 ?_ _ | refine X8 ?_ | refine X6 ?_ _)); refine blk_far ?_ NB431_438.out _; (with_reducible repeat (first | refine X7 ?_ _ | refine X8 ?_ | refine X6 ?_ _)); exact BK431.out) k_ hk_), (Kd.freshB (g := gb438) (o := .cells #[.int .i64 t432, .int .i64 t433, .slice Ao15 t434.length co15] 29 (0, 0)) (by (with_reducible repeat (first | refine X7 ?_ _ | refine X8 ?_ | refine X6 ?_ _)); refine blk_put (cs := #[.int .i64 t432, .int .i64 t433, .slice none 0 0]) ?_ 2 _ rfl; (with_reducible repeat (first | refine X7 ?_ _ | refine X8 ?_ | refine X6 ?_ _)); refine blk_put (cs := #[.int .i64 t432, .int .i64 0, .slice none 0 0]) ?_ 1 _ rfl; (with_reducible repeat (first | refine X7 ?_ _ | refine X8 ?_ | refine X6 ?_ _)); refine blk_put (cs := #[.int .i64 0, .int .i64 0, .slice none 0 0]) ?_ 0 _ rfl; (with_reducible repeat (first | refine X7 ?_ _ | refine X8 ?_ | refine X6 ?_ _)); exact BK438.out) k_ hk_)⟩)) (below_size (by repeat (first | (with_reducible first | exact HB.out | apply X5 | apply X4 | apply X3 | refine X10 ?_ GE431.out | refine X10 ?_ GE438.out) | exact HB.out)))); have n3_ := X1 (blk_below (g := gb431) (o := .cells #[.int .i64 t426, .int .i64 t427, .slice Ao10 t428.length co10] 29 (0, 0)) (by (with_reducible repeat (first | refine X7 ?_ _ | refine X8 ?_ | refine X6 ?_ _)); refine blk_far ?_ NB431_438.out _; (with_reducible repeat (first | refine X7 ?_ _ | refine X8 ?_ | refine X6 ?_ _)); refine blk_far ?_ NB431_438.out _; (with_reducible repeat (first | refine X7 ?_ _ | refine X8 ?_ | refine X6 ?_ _)); refine blk_far ?_ NB431_438.out _; (with_reducible repeat (first | refine X7 ?_ _ | refine X8 ?_ | refine X6 ?_ _)); exact BK431.out) hb); have n4_ := X1 (blk_below (g := gb438) (o := .cells #[.int .i64 t432, .int .i64 t433, .slice Ao15 t434.length co15] 29 (0, 0)) (by (with_reducible repeat (first | refine X7 ?_ _ | refine X8 ?_ | refine X6 ?_ _)); refine blk_put (cs := #[.int .i64 t432, .int .i64 t433, .slice none 0 0]) ?_ 2 _ rfl; (with_reducible repeat (first | refine X7 ?_ _ | refine X8 ?_ | refine X6 ?_ _)); refine blk_put (cs := #[.int .i64 t432, .int .i64 0, .slice none 0 0]) ?_ 1 _ rfl; (with_reducible repeat (first | refine X7 ?_ _ | refine X8 ?_ | refine X6 ?_ _)); refine blk_put (cs := #[.int .i64 0, .int .i64 0, .slice none 0 0]) ?_ 0 _ rfl; (with_reducible repeat (first | refine X7 ?_ _ | refine X8 ?_ | refine X6 ?_ _)); exact BK438.out) hb); have n5_ := X1 (below_step (by repeat (first | (with_reducible first | exact HB.out | apply X5 | apply X4 | apply X3 | refine X10 ?_ GE431.out | refine X10 ?_ GE438.out) | exact HB.out)) hb); clear HO430; clear HO436; clear BK431; clear BK438; clear HB; have HO430 := n0_; have HO436 := n1_; have HO443 := n2_; have BK431 := n3_; have BK438 := n4_; have HB := n5_; clear n0_ n1_ n2_ n3_ n4_ n5_; (try clear hb); (try clear hb2); (try clear hk); (try clear hi); (try clear ho0)) | ((with_reducible refine gate_dst (N := 6) rfl ?_); refine box_event ?hg (N := 6) ?hd (cs := #[.int .i64 0, .int .i64 0, .slice none 0 0]) (t := 29) ?hr ?_; (case hd => rfl); (case hg => rfl); (case hr => first | (go_simp; done) | (go_simp; rfl)); intro gb445 hg w18 hbox hb; have n0_ := X1 (Kd.N_below (Kd.N_elderB (by (with_reducible repeat (first | apply Kd.N_alloc | apply Kd.N_drewN | apply Kd.N_drew)); exact HO430.out) gb445 (Nat.le_of_eq hg.symm)) hb); have n1_ := X1 (Kd.N_below (Kd.N_elderB (by (with_reducible repeat (first | apply Kd.N_alloc | apply Kd.N_drewN | apply Kd.N_drew)); exact HO436.out) gb445 (Nat.le_of_eq hg.symm)) hb); have n2_ := X1 (Kd.N_below (Kd.N_elderB (by (with_reducible repeat (first | apply Kd.N_alloc | apply Kd.N_drewN | apply Kd.N_drew)); exact HO443.out) gb445 (Nat.le_of_eq hg.symm)) hb); have n3_ := X1 (blk_below (g := gb431) (o := .cells #[.int .i64 t426, .int .i64 t427, .slice Ao10 t428.length co10] 29 (0, 0)) (by (with_reducible repeat (first | refine X7 ?_ _ | refine X8 ?_ | refine X6 ?_ _)); exact BK431.out) hb); have n4_ := X1 (blk_below (g := gb438) (o := .cells #[.int .i64 t432, .int .i64 t433, .slice Ao15 t434.length co15] 29 (0, 0)) (by (with_reducible repeat (first | refine X7 ?_ _ | refine X8 ?_ | refine X6 ?_ _)); exact BK438.out) hb); have n5_ := X1 (below_step (by repeat (first | (with_reducible first | exact HB.out | apply X5 | apply X4 | apply X3 | refine X10 ?_ GE431.out | refine X10 ?_ GE438.out) | exact HB.out)) hb); have n6_ := X1 (hbox); have n7_ := X1 ((by rw [hg]; exact (below_size (by repeat (first | (with_reducible first | exact HB.out | apply X5 | apply X4 | apply X3 | refine X10 ?_ GE431.out | refine X10 ?_ GE438.out) | exact HB.out))) : w.heap.size ≤ gb445)); have n8_ := X1 ((by rw [hg]; exact (below_size (by repeat (first | (with_reducible first | exact HB.out | apply X5 | apply X4 | apply X3 | refine X10 ?_ GE431.out | refine X10 ?_ GE438.out) | exact HB.out))) : w.heap.size ≤ gb445)); have n9_ := X1 ((by rw [hg]; exact Nat.ne_of_lt (blk_lt (g := gb431) (o := .cells #[.int .i64 t426, .int .i64 t427, .slice Ao10 t428.length co10] 29 (0, 0)) (by (with_reducible repeat (first | refine X7 ?_ _ | refine X8 ?_ | refine X6 ?_ _)); exact BK431.out)) : gb431 ≠ gb445)); have n10_ := X1 ((by rw [hg]; exact Nat.ne_of_gt (blk_lt (g := gb431) (o := .cells #[.int .i64 t426, .int .i64 t427, .slice Ao10 t428.length co10] 29 (0, 0)) (by (with_reducible repeat (first | refine X7 ?_ _ | refine X8 ?_ | refine X6 ?_ _)); exact BK431.out)) : gb445 ≠ gb431)); have n11_ := X1 ((by rw [hg]; exact Nat.ne_of_lt (blk_lt (g := gb438) (o := .cells #[.int .i64 t432, .int .i64 t433, .slice Ao15 t434.length co15] 29 (0, 0)) (by (with_reducible repeat (first | refine X7 ?_ _ | refine X8 ?_ | refine X6 ?_ _)); exact BK438.out)) : gb438 ≠ gb445)); have n12_ := X1 ((by rw [hg]; exact Nat.ne_of_gt (blk_lt (g := gb438) (o := .cells #[.int .i64 t432, .int .i64 t433, .slice Ao15 t434.length co15] 29 (0, 0)) (by (with_reducible repeat (first | refine X7 ?_ _ | refine X8 ?_ | refine X6 ?_ _)); exact BK438.out)) : gb445 ≠ gb438)); clear HO430; clear HO436; clear HO443; clear BK431; clear BK438; clear HB; have HO430 := n0_; have HO436 := n1_; have HO443 := n2_; have BK431 := n3_; have BK438 := n4_; have HB := n5_; have BK445 := n6_; have GW445 := n7_; have GE445 := n8_; have NB431_445 := n9_; have NB445_431 := n10_; have NB438_445 := n11_; have NB445_438 := n12_; clear n0_ n1_ n2_ n3_ n4_ n5_ n6_ n7_ n8_ n9_ n10_ n11_ n12_; clear hb hbox hg; have hnb19 := NB445_431.out; have hnc19 := NB431_445.out; have hnb20 := NB445_438.out; have hnc20 := NB438_445.out; have hcz21_0 : w18.cell? ⟨gb445, 0, none⟩ = some (.int .i64 0) := (X11 BK445.out 0).trans rfl; have hcz21_1 : w18.cell? ⟨gb445, 1, none⟩ = some (.int .i64 0) := (X11 BK445.out 1).trans rfl; have hcz21_2 : w18.cell? ⟨gb445, 2, none⟩ = some (.slice none 0 0) := (X11 BK445.out 2).trans rfl; have hfz21_0 := X12 BK445.out 0; have hfz21_1 := X12 BK445.out 1; have hfz21_2 := X12 BK445.out 2; obtain ⟨Ao22, co22, eo22⟩ := Kd.N_slice HO443.out; subst eo22))
  (try simp only [Act.put, List.setIfInBounds_toArray, List.set_cons_zero, List.set_cons_succ])
  go_cut [42] (fun v42 wc => ∃ (kq : Nat) (x42_5 : Bool), v42 = .bool x42_5 ∧ Aside0 (laws_FnFoldParts.j0 kq t437 t444 x42_5 t426 t427 t428 t432 t433 t434 t439 t440 t441 = some r) ∧ Aside0 (kq ≤ k) ∧ Aside0 (Kd.N k29 29 wc w.heap.size (fun k_ => some k_ ≠ ((.slice Ao15 t434.length co15) : Value).ownBlock ∧ some k_ ≠ ((.slice Ao22 t441.length co22) : Value).ownBlock ∧ k_ ≠ gb431 ∧ k_ ≠ gb438 ∧ k_ ≠ gb445) (.slice Ao10 t428.length co10) t428) ∧ Aside0 (Kd.N k29 29 wc w.heap.size (fun k_ => some k_ ≠ ((.slice Ao10 t428.length co10) : Value).ownBlock ∧ some k_ ≠ ((.slice Ao22 t441.length co22) : Value).ownBlock ∧ k_ ≠ gb431 ∧ k_ ≠ gb438 ∧ k_ ≠ gb445) (.slice Ao15 t434.length co15) t434) ∧ Aside0 (Kd.N k29 29 wc w.heap.size (fun k_ => some k_ ≠ ((.slice Ao10 t428.length co10) : Value).ownBlock ∧ some k_ ≠ ((.slice Ao15 t434.length co15) : Value).ownBlock ∧ k_ ≠ gb431 ∧ k_ ≠ gb438 ∧ k_ ≠ gb445) (.slice Ao22 t441.length co22) t441) ∧ Aside0 (wc.heap[gb431]? = some (.cells #[.int .i64 t426, .int .i64 t427, (.slice Ao10 t428.length co10)] 29 (0, 0))) ∧ Aside0 (wc.heap[gb438]? = some (.cells #[.int .i64 t432, .int .i64 t433, (.slice Ao15 t434.length co15)] 29 (0, 0))) ∧ Aside0 (wc.heap[gb445]? = some (.cells #[.int .i64 t439, .int .i64 t440, (.slice Ao22 t441.length co22)] 29 (0, 0))) ∧ Aside0 (Below w.heap.size w wc))
  case first =>
   have H := HC6.out
   clear HC6
   by_cases c23 : (t437 != t444) = true
   ·rw [if_pos c23] at H
    have c23b0 : (t437 != t444) = true := c23
    (try (have c23b1 : decide (t437 = t444) = false := by simpa using c23))
    (try (have c23b2 : (t437 == t444) = false := by simpa using c23))
    (try (have c23b3 : ¬ (t437 = t444) := by simpa using c23))
    clear c23
    (first | rw [c23b0] | (simp only [i64_w, i32_w]; rw [c23b0]) | skip)
    have H' := X1 H
    clear H
    go_wp2
    go_meet
    case rel => exact ⟨_, (true), (by first | rfl | (simp; done) | (simp [*]; done)), H', ⟨by first | omega | exact Nat.le_refl _⟩, ⟨by (with_reducible repeat (first | apply Kd.N_alloc | apply Kd.N_drewN | apply Kd.N_drew)); exact Kd.N_mono (Kd.N_far (p := ⟨gb445, 2, none⟩) (Kd.N_far (p := ⟨gb445, 1, none⟩) (Kd.N_far (p := ⟨gb445, 0, none⟩) (Kd.N_mono HO430.out (fun k_ hk => (⟨hk, hk.2⟩ : _ ∧ k_ ≠ gb445))) (fun _ hk => hk.2) (.int .i64 t439)) (fun _ hk => hk.2) (.int .i64 t440)) (fun _ hk => hk.2) (.slice Ao22 t441.length co22)) (fun _ hk => ⟨hk.1.1.1.1.2, ⟨hk.1.1.2, ⟨hk.1.1.1.1.1.2, ⟨hk.1.1.1.2, hk.1.2⟩⟩⟩⟩)⟩, ⟨by (with_reducible repeat (first | apply Kd.N_alloc | apply Kd.N_drewN | apply Kd.N_drew)); exact Kd.N_mono (Kd.N_far (p := ⟨gb445, 2, none⟩) (Kd.N_far (p := ⟨gb445, 1, none⟩) (Kd.N_far (p := ⟨gb445, 0, none⟩) (Kd.N_mono HO436.out (fun k_ hk => (⟨hk, hk.2⟩ : _ ∧ k_ ≠ gb445))) (fun _ hk => hk.2) (.int .i64 t439)) (fun _ hk => hk.2) (.int .i64 t440)) (fun _ hk => hk.2) (.slice Ao22 t441.length co22)) (fun _ hk => ⟨hk.1.1.1.1.1, ⟨hk.1.1.2, ⟨hk.1.1.1.1.2, ⟨hk.1.1.1.2, hk.1.2⟩⟩⟩⟩)⟩, ⟨by (with_reducible repeat (first | apply Kd.N_alloc | apply Kd.N_drewN | apply Kd.N_drew)); exact Kd.N_mono (Kd.N_far (p := ⟨gb445, 2, none⟩) (Kd.N_far (p := ⟨gb445, 1, none⟩) (Kd.N_far (p := ⟨gb445, 0, none⟩) (Kd.N_mono HO443.out (fun k_ hk => (⟨hk, hk.2⟩ : _ ∧ k_ ≠ gb445))) (fun _ hk => hk.2) (.int .i64 t439)) (fun _ hk => hk.2) (.int .i64 t440)) (fun _ hk => hk.2) (.slice Ao22 t441.length co22)) (fun _ hk => ⟨hk.1.1.1, ⟨hk.1.1.2.1, ⟨hk.1.1.2.2.1, ⟨hk.1.1.2.2.2, hk.1.2⟩⟩⟩⟩)⟩, ⟨by (with_reducible repeat (first | refine X7 ?_ _ | refine X8 ?_ | refine X6 ?_ _)); refine blk_far ?_ NB431_445.out _; (with_reducible repeat (first | refine X7 ?_ _ | refine X8 ?_ | refine X6 ?_ _)); refine blk_far ?_ NB431_445.out _; (with_reducible repeat (first | refine X7 ?_ _ | refine X8 ?_ | refine X6 ?_ _)); refine blk_far ?_ NB431_445.out _; (with_reducible repeat (first | refine X7 ?_ _ | refine X8 ?_ | refine X6 ?_ _)); exact BK431.out⟩, ⟨by (with_reducible repeat (first | refine X7 ?_ _ | refine X8 ?_ | refine X6 ?_ _)); refine blk_far ?_ NB438_445.out _; (with_reducible repeat (first | refine X7 ?_ _ | refine X8 ?_ | refine X6 ?_ _)); refine blk_far ?_ NB438_445.out _; (with_reducible repeat (first | refine X7 ?_ _ | refine X8 ?_ | refine X6 ?_ _)); refine blk_far ?_ NB438_445.out _; (with_reducible repeat (first | refine X7 ?_ _ | refine X8 ?_ | refine X6 ?_ _)); exact BK438.out⟩, ⟨by (with_reducible repeat (first | refine X7 ?_ _ | refine X8 ?_ | refine X6 ?_ _)); refine blk_put (cs := #[.int .i64 t439, .int .i64 t440, .slice none 0 0]) ?_ 2 _ rfl; (with_reducible repeat (first | refine X7 ?_ _ | refine X8 ?_ | refine X6 ?_ _)); refine blk_put (cs := #[.int .i64 t439, .int .i64 0, .slice none 0 0]) ?_ 1 _ rfl; (with_reducible repeat (first | refine X7 ?_ _ | refine X8 ?_ | refine X6 ?_ _)); refine blk_put (cs := #[.int .i64 0, .int .i64 0, .slice none 0 0]) ?_ 0 _ rfl; (with_reducible repeat (first | refine X7 ?_ _ | refine X8 ?_ | refine X6 ?_ _)); exact BK445.out⟩, ⟨by repeat (first | (with_reducible first | exact HB.out | apply X5 | apply X4 | apply X3 | refine X10 ?_ GE431.out | refine X10 ?_ GE438.out | refine X10 ?_ GE445.out) | exact HB.out)⟩⟩
   ·rw [if_neg c23] at H
    have c23b0 : (t437 != t444) = false := by simpa using c23
    (try (have c23b1 : decide (t437 = t444) = true := by simpa using c23))
    (try (have c23b2 : (t437 == t444) = true := by simpa using c23))
    clear c23
    (first | rw [c23b0] | (simp only [i64_w, i32_w]; rw [c23b0]) | skip)
    replace H := X2 H
    obtain ⟨t446, A240, H⟩ := H
    replace H : (if t446 = true then (laws_FnFoldParts.j0 k t437 t444 (!t437) t426 t427 t428 t432 t433 t434 t439 t440 t441) else (laws_FnFoldParts.j0 k t437 t444 true t426 t427 t428 t432 t433 t434 t439 t440 t441)) = some r := H
    have A24 := X1 A240
    clear A240
    by_cases c25 : t446 = true
    ·subst c25
     have H1 : (laws_FnFoldParts.j0 k t437 t444 (!t437) t426 t427 t428 t432 t433 t434 t439 t440 t441) = some r := by rw [if_pos rfl] at H; exact H
     clear H
     have H := H1
     clear H1
     have H' := X1 H
     clear H
     have hnb26 := NB438_431.out
     have hnc26 := NB431_438.out
     have hnb27 := NB438_445.out
     have hnc27 := NB445_438.out
     have hcz28_0 : w18.cell? ⟨gb438, 0, none⟩ = some (.int .i64 t432) := (X11 BK438.out 0).trans rfl
     have hcz28_1 : w18.cell? ⟨gb438, 1, none⟩ = some (.int .i64 t433) := (X11 BK438.out 1).trans rfl
     have hcz28_2 : w18.cell? ⟨gb438, 2, none⟩ = some (.slice Ao15 t434.length co15) := (X11 BK438.out 2).trans rfl
     have hfz28_0 := X12 BK438.out 0
     have hfz28_1 := X12 BK438.out 1
     have hfz28_2 := X12 BK438.out 2
     have hnb29 := NB445_431.out
     have hnc29 := NB431_445.out
     have hcz30_0 : w18.cell? ⟨gb445, 0, none⟩ = some (.int .i64 0) := (X11 BK445.out 0).trans rfl
     have hcz30_1 : w18.cell? ⟨gb445, 1, none⟩ = some (.int .i64 0) := (X11 BK445.out 1).trans rfl
     have hcz30_2 : w18.cell? ⟨gb445, 2, none⟩ = some (.slice none 0 0) := (X11 BK445.out 2).trans rfl
     have hfz30_0 := X12 BK445.out 0
     have hfz30_1 := X12 BK445.out 1
     have hfz30_2 := X12 BK445.out 2
     go_wp2_with (first | (go_at_call 29; (with_reducible refine (laws_sameExpr.calls k t432 t433 _ _ t434 t439 t440 _ _ t441 true _ ?side1 ?side2 ?side3 ?side4 A24.out).mono ?_); (case side1 => refine (Kd.N_reads' (e := 29) (base := w.heap.size) (ok := fun k_ => ((((some k_ ≠ (.slice Ao10 t428.length co10 : Value).ownBlock ∧ k_ ≠ gb431) ∧ k_ ≠ gb438) ∧ some k_ ≠ (.slice Ao22 t441.length co22 : Value).ownBlock) ∧ k_ ≠ gb445)) (n := t434.length) (c := co15) ?_).2.2; exact (by (with_reducible repeat (first | apply Kd.N_alloc | apply Kd.N_drewN | apply Kd.N_drew)); exact (Kd.N_mono (Kd.N_far (p := ⟨gb445, 2, none⟩) (Kd.N_far (p := ⟨gb445, 1, none⟩) (Kd.N_far (p := ⟨gb445, 0, none⟩) (Kd.N_mono HO436.out (fun k_ hk => (⟨hk, hk.2⟩ : _ ∧ k_ ≠ gb445))) (fun _ hk => hk.2) (.int .i64 t439)) (fun _ hk => hk.2) (.int .i64 t440)) (fun _ hk => hk.2) (.slice Ao22 t441.length co22)) (fun _ h_ => h_.1)))); (case side2 => exact (Kd.N_reads' HO436.out).2.1); (case side3 => refine (Kd.N_reads' (e := 29) (base := w.heap.size) (ok := fun k_ => ((some k_ ≠ (.slice Ao10 t428.length co10 : Value).ownBlock ∧ (some k_ ≠ (.slice Ao15 t434.length co15 : Value).ownBlock ∧ (k_ ≠ gb431 ∧ k_ ≠ gb438))) ∧ k_ ≠ gb445)) (n := t441.length) (c := co22) ?_).2.2; exact (by (with_reducible repeat (first | apply Kd.N_alloc | apply Kd.N_drewN | apply Kd.N_drew)); exact (Kd.N_mono (Kd.N_far (p := ⟨gb445, 2, none⟩) (Kd.N_far (p := ⟨gb445, 1, none⟩) (Kd.N_far (p := ⟨gb445, 0, none⟩) (Kd.N_mono HO443.out (fun k_ hk => (⟨hk, hk.2⟩ : _ ∧ k_ ≠ gb445))) (fun _ hk => hk.2) (.int .i64 t439)) (fun _ hk => hk.2) (.int .i64 t440)) (fun _ hk => hk.2) (.slice Ao22 t441.length co22)) (fun _ h_ => h_.1)))); (case side4 => exact (Kd.N_reads' HO443.out).2.1); rintro e w31 ⟨rfl, hb⟩; have n0_ := X1 (Kd.N_below (by (with_reducible repeat (first | apply Kd.N_alloc | apply Kd.N_drewN | apply Kd.N_drew)); exact (Kd.N_mono (Kd.N_far (p := ⟨gb445, 2, none⟩) (Kd.N_far (p := ⟨gb445, 1, none⟩) (Kd.N_far (p := ⟨gb445, 0, none⟩) (Kd.N_mono HO430.out (fun k_ hk => (⟨hk, hk.2⟩ : _ ∧ k_ ≠ gb445))) (fun _ hk => hk.2) (.int .i64 t439)) (fun _ hk => hk.2) (.int .i64 t440)) (fun _ hk => hk.2) (.slice Ao22 t441.length co22)) (fun _ h_ => h_.1))) hb); have n1_ := X1 (Kd.N_below (by (with_reducible repeat (first | apply Kd.N_alloc | apply Kd.N_drewN | apply Kd.N_drew)); exact (Kd.N_mono (Kd.N_far (p := ⟨gb445, 2, none⟩) (Kd.N_far (p := ⟨gb445, 1, none⟩) (Kd.N_far (p := ⟨gb445, 0, none⟩) (Kd.N_mono HO436.out (fun k_ hk => (⟨hk, hk.2⟩ : _ ∧ k_ ≠ gb445))) (fun _ hk => hk.2) (.int .i64 t439)) (fun _ hk => hk.2) (.int .i64 t440)) (fun _ hk => hk.2) (.slice Ao22 t441.length co22)) (fun _ h_ => h_.1))) hb); have n2_ := X1 (Kd.N_below (by (with_reducible repeat (first | apply Kd.N_alloc | apply Kd.N_drewN | apply Kd.N_drew)); exact (Kd.N_mono (Kd.N_far (p := ⟨gb445, 2, none⟩) (Kd.N_far (p := ⟨gb445, 1, none⟩) (Kd.N_far (p := ⟨gb445, 0, none⟩) (Kd.N_mono HO443.out (fun k_ hk => (⟨hk, hk.2⟩ : _ ∧ k_ ≠ gb445))) (fun _ hk => hk.2) (.int .i64 t439)) (fun _ hk => hk.2) (.int .i64 t440)) (fun _ hk => hk.2) (.slice Ao22 t441.length co22)) (fun _ h_ => h_.1))) hb); have n3_ := X1 (blk_below (g := gb431) (o := .cells #[.int .i64 t426, .int .i64 t427, .slice Ao10 t428.length co10] 29 (0, 0)) (by (with_reducible repeat (first | refine X7 ?_ _ | refine X8 ?_ | refine X6 ?_ _)); refine blk_far ?_ NB431_445.out _; (with_reducible repeat (first | refine X7 ?_ _ | refine X8 ?_ | refine X6 ?_ _)); refine blk_far ?_ NB431_445.out _; (with_reducible repeat (first | refine X7 ?_ _ | refine X8 ?_ | refine X6 ?_ _)); refine blk_far ?_ NB431_445.out _; (with_reducible repeat (first | refine X7 ?_ _ | refine X8 ?_ | refine X6 ?_ _)); exact BK431.out) hb); have n4_ := X1 (blk_below (g := gb438) (o := .cells #[.int .i64 t432, .int .i64 t433, .slice Ao15 t434.length co15] 29 (0, 0)) (by (with_reducible repeat (first | refine X7 ?_ _ | refine X8 ?_ | refine X6 ?_ _)); refine blk_far ?_ NB438_445.out _; (with_reducible repeat (first | refine X7 ?_ _ | refine X8 ?_ | refine X6 ?_ _)); refine blk_far ?_ NB438_445.out _; (with_reducible repeat (first | refine X7 ?_ _ | refine X8 ?_ | refine X6 ?_ _)); refine blk_far ?_ NB438_445.out _; (with_reducible repeat (first | refine X7 ?_ _ | refine X8 ?_ | refine X6 ?_ _)); exact BK438.out) hb); have n5_ := X1 (blk_below (g := gb445) (o := .cells #[.int .i64 t439, .int .i64 t440, .slice Ao22 t441.length co22] 29 (0, 0)) (by (with_reducible repeat (first | refine X7 ?_ _ | refine X8 ?_ | refine X6 ?_ _)); refine blk_put (cs := #[.int .i64 t439, .int .i64 t440, .slice none 0 0]) ?_ 2 _ rfl; (with_reducible repeat (first | refine X7 ?_ _ | refine X8 ?_ | refine X6 ?_ _)); refine blk_put (cs := #[.int .i64 t439, .int .i64 0, .slice none 0 0]) ?_ 1 _ rfl; (with_reducible repeat (first | refine X7 ?_ _ | refine X8 ?_ | refine X6 ?_ _)); refine blk_put (cs := #[.int .i64 0, .int .i64 0, .slice none 0 0]) ?_ 0 _ rfl; (with_reducible repeat (first | refine X7 ?_ _ | refine X8 ?_ | refine X6 ?_ _)); exact BK445.out) hb); have n6_ := X1 (below_step (by repeat (first | (with_reducible first | exact HB.out | apply X5 | apply X4 | apply X3 | refine X10 ?_ GE431.out | refine X10 ?_ GE438.out | refine X10 ?_ GE445.out) | exact HB.out)) hb); clear HO430; clear HO436; clear HO443; clear BK431; clear BK438; clear BK445; clear HB; have HO430 := n0_; have HO436 := n1_; have HO443 := n2_; have BK431 := n3_; have BK438 := n4_; have BK445 := n5_; have HB := n6_; clear n0_ n1_ n2_ n3_ n4_ n5_ n6_; (try clear hb); (try clear hb2); (try clear hk); (try clear hi)))
     go_meet
     case rel => exact ⟨_, (!t437), (by first | rfl | (simp; done) | (simp [*]; done)), H', ⟨by first | omega | exact Nat.le_refl _⟩, ⟨by (with_reducible repeat (first | apply Kd.N_alloc | apply Kd.N_drewN | apply Kd.N_drew)); exact Kd.N_mono HO430.out (fun _ hk => ⟨hk.1.1.1.2, ⟨hk.1.2, ⟨hk.1.1.1.1.2, ⟨hk.1.1.2, hk.2⟩⟩⟩⟩)⟩, ⟨by (with_reducible repeat (first | apply Kd.N_alloc | apply Kd.N_drewN | apply Kd.N_drew)); exact Kd.N_mono HO436.out (fun _ hk => ⟨hk.1.1.1.1, ⟨hk.1.2, ⟨hk.1.1.1.2, ⟨hk.1.1.2, hk.2⟩⟩⟩⟩)⟩, ⟨by (with_reducible repeat (first | apply Kd.N_alloc | apply Kd.N_drewN | apply Kd.N_drew)); exact Kd.N_mono HO443.out (fun _ hk => ⟨hk.1.1, ⟨hk.1.2.1, ⟨hk.1.2.2.1, ⟨hk.1.2.2.2, hk.2⟩⟩⟩⟩)⟩, ⟨by (with_reducible repeat (first | refine X7 ?_ _ | refine X8 ?_ | refine X6 ?_ _)); exact BK431.out⟩, ⟨by (with_reducible repeat (first | refine X7 ?_ _ | refine X8 ?_ | refine X6 ?_ _)); exact BK438.out⟩, ⟨by (with_reducible repeat (first | refine X7 ?_ _ | refine X8 ?_ | refine X6 ?_ _)); exact BK445.out⟩, ⟨by repeat (first | (with_reducible first | exact HB.out | apply X5 | apply X4 | apply X3 | refine X10 ?_ GE431.out | refine X10 ?_ GE438.out | refine X10 ?_ GE445.out) | exact HB.out)⟩⟩
    ·replace c25 := Bool.eq_false_iff.mpr c25
     subst c25
     have H1 : (laws_FnFoldParts.j0 k t437 t444 true t426 t427 t428 t432 t433 t434 t439 t440 t441) = some r := by rw [if_neg (show ¬ (false = true) by decide)] at H; exact H
     clear H
     have H := H1
     clear H1
     have H' := X1 H
     clear H
     have hnb32 := NB438_431.out
     have hnc32 := NB431_438.out
     have hnb33 := NB438_445.out
     have hnc33 := NB445_438.out
     have hcz34_0 : w18.cell? ⟨gb438, 0, none⟩ = some (.int .i64 t432) := (X11 BK438.out 0).trans rfl
     have hcz34_1 : w18.cell? ⟨gb438, 1, none⟩ = some (.int .i64 t433) := (X11 BK438.out 1).trans rfl
     have hcz34_2 : w18.cell? ⟨gb438, 2, none⟩ = some (.slice Ao15 t434.length co15) := (X11 BK438.out 2).trans rfl
     have hfz34_0 := X12 BK438.out 0
     have hfz34_1 := X12 BK438.out 1
     have hfz34_2 := X12 BK438.out 2
     have hnb35 := NB445_431.out
     have hnc35 := NB431_445.out
     have hcz36_0 : w18.cell? ⟨gb445, 0, none⟩ = some (.int .i64 0) := (X11 BK445.out 0).trans rfl
     have hcz36_1 : w18.cell? ⟨gb445, 1, none⟩ = some (.int .i64 0) := (X11 BK445.out 1).trans rfl
     have hcz36_2 : w18.cell? ⟨gb445, 2, none⟩ = some (.slice none 0 0) := (X11 BK445.out 2).trans rfl
     have hfz36_0 := X12 BK445.out 0
     have hfz36_1 := X12 BK445.out 1
     have hfz36_2 := X12 BK445.out 2
     go_wp2_with (first | (go_at_call 29; (with_reducible refine (laws_sameExpr.calls k t432 t433 _ _ t434 t439 t440 _ _ t441 false _ ?side1 ?side2 ?side3 ?side4 A24.out).mono ?_); (case side1 => refine (Kd.N_reads' (e := 29) (base := w.heap.size) (ok := fun k_ => ((((some k_ ≠ (.slice Ao10 t428.length co10 : Value).ownBlock ∧ k_ ≠ gb431) ∧ k_ ≠ gb438) ∧ some k_ ≠ (.slice Ao22 t441.length co22 : Value).ownBlock) ∧ k_ ≠ gb445)) (n := t434.length) (c := co15) ?_).2.2; exact (by (with_reducible repeat (first | apply Kd.N_alloc | apply Kd.N_drewN | apply Kd.N_drew)); exact (Kd.N_mono (Kd.N_far (p := ⟨gb445, 2, none⟩) (Kd.N_far (p := ⟨gb445, 1, none⟩) (Kd.N_far (p := ⟨gb445, 0, none⟩) (Kd.N_mono HO436.out (fun k_ hk => (⟨hk, hk.2⟩ : _ ∧ k_ ≠ gb445))) (fun _ hk => hk.2) (.int .i64 t439)) (fun _ hk => hk.2) (.int .i64 t440)) (fun _ hk => hk.2) (.slice Ao22 t441.length co22)) (fun _ h_ => h_.1)))); (case side2 => exact (Kd.N_reads' HO436.out).2.1); (case side3 => refine (Kd.N_reads' (e := 29) (base := w.heap.size) (ok := fun k_ => ((some k_ ≠ (.slice Ao10 t428.length co10 : Value).ownBlock ∧ (some k_ ≠ (.slice Ao15 t434.length co15 : Value).ownBlock ∧ (k_ ≠ gb431 ∧ k_ ≠ gb438))) ∧ k_ ≠ gb445)) (n := t441.length) (c := co22) ?_).2.2; exact (by (with_reducible repeat (first | apply Kd.N_alloc | apply Kd.N_drewN | apply Kd.N_drew)); exact (Kd.N_mono (Kd.N_far (p := ⟨gb445, 2, none⟩) (Kd.N_far (p := ⟨gb445, 1, none⟩) (Kd.N_far (p := ⟨gb445, 0, none⟩) (Kd.N_mono HO443.out (fun k_ hk => (⟨hk, hk.2⟩ : _ ∧ k_ ≠ gb445))) (fun _ hk => hk.2) (.int .i64 t439)) (fun _ hk => hk.2) (.int .i64 t440)) (fun _ hk => hk.2) (.slice Ao22 t441.length co22)) (fun _ h_ => h_.1)))); (case side4 => exact (Kd.N_reads' HO443.out).2.1); rintro e w37 ⟨rfl, hb⟩; have n0_ := X1 (Kd.N_below (by (with_reducible repeat (first | apply Kd.N_alloc | apply Kd.N_drewN | apply Kd.N_drew)); exact (Kd.N_mono (Kd.N_far (p := ⟨gb445, 2, none⟩) (Kd.N_far (p := ⟨gb445, 1, none⟩) (Kd.N_far (p := ⟨gb445, 0, none⟩) (Kd.N_mono HO430.out (fun k_ hk => (⟨hk, hk.2⟩ : _ ∧ k_ ≠ gb445))) (fun _ hk => hk.2) (.int .i64 t439)) (fun _ hk => hk.2) (.int .i64 t440)) (fun _ hk => hk.2) (.slice Ao22 t441.length co22)) (fun _ h_ => h_.1))) hb); have n1_ := X1 (Kd.N_below (by (with_reducible repeat (first | apply Kd.N_alloc | apply Kd.N_drewN | apply Kd.N_drew)); exact (Kd.N_mono (Kd.N_far (p := ⟨gb445, 2, none⟩) (Kd.N_far (p := ⟨gb445, 1, none⟩) (Kd.N_far (p := ⟨gb445, 0, none⟩) (Kd.N_mono HO436.out (fun k_ hk => (⟨hk, hk.2⟩ : _ ∧ k_ ≠ gb445))) (fun _ hk => hk.2) (.int .i64 t439)) (fun _ hk => hk.2) (.int .i64 t440)) (fun _ hk => hk.2) (.slice Ao22 t441.length co22)) (fun _ h_ => h_.1))) hb); have n2_ := X1 (Kd.N_below (by (with_reducible repeat (first | apply Kd.N_alloc | apply Kd.N_drewN | apply Kd.N_drew)); exact (Kd.N_mono (Kd.N_far (p := ⟨gb445, 2, none⟩) (Kd.N_far (p := ⟨gb445, 1, none⟩) (Kd.N_far (p := ⟨gb445, 0, none⟩) (Kd.N_mono HO443.out (fun k_ hk => (⟨hk, hk.2⟩ : _ ∧ k_ ≠ gb445))) (fun _ hk => hk.2) (.int .i64 t439)) (fun _ hk => hk.2) (.int .i64 t440)) (fun _ hk => hk.2) (.slice Ao22 t441.length co22)) (fun _ h_ => h_.1))) hb); have n3_ := X1 (blk_below (g := gb431) (o := .cells #[.int .i64 t426, .int .i64 t427, .slice Ao10 t428.length co10] 29 (0, 0)) (by (with_reducible repeat (first | refine X7 ?_ _ | refine X8 ?_ | refine X6 ?_ _)); refine blk_far ?_ NB431_445.out _; (with_reducible repeat (first | refine X7 ?_ _ | refine X8 ?_ | refine X6 ?_ _)); refine blk_far ?_ NB431_445.out _; (with_reducible repeat (first | refine X7 ?_ _ | refine X8 ?_ | refine X6 ?_ _)); refine blk_far ?_ NB431_445.out _; (with_reducible repeat (first | refine X7 ?_ _ | refine X8 ?_ | refine X6 ?_ _)); exact BK431.out) hb); have n4_ := X1 (blk_below (g := gb438) (o := .cells #[.int .i64 t432, .int .i64 t433, .slice Ao15 t434.length co15] 29 (0, 0)) (by (with_reducible repeat (first | refine X7 ?_ _ | refine X8 ?_ | refine X6 ?_ _)); refine blk_far ?_ NB438_445.out _; (with_reducible repeat (first | refine X7 ?_ _ | refine X8 ?_ | refine X6 ?_ _)); refine blk_far ?_ NB438_445.out _; (with_reducible repeat (first | refine X7 ?_ _ | refine X8 ?_ | refine X6 ?_ _)); refine blk_far ?_ NB438_445.out _; (with_reducible repeat (first | refine X7 ?_ _ | refine X8 ?_ | refine X6 ?_ _)); exact BK438.out) hb); have n5_ := X1 (blk_below (g := gb445) (o := .cells #[.int .i64 t439, .int .i64 t440, .slice Ao22 t441.length co22] 29 (0, 0)) (by (with_reducible repeat (first | refine X7 ?_ _ | refine X8 ?_ | refine X6 ?_ _)); refine blk_put (cs := #[.int .i64 t439, .int .i64 t440, .slice none 0 0]) ?_ 2 _ rfl; (with_reducible repeat (first | refine X7 ?_ _ | refine X8 ?_ | refine X6 ?_ _)); refine blk_put (cs := #[.int .i64 t439, .int .i64 0, .slice none 0 0]) ?_ 1 _ rfl; (with_reducible repeat (first | refine X7 ?_ _ | refine X8 ?_ | refine X6 ?_ _)); refine blk_put (cs := #[.int .i64 0, .int .i64 0, .slice none 0 0]) ?_ 0 _ rfl; (with_reducible repeat (first | refine X7 ?_ _ | refine X8 ?_ | refine X6 ?_ _)); exact BK445.out) hb); have n6_ := X1 (below_step (by repeat (first | (with_reducible first | exact HB.out | apply X5 | apply X4 | apply X3 | refine X10 ?_ GE431.out | refine X10 ?_ GE438.out | refine X10 ?_ GE445.out) | exact HB.out)) hb); clear HO430; clear HO436; clear HO443; clear BK431; clear BK438; clear BK445; clear HB; have HO430 := n0_; have HO436 := n1_; have HO443 := n2_; have BK431 := n3_; have BK438 := n4_; have BK445 := n5_; have HB := n6_; clear n0_ n1_ n2_ n3_ n4_ n5_ n6_; (try clear hb); (try clear hb2); (try clear hk); (try clear hi)))
     go_meet
     case rel => exact ⟨_, (true), (by first | rfl | (simp; done) | (simp [*]; done)), H', ⟨by first | omega | exact Nat.le_refl _⟩, ⟨by (with_reducible repeat (first | apply Kd.N_alloc | apply Kd.N_drewN | apply Kd.N_drew)); exact Kd.N_mono HO430.out (fun _ hk => ⟨hk.1.1.1.2, ⟨hk.1.2, ⟨hk.1.1.1.1.2, ⟨hk.1.1.2, hk.2⟩⟩⟩⟩)⟩, ⟨by (with_reducible repeat (first | apply Kd.N_alloc | apply Kd.N_drewN | apply Kd.N_drew)); exact Kd.N_mono HO436.out (fun _ hk => ⟨hk.1.1.1.1, ⟨hk.1.2, ⟨hk.1.1.1.2, ⟨hk.1.1.2, hk.2⟩⟩⟩⟩)⟩, ⟨by (with_reducible repeat (first | apply Kd.N_alloc | apply Kd.N_drewN | apply Kd.N_drew)); exact Kd.N_mono HO443.out (fun _ hk => ⟨hk.1.1, ⟨hk.1.2.1, ⟨hk.1.2.2.1, ⟨hk.1.2.2.2, hk.2⟩⟩⟩⟩)⟩, ⟨by (with_reducible repeat (first | refine X7 ?_ _ | refine X8 ?_ | refine X6 ?_ _)); exact BK431.out⟩, ⟨by (with_reducible repeat (first | refine X7 ?_ _ | refine X8 ?_ | refine X6 ?_ _)); exact BK438.out⟩, ⟨by (with_reducible repeat (first | refine X7 ?_ _ | refine X8 ?_ | refine X6 ?_ _)); exact BK445.out⟩, ⟨by repeat (first | (with_reducible first | exact HB.out | apply X5 | apply X4 | apply X3 | refine X10 ?_ GE431.out | refine X10 ?_ GE438.out | refine X10 ?_ GE445.out) | exact HB.out)⟩⟩
  case rest =>
   clear HC6
   try clear c1
   try clear c2
   try clear c2b0
   try clear c2b1
   try clear p2
   try clear c3
   try clear c10
   try clear c13
   try clear c19
   try clear c20
   try clear c23
   try clear c23b0
   try clear c23b1
   try clear c23b2
   try clear c25
   try clear c26
   try clear c27
   try clear c28
   try clear c29
   try clear c32
   try clear c33
   try clear c35
   try clear hcz14_0
   try clear hcz14_1
   try clear hcz14_2
   try clear hcz16_0
   try clear hcz16_1
   try clear hcz16_2
   try clear hcz21_0
   try clear hcz21_1
   try clear hcz21_2
   try clear hcz28_0
   try clear hcz28_1
   try clear hcz28_2
   try clear hcz30_0
   try clear hcz30_1
   try clear hcz30_2
   try clear hcz34_0
   try clear hcz34_1
   try clear hcz34_2
   try clear hcz36_0
   try clear hcz36_1
   try clear hcz36_2
   try clear hcz9_0
   try clear hcz9_1
   try clear hcz9_2
   try clear hfz14_0
   try clear hfz14_1
   try clear hfz14_2
   try clear hfz16_0
   try clear hfz16_1
   try clear hfz16_2
   try clear hfz21_0
   try clear hfz21_1
   try clear hfz21_2
   try clear hfz28_0
   try clear hfz28_1
   try clear hfz28_2
   try clear hfz30_0
   try clear hfz30_1
   try clear hfz30_2
   try clear hfz34_0
   try clear hfz34_1
   try clear hfz34_2
   try clear hfz36_0
   try clear hfz36_1
   try clear hfz36_2
   try clear hfz9_0
   try clear hfz9_1
   try clear hfz9_2
   obtain ⟨kq, x42_5, rfl, HA, HJ5, HO_432002, HO_439002, HO_446002, BK431, BK438, BK445, HB⟩ := hcut
   cases kq with
   | zero => exact absurd HA.out (by simp [laws_FnFoldParts.j0])
   | succ kj5 =>
    have H := HA.out
    clear HA
    simp only [laws_FnFoldParts.j0] at H
    by_cases c38 : x42_5 = true
    ·subst c38
     have H1 : (if (t437 == t444) = true then ((laws_sameExpr.f kj5 t432 t433 t434 t439 t440 t441).bind fun t447 => (some t447)) else (none)) = some r := by rw [if_pos rfl] at H; exact H
     clear H
     have H := H1
     clear H1
     by_cases c39 : (t437 == t444) = true
     ·rw [if_pos c39] at H
      have c39b0 : (t437 == t444) = true := c39
      (try (have c39b1 : decide (t437 = t444) = true := by simpa using c39))
      (try (have c39b2 : (t437 == t444) = true := by simpa using c39))
      clear c39
      replace H := X2 H
      obtain ⟨t447, A400, H⟩ := H
      replace H : (some t447) = some r := H
      have A40 := X1 A400
      clear A400
      obtain rfl := Option.some.inj H
      have hnb41 := NB438_431.out
      have hnc41 := NB431_438.out
      have hnb42 := NB438_445.out
      have hnc42 := NB445_438.out
      have hcz43_0 : wc.cell? ⟨gb438, 0, none⟩ = some (.int .i64 t432) := (X11 BK438.out 0).trans rfl
      have hcz43_1 : wc.cell? ⟨gb438, 1, none⟩ = some (.int .i64 t433) := (X11 BK438.out 1).trans rfl
      have hcz43_2 : wc.cell? ⟨gb438, 2, none⟩ = some (.slice Ao15 t434.length co15) := (X11 BK438.out 2).trans rfl
      have hfz43_0 := X12 BK438.out 0
      have hfz43_1 := X12 BK438.out 1
      have hfz43_2 := X12 BK438.out 2
      have hnb44 := NB445_431.out
      have hnc44 := NB431_445.out
      have hcz45_0 : wc.cell? ⟨gb445, 0, none⟩ = some (.int .i64 t439) := (X11 BK445.out 0).trans rfl
      have hcz45_1 : wc.cell? ⟨gb445, 1, none⟩ = some (.int .i64 t440) := (X11 BK445.out 1).trans rfl
      have hcz45_2 : wc.cell? ⟨gb445, 2, none⟩ = some (.slice Ao22 t441.length co22) := (X11 BK445.out 2).trans rfl
      have hfz45_0 := X12 BK445.out 0
      have hfz45_1 := X12 BK445.out 1
      have hfz45_2 := X12 BK445.out 2
      go_wp2_with (first | (go_at_call 29; (with_reducible refine (laws_sameExpr.calls kj5 t432 t433 _ _ t434 t439 t440 _ _ t441 t447 _ ?side1 ?side2 ?side3 ?side4 A40.out).mono ?_); (case side1 => repeat (first | exact (Kd.N_reads' HO_439002.out).2.2 | (with_reducible refine Kd.C_alloc ?_ _) | (with_reducible refine Kd.C_drewN ?_ _) | (with_reducible refine Kd.C_drew ?_))); (case side2 => exact (Kd.N_reads' HO_439002.out).2.1); (case side3 => repeat (first | exact (Kd.N_reads' HO_446002.out).2.2 | (with_reducible refine Kd.C_alloc ?_ _) | (with_reducible refine Kd.C_drewN ?_ _) | (with_reducible refine Kd.C_drew ?_))); (case side4 => exact (Kd.N_reads' HO_446002.out).2.1); rintro e w46 ⟨rfl, hb⟩; have n0_ := X1 (Kd.N_below (by (with_reducible repeat (first | apply Kd.N_alloc | apply Kd.N_drewN | apply Kd.N_drew)); exact HO_432002.out) hb); have n1_ := X1 (Kd.N_below (by (with_reducible repeat (first | apply Kd.N_alloc | apply Kd.N_drewN | apply Kd.N_drew)); exact HO_439002.out) hb); have n2_ := X1 (Kd.N_below (by (with_reducible repeat (first | apply Kd.N_alloc | apply Kd.N_drewN | apply Kd.N_drew)); exact HO_446002.out) hb); have n3_ := X1 (blk_below (g := gb431) (o := .cells #[.int .i64 t426, .int .i64 t427, .slice Ao10 t428.length co10] 29 (0, 0)) (by (with_reducible repeat (first | refine X7 ?_ _ | refine X8 ?_ | refine X6 ?_ _)); exact BK431.out) hb); have n4_ := X1 (blk_below (g := gb438) (o := .cells #[.int .i64 t432, .int .i64 t433, .slice Ao15 t434.length co15] 29 (0, 0)) (by (with_reducible repeat (first | refine X7 ?_ _ | refine X8 ?_ | refine X6 ?_ _)); exact BK438.out) hb); have n5_ := X1 (blk_below (g := gb445) (o := .cells #[.int .i64 t439, .int .i64 t440, .slice Ao22 t441.length co22] 29 (0, 0)) (by (with_reducible repeat (first | refine X7 ?_ _ | refine X8 ?_ | refine X6 ?_ _)); exact BK445.out) hb); have n6_ := X1 (below_step (by repeat (first | (with_reducible first | exact HB.out | apply X5 | apply X4 | apply X3 | refine X10 ?_ GE431.out | refine X10 ?_ GE438.out | refine X10 ?_ GE445.out) | exact HB.out)) hb); clear HO_432002; clear HO_439002; clear HO_446002; clear BK431; clear BK438; clear BK445; clear HB; have HO_432002 := n0_; have HO_439002 := n1_; have HO_446002 := n2_; have BK431 := n3_; have BK438 := n4_; have BK445 := n5_; have HB := n6_; clear n0_ n1_ n2_ n3_ n4_ n5_ n6_; (try clear hb); (try clear hb2); (try clear hk); (try clear hi)))
      go_ret
      exact ⟨by first | rfl | (simp [errW_none, errW_some] <;> rfl) | (simp [*, errW_none, errW_some] <;> rfl), by repeat (first | (with_reducible first | exact HB.out | apply X5 | apply X4 | apply X3 | refine X10 ?_ GE431.out | refine X10 ?_ GE438.out | refine X10 ?_ GE445.out) | exact HB.out)⟩
     ·rw [if_neg c39] at H
      exact absurd H (by simp)
    ·replace c38 := Bool.eq_false_iff.mpr c38
     subst c38
     have H1 : (if (t434.length : Int) = 0 then (some true) else (if 0 < (t428.length : Int) then ((impl_ExprFold.f kj5 ((rd_T29 t428 0).f0) ((rd_T29 t428 0).f1) ((rd_T29 t428 0).f2)).bind fun bt449 => (if 1 < (t428.length : Int) then ((impl_ExprFold.f kj5 ((rd_T29 t428 1).f0) ((rd_T29 t428 1).f1) ((rd_T29 t428 1).f2)).bind fun bt457 => ((impl_Apply.f t432 bt449.2.1 bt457.2.1).bind fun bt464 => (if bt449.1 = 0 then (if bt457.1 = 0 then (if bt464.2 = true then (if bt464.1 ≥ 0 then (laws_FnFoldParts.j1 kj5 bt449.2.2.2 bt457.2.2.2 (decide (bt464.1 ≤ 99999)) t426 t427 t428 t432 t433 t434 bt449.1 bt449.2.1 bt449.2.2.1 bt457.1 bt457.2.1 bt457.2.2.1) else (laws_FnFoldParts.j1 kj5 bt449.2.2.2 bt457.2.2.2 false t426 t427 t428 t432 t433 t434 bt449.1 bt449.2.1 bt449.2.2.1 bt457.1 bt457.2.1 bt457.2.2.1)) else (laws_FnFoldParts.j1 kj5 bt449.2.2.2 bt457.2.2.2 false t426 t427 t428 t432 t433 t434 bt449.1 bt449.2.1 bt449.2.2.1 bt457.1 bt457.2.1 bt457.2.2.1)) else (laws_FnFoldParts.j1 kj5 bt449.2.2.2 bt457.2.2.2 false t426 t427 t428 t432 t433 t434 bt449.1 bt449.2.1 bt449.2.2.1 bt457.1 bt457.2.1 bt457.2.2.1)) else (laws_FnFoldParts.j1 kj5 bt449.2.2.2 bt457.2.2.2 false t426 t427 t428 t432 t433 t434 bt449.1 bt449.2.1 bt449.2.2.1 bt457.1 bt457.2.1 bt457.2.2.1)))) else (none))) else (none))) = some r := by rw [if_neg (show ¬ (false = true) by decide)] at H; exact H
     clear H
     have H := H1
     clear H1
     by_cases c47 : (t434.length : Int) = 0
     ·rw [if_pos c47] at H
      have c47b0 : ((t434.length : Int) == 0) = true := beq_iff_eq.mpr c47
      have c47b1 : ((t434.length : Int) != 0) = false := bne_eq_false_iff_eq.mpr c47
      clear c47
      obtain rfl := Option.some.inj H
      have hnb48 := NB438_431.out
      have hnc48 := NB431_438.out
      have hnb49 := NB438_445.out
      have hnc49 := NB445_438.out
      have hcz50_0 : wc.cell? ⟨gb438, 0, none⟩ = some (.int .i64 t432) := (X11 BK438.out 0).trans rfl
      have hcz50_1 : wc.cell? ⟨gb438, 1, none⟩ = some (.int .i64 t433) := (X11 BK438.out 1).trans rfl
      have hcz50_2 : wc.cell? ⟨gb438, 2, none⟩ = some (.slice Ao15 t434.length co15) := (X11 BK438.out 2).trans rfl
      have hfz50_0 := X12 BK438.out 0
      have hfz50_1 := X12 BK438.out 1
      have hfz50_2 := X12 BK438.out 2
      go_wp2
      go_ret
      exact ⟨by first | rfl | (simp [errW_none, errW_some] <;> rfl) | (simp [*, errW_none, errW_some] <;> rfl), by repeat (first | (with_reducible first | exact HB.out | apply X5 | apply X4 | apply X3 | refine X10 ?_ GE431.out | refine X10 ?_ GE438.out | refine X10 ?_ GE445.out) | exact HB.out)⟩
     ·rw [if_neg c47] at H
      have c47b0 : ((t434.length : Int) == 0) = false := beq_eq_false_iff_ne.mpr c47
      have c47b1 : ((t434.length : Int) != 0) = true := bne_iff_ne.mpr c47
      have c47b2 : ¬ (t434 = []) := fun h_ => c47 (by rw [h_]; rfl)
      by_cases c51 : 0 < (t428.length : Int)
      ·rw [if_pos c51] at H
       have c51b0 : decide (0 < (t428.length : Int)) = true := decide_eq_true c51
       have c51b1 : decide (0 < t428.length) = true := decide_eq_true (by omega)
       clear c51
       replace H := X2 H
       obtain ⟨⟨t449, t450, t451, t454⟩, A520, H⟩ := H
       replace H : (if 1 < (t428.length : Int) then ((impl_ExprFold.f kj5 ((rd_T29 t428 1).f0) ((rd_T29 t428 1).f1) ((rd_T29 t428 1).f2)).bind fun bt457 => ((impl_Apply.f t432 t450 bt457.2.1).bind fun bt464 => (if t449 = 0 then (if bt457.1 = 0 then (if bt464.2 = true then (if bt464.1 ≥ 0 then (laws_FnFoldParts.j1 kj5 t454 bt457.2.2.2 (decide (bt464.1 ≤ 99999)) t426 t427 t428 t432 t433 t434 t449 t450 t451 bt457.1 bt457.2.1 bt457.2.2.1) else (laws_FnFoldParts.j1 kj5 t454 bt457.2.2.2 false t426 t427 t428 t432 t433 t434 t449 t450 t451 bt457.1 bt457.2.1 bt457.2.2.1)) else (laws_FnFoldParts.j1 kj5 t454 bt457.2.2.2 false t426 t427 t428 t432 t433 t434 t449 t450 t451 bt457.1 bt457.2.1 bt457.2.2.1)) else (laws_FnFoldParts.j1 kj5 t454 bt457.2.2.2 false t426 t427 t428 t432 t433 t434 t449 t450 t451 bt457.1 bt457.2.1 bt457.2.2.1)) else (laws_FnFoldParts.j1 kj5 t454 bt457.2.2.2 false t426 t427 t428 t432 t433 t434 t449 t450 t451 bt457.1 bt457.2.1 bt457.2.2.1)))) else (none)) = some r := H
       have A52 := X1 A520
       clear A520
       by_cases c53 : 1 < (t428.length : Int)
       ·rw [if_pos c53] at H
        have c53b0 : decide (1 < (t428.length : Int)) = true := decide_eq_true c53
        have c53b1 : decide (1 < t428.length) = true := decide_eq_true (by omega)
        clear c53
        replace H := X2 H
        obtain ⟨⟨t457, t458, t459, t462⟩, A540, H⟩ := H
        replace H : ((impl_Apply.f t432 t450 t458).bind fun bt464 => (if t449 = 0 then (if t457 = 0 then (if bt464.2 = true then (if bt464.1 ≥ 0 then (laws_FnFoldParts.j1 kj5 t454 t462 (decide (bt464.1 ≤ 99999)) t426 t427 t428 t432 t433 t434 t449 t450 t451 t457 t458 t459) else (laws_FnFoldParts.j1 kj5 t454 t462 false t426 t427 t428 t432 t433 t434 t449 t450 t451 t457 t458 t459)) else (laws_FnFoldParts.j1 kj5 t454 t462 false t426 t427 t428 t432 t433 t434 t449 t450 t451 t457 t458 t459)) else (laws_FnFoldParts.j1 kj5 t454 t462 false t426 t427 t428 t432 t433 t434 t449 t450 t451 t457 t458 t459)) else (laws_FnFoldParts.j1 kj5 t454 t462 false t426 t427 t428 t432 t433 t434 t449 t450 t451 t457 t458 t459))) = some r := H
        have A54 := X1 A540
        clear A540
        replace H := X2 H
        obtain ⟨⟨t464, t465⟩, A550, H⟩ := H
        replace H : (if t449 = 0 then (if t457 = 0 then (if t465 = true then (if t464 ≥ 0 then (laws_FnFoldParts.j1 kj5 t454 t462 (decide (t464 ≤ 99999)) t426 t427 t428 t432 t433 t434 t449 t450 t451 t457 t458 t459) else (laws_FnFoldParts.j1 kj5 t454 t462 false t426 t427 t428 t432 t433 t434 t449 t450 t451 t457 t458 t459)) else (laws_FnFoldParts.j1 kj5 t454 t462 false t426 t427 t428 t432 t433 t434 t449 t450 t451 t457 t458 t459)) else (laws_FnFoldParts.j1 kj5 t454 t462 false t426 t427 t428 t432 t433 t434 t449 t450 t451 t457 t458 t459)) else (laws_FnFoldParts.j1 kj5 t454 t462 false t426 t427 t428 t432 t433 t434 t449 t450 t451 t457 t458 t459)) = some r := H
        have A55 := X1 A550
        clear A550
        have HC56 := X1 H
        clear H
        have hnb57 := NB438_431.out
        have hnc57 := NB431_438.out
        have hnb58 := NB438_445.out
        have hnc58 := NB445_438.out
        have hcz59_0 : wc.cell? ⟨gb438, 0, none⟩ = some (.int .i64 t432) := (X11 BK438.out 0).trans rfl
        have hcz59_1 : wc.cell? ⟨gb438, 1, none⟩ = some (.int .i64 t433) := (X11 BK438.out 1).trans rfl
        have hcz59_2 : wc.cell? ⟨gb438, 2, none⟩ = some (.slice Ao15 t434.length co15) := (X11 BK438.out 2).trans rfl
        have hfz59_0 := X12 BK438.out 0
        have hfz59_1 := X12 BK438.out 1
        have hfz59_2 := X12 BK438.out 2
        have hnb60 := NB431_445.out
        have hnc60 := NB445_431.out
        have hcz61_0 : wc.cell? ⟨gb431, 0, none⟩ = some (.int .i64 t426) := (X11 BK431.out 0).trans rfl
        have hcz61_1 : wc.cell? ⟨gb431, 1, none⟩ = some (.int .i64 t427) := (X11 BK431.out 1).trans rfl
        have hcz61_2 : wc.cell? ⟨gb431, 2, none⟩ = some (.slice Ao10 t428.length co10) := (X11 BK431.out 2).trans rfl
        have hfz61_0 := X12 BK431.out 0
        have hfz61_1 := X12 BK431.out 1
        have hfz61_2 := X12 BK431.out 2
        have p448 : 0 ≤ (0 : Int) := (by omega)
        have q448 : 0 < (t428.length : Int) := of_decide_eq_true (by first | (with_reducible assumption) | assumption)
        obtain ⟨ad448, A448_2, c448_2, e448, hx448_0, hx448_1, hx448_2, hl448_2, hi448_2⟩ := at_T29 (Kd.N_reads' HO_432002.out).2.2 0 p448 q448
        cases e448
        obtain ⟨ce448, hce448, hMe448, hcc448⟩ := Kd.N_get HO_432002.out z29 0 p448 (by first | exact q448 | exact of_decide_eq_true (by first | (with_reducible assumption) | assumption) | (have e_ := (Kd.N_reads' HO_432002.out).1; omega))
        obtain ⟨ua448_2, uc448_2, rfl, ul448_2, ge448_2⟩ := k29_openF hMe448
        have hv448_2 := hcc448 2 _ rfl
        rw [add_field _ _ 2 (by omega)] at hv448_2
        replace hv448_2 := Option.some.inj (hv448_2.symm.trans hx448_2)
        injection hv448_2 with hva_ hvn_ hvc_
        rw [hva_] at ge448_2
        rw [hvc_] at ul448_2
        have HL448_2 := X1 (show Kd.V k29 29 _ w.heap.size _ _ ((rd_T29 t428 0).f2) from Kd.V_mk ul448_2 ge448_2)
        clear hva_ hvn_ hvc_ ge448_2 ul448_2
        clear hcc448 hce448
        have qi448 : (0 < t428.length) = True := eq_true (by omega)
        (try rw [show ((0 : Int)).toNat = 0 from rfl] at hx448_0)
        (try rw [show 0 * 3 = 0 from rfl] at hx448_0)
        (try rw [Addr.add_zero'] at hx448_0)
        (try rw [show ((0 : Int)).toNat = 0 from rfl] at hx448_1)
        (try rw [show 0 * 3 = 0 from rfl] at hx448_1)
        (try rw [Addr.add_zero'] at hx448_1)
        (try rw [show ((0 : Int)).toNat = 0 from rfl] at hx448_2)
        (try rw [show 0 * 3 = 0 from rfl] at hx448_2)
        (try rw [Addr.add_zero'] at hx448_2)
        have HR448_2 := X1 hi448_2
        have HC448_2 := X1 hl448_2
        clear hi448_2 hl448_2
        replace p448 := eq_true p448
        replace q448 := eq_true q448
        go_upto_region 13 with (first | ((with_reducible refine gate_callee (f := 27) rfl ?_); refine goesL_ (some 60) rfl rfl Try.func27 (by kernel_rfl) rfl #[.agg #[.int .i64 ((rd_T29 t428 0).f0), .int .i64 ((rd_T29 t428 0).f1), .slice A448_2 ((rd_T29 t428 0).f2).length c448_2]] rfl (by (try simp only [List.map_toArray, List.map_cons, List.map_nil]); first | done | rfl | (simp only [List.length_drop, List.length_take]; rfl)) ?_; (with_reducible refine (impl_ExprFold.calls kj5 ((rd_T29 t428 0).f0) ((rd_T29 t428 0).f1) _ _ ((rd_T29 t428 0).f2) t449 t450 t451 t454 _ ?side1 ?side2 A52.out).mono ?_); (case side1 => repeat (first | exact (by repeat (first | (with_reducible exact HR448_2.out) | (with_reducible refine Kd.C_alloc ?_ _) | (with_reducible refine Kd.C_drewN ?_ _) | (with_reducible refine Kd.C_drew ?_) | exact HR448_2.out)) | (with_reducible refine Kd.C_alloc ?_ _) | (with_reducible refine Kd.C_drewN ?_ _) | (with_reducible refine Kd.C_drew ?_))); (case side2 => exact HC448_2.out); rintro e w62 ⟨v452, rfl, ho0, hb⟩; refine ⟨_, rfl, ?_⟩; have n0_ := X1 (Kd.N_elder' (by (with_reducible repeat (first | apply Kd.N_alloc | apply Kd.N_drewN | apply Kd.N_drew)); exact HO_432002.out) (Kd.N_base ho0) hb); have n1_ := X1 (Kd.N_elder' (by (with_reducible repeat (first | apply Kd.N_alloc | apply Kd.N_drewN | apply Kd.N_drew)); exact HO_439002.out) (Kd.N_base ho0) hb); have n2_ := X1 (Kd.N_elder' (by (with_reducible repeat (first | apply Kd.N_alloc | apply Kd.N_drewN | apply Kd.N_drew)); exact HO_446002.out) (Kd.N_base ho0) hb); have n3_ := X1 (Kd.V_elder' (by (with_reducible repeat (first | apply Kd.V_alloc | apply Kd.V_drewN | apply Kd.V_drew)); exact HL448_2.out) (Kd.N_base ho0) hb); have n4_ := X1 (Kd.N_lower (Kd.N_mono (ok' := fun k_ => some k_ ≠ (.slice (some ad448) t428.length co10 : Value).ownBlock ∧ some k_ ≠ (.slice Ao15 t434.length co15 : Value).ownBlock ∧ some k_ ≠ (.slice Ao22 t441.length co22 : Value).ownBlock ∧ k_ ≠ gb431 ∧ k_ ≠ gb438 ∧ k_ ≠ gb445) ho0 (fun k_ hk_ => ⟨(Kd.fresh' (Kd.N_lt (by (with_reducible repeat (first | apply Kd.N_alloc | apply Kd.N_drewN | apply Kd.N_drew)); exact HO_432002.out)) k_ hk_), (Kd.fresh' (Kd.N_lt (by (with_reducible repeat (first | apply Kd.N_alloc | apply Kd.N_drewN | apply Kd.N_drew)); exact HO_439002.out)) k_ hk_), (Kd.fresh' (Kd.N_lt (by (with_reducible repeat (first | apply Kd.N_alloc | apply Kd.N_drewN | apply Kd.N_drew)); exact HO_446002.out)) k_ hk_), (Kd.freshB (g := gb431) (o := .cells #[.int .i64 t426, .int .i64 t427, .slice (some ad448) t428.length co10] 29 (0, 0)) (by (with_reducible repeat (first | refine X7 ?_ _ | refine X8 ?_ | refine X6 ?_ _)); exact BK431.out) k_ hk_), (Kd.freshB (g := gb438) (o := .cells #[.int .i64 t432, .int .i64 t433, .slice Ao15 t434.length co15] 29 (0, 0)) (by (with_reducible repeat (first | refine X7 ?_ _ | refine X8 ?_ | refine X6 ?_ _)); exact BK438.out) k_ hk_), (Kd.freshB (g := gb445) (o := .cells #[.int .i64 t439, .int .i64 t440, .slice Ao22 t441.length co22] 29 (0, 0)) (by (with_reducible repeat (first | refine X7 ?_ _ | refine X8 ?_ | refine X6 ?_ _)); exact BK445.out) k_ hk_)⟩)) (below_size (by repeat (first | (with_reducible first | exact HB.out | apply X5 | apply X4 | apply X3 | refine X10 ?_ GE431.out | refine X10 ?_ GE438.out | refine X10 ?_ GE445.out) | exact HB.out)))); have n5_ := X1 (blk_below (g := gb431) (o := .cells #[.int .i64 t426, .int .i64 t427, .slice (some ad448) t428.length co10] 29 (0, 0)) (by (with_reducible repeat (first | refine X7 ?_ _ | refine X8 ?_ | refine X6 ?_ _)); exact BK431.out) hb); have n6_ := X1 (blk_below (g := gb438) (o := .cells #[.int .i64 t432, .int .i64 t433, .slice Ao15 t434.length co15] 29 (0, 0)) (by (with_reducible repeat (first | refine X7 ?_ _ | refine X8 ?_ | refine X6 ?_ _)); exact BK438.out) hb); have n7_ := X1 (blk_below (g := gb445) (o := .cells #[.int .i64 t439, .int .i64 t440, .slice Ao22 t441.length co22] 29 (0, 0)) (by (with_reducible repeat (first | refine X7 ?_ _ | refine X8 ?_ | refine X6 ?_ _)); exact BK445.out) hb); have n8_ := X1 (Kd.C_below (by repeat (first | (with_reducible exact HR448_2.out) | (with_reducible refine Kd.C_alloc ?_ _) | (with_reducible refine Kd.C_drewN ?_ _) | (with_reducible refine Kd.C_drew ?_) | exact HR448_2.out)) hb); have n9_ := X1 (below_step (by repeat (first | (with_reducible first | exact HB.out | apply X5 | apply X4 | apply X3 | refine X10 ?_ GE431.out | refine X10 ?_ GE438.out | refine X10 ?_ GE445.out) | exact HB.out)) hb); clear HO_432002; clear HO_439002; clear HO_446002; clear HL448_2; clear BK431; clear BK438; clear BK445; clear HR448_2; clear HB; have HO_432002 := n0_; have HO_439002 := n1_; have HO_446002 := n2_; have HL448_2 := n3_; have HO453 := n4_; have BK431 := n5_; have BK438 := n6_; have BK445 := n7_; have HR448_2 := n8_; have HB := n9_; clear n0_ n1_ n2_ n3_ n4_ n5_ n6_ n7_ n8_ n9_; (try clear hb); (try clear hb2); (try clear hk); (try clear hi); (try clear ho0)) | ((with_reducible refine gate_dst (N := 8) rfl ?_); refine box_event ?hg (N := 8) ?hd (cs := #[.int .i64 0, .int .i64 0, .slice none 0 0]) (t := 29) ?hr ?_; (case hd => rfl); (case hg => rfl); (case hr => first | (go_simp; done) | (go_simp; rfl)); intro gb455 hg w63 hbox hb; have n0_ := X1 (Kd.N_below (Kd.N_elderB (by (with_reducible repeat (first | apply Kd.N_alloc | apply Kd.N_drewN | apply Kd.N_drew)); exact HO_432002.out) gb455 (Nat.le_of_eq hg.symm)) hb); have n1_ := X1 (Kd.N_below (Kd.N_elderB (by (with_reducible repeat (first | apply Kd.N_alloc | apply Kd.N_drewN | apply Kd.N_drew)); exact HO_439002.out) gb455 (Nat.le_of_eq hg.symm)) hb); have n2_ := X1 (Kd.N_below (Kd.N_elderB (by (with_reducible repeat (first | apply Kd.N_alloc | apply Kd.N_drewN | apply Kd.N_drew)); exact HO_446002.out) gb455 (Nat.le_of_eq hg.symm)) hb); have n3_ := X1 (Kd.V_below (Kd.V_elderB (by (with_reducible repeat (first | apply Kd.V_alloc | apply Kd.V_drewN | apply Kd.V_drew)); exact HL448_2.out) gb455 (Nat.le_of_eq hg.symm)) hb); have n4_ := X1 (Kd.N_below (Kd.N_elderB (by (with_reducible repeat (first | apply Kd.N_alloc | apply Kd.N_drewN | apply Kd.N_drew)); exact HO453.out) gb455 (Nat.le_of_eq hg.symm)) hb); have n5_ := X1 (blk_below (g := gb431) (o := .cells #[.int .i64 t426, .int .i64 t427, .slice (some ad448) t428.length co10] 29 (0, 0)) (by (with_reducible repeat (first | refine X7 ?_ _ | refine X8 ?_ | refine X6 ?_ _)); exact BK431.out) hb); have n6_ := X1 (blk_below (g := gb438) (o := .cells #[.int .i64 t432, .int .i64 t433, .slice Ao15 t434.length co15] 29 (0, 0)) (by (with_reducible repeat (first | refine X7 ?_ _ | refine X8 ?_ | refine X6 ?_ _)); exact BK438.out) hb); have n7_ := X1 (blk_below (g := gb445) (o := .cells #[.int .i64 t439, .int .i64 t440, .slice Ao22 t441.length co22] 29 (0, 0)) (by (with_reducible repeat (first | refine X7 ?_ _ | refine X8 ?_ | refine X6 ?_ _)); exact BK445.out) hb); have n8_ := X1 (Kd.C_below (by repeat (first | (with_reducible exact HR448_2.out) | (with_reducible refine Kd.C_alloc ?_ _) | (with_reducible refine Kd.C_drewN ?_ _) | (with_reducible refine Kd.C_drew ?_) | exact HR448_2.out)) hb); have n9_ := X1 (below_step (by repeat (first | (with_reducible first | exact HB.out | apply X5 | apply X4 | apply X3 | refine X10 ?_ GE431.out | refine X10 ?_ GE438.out | refine X10 ?_ GE445.out) | exact HB.out)) hb); have n10_ := X1 (hbox); have n11_ := X1 ((by rw [hg]; exact (below_size (by repeat (first | (with_reducible first | exact HB.out | apply X5 | apply X4 | apply X3 | refine X10 ?_ GE431.out | refine X10 ?_ GE438.out | refine X10 ?_ GE445.out) | exact HB.out))) : w.heap.size ≤ gb455)); have n12_ := X1 ((by rw [hg]; exact (below_size (by repeat (first | (with_reducible first | exact HB.out | apply X5 | apply X4 | apply X3 | refine X10 ?_ GE431.out | refine X10 ?_ GE438.out | refine X10 ?_ GE445.out) | exact HB.out))) : w.heap.size ≤ gb455)); have n13_ := X1 ((by rw [hg]; exact Nat.ne_of_lt (blk_lt (g := gb431) (o := .cells #[.int .i64 t426, .int .i64 t427, .slice (some ad448) t428.length co10] 29 (0, 0)) (by (with_reducible repeat (first | refine X7 ?_ _ | refine X8 ?_ | refine X6 ?_ _)); exact BK431.out)) : gb431 ≠ gb455)); have n14_ := X1 ((by rw [hg]; exact Nat.ne_of_gt (blk_lt (g := gb431) (o := .cells #[.int .i64 t426, .int .i64 t427, .slice (some ad448) t428.length co10] 29 (0, 0)) (by (with_reducible repeat (first | refine X7 ?_ _ | refine X8 ?_ | refine X6 ?_ _)); exact BK431.out)) : gb455 ≠ gb431)); have n15_ := X1 ((by rw [hg]; exact Nat.ne_of_lt (blk_lt (g := gb438) (o := .cells #[.int .i64 t432, .int .i64 t433, .slice Ao15 t434.length co15] 29 (0, 0)) (by (with_reducible repeat (first | refine X7 ?_ _ | refine X8 ?_ | refine X6 ?_ _)); exact BK438.out)) : gb438 ≠ gb455)); have n16_ := X1 ((by rw [hg]; exact Nat.ne_of_gt (blk_lt (g := gb438) (o := .cells #[.int .i64 t432, .int .i64 t433, .slice Ao15 t434.length co15] 29 (0, 0)) (by (with_reducible repeat (first | refine X7 ?_ _ | refine X8 ?_ | refine X6 ?_ _)); exact BK438.out)) : gb455 ≠ gb438)); have n17_ := X1 ((by rw [hg]; exact Nat.ne_of_lt (blk_lt (g := gb445) (o := .cells #[.int .i64 t439, .int .i64 t440, .slice Ao22 t441.length co22] 29 (0, 0)) (by (with_reducible repeat (first | refine X7 ?_ _ | refine X8 ?_ | refine X6 ?_ _)); exact BK445.out)) : gb445 ≠ gb455)); have n18_ := X1 ((by rw [hg]; exact Nat.ne_of_gt (blk_lt (g := gb445) (o := .cells #[.int .i64 t439, .int .i64 t440, .slice Ao22 t441.length co22] 29 (0, 0)) (by (with_reducible repeat (first | refine X7 ?_ _ | refine X8 ?_ | refine X6 ?_ _)); exact BK445.out)) : gb455 ≠ gb445)); clear HO_432002; clear HO_439002; clear HO_446002; clear HL448_2; clear HO453; clear BK431; clear BK438; clear BK445; clear HR448_2; clear HB; have HO_432002 := n0_; have HO_439002 := n1_; have HO_446002 := n2_; have HL448_2 := n3_; have HO453 := n4_; have BK431 := n5_; have BK438 := n6_; have BK445 := n7_; have HR448_2 := n8_; have HB := n9_; have BK455 := n10_; have GW455 := n11_; have GE455 := n12_; have NB431_455 := n13_; have NB455_431 := n14_; have NB438_455 := n15_; have NB455_438 := n16_; have NB445_455 := n17_; have NB455_445 := n18_; clear n0_ n1_ n2_ n3_ n4_ n5_ n6_ n7_ n8_ n9_ n10_ n11_ n12_ n13_ n14_ n15_ n16_ n17_ n18_; clear hb hbox hg; have hnb64 := NB455_431.out; have hnc64 := NB431_455.out; have hnb65 := NB455_438.out; have hnc65 := NB438_455.out; have hnb66 := NB455_445.out; have hnc66 := NB445_455.out; have hcz67_0 : w63.cell? ⟨gb455, 0, none⟩ = some (.int .i64 0) := (X11 BK455.out 0).trans rfl; have hcz67_1 : w63.cell? ⟨gb455, 1, none⟩ = some (.int .i64 0) := (X11 BK455.out 1).trans rfl; have hcz67_2 : w63.cell? ⟨gb455, 2, none⟩ = some (.slice none 0 0) := (X11 BK455.out 2).trans rfl; have hfz67_0 := X12 BK455.out 0; have hfz67_1 := X12 BK455.out 1; have hfz67_2 := X12 BK455.out 2; obtain ⟨Ao68, co68, eo68⟩ := Kd.N_slice HO453.out; subst eo68) | ((with_reducible refine gate_store (t := 29) (p := 8) rfl ?_); refine store_event (t := 29) (p := 8) (v := ?vo_w69) (w1 := (((w63.setCell ⟨gb455, 0, none⟩ (.int .i64 t449)).setCell ⟨gb455, 1, none⟩ (.int .i64 t450)).setCell ⟨gb455, 2, none⟩ (.slice Ao68 t451.length co68))) ?hg ?ho ?hn ?hr ?_; (case ho => rfl); (case hg => rfl); (case hn => rfl); (case hr => first | (go_simp; done) | (go_simp; rfl)); intro w69 hw; have n0_ : Aside0 (Kd.N k29 29 w69 w.heap.size (fun k_ => some k_ ≠ (.slice Ao15 t434.length co15 : Value).ownBlock ∧ some k_ ≠ (.slice Ao22 t441.length co22 : Value).ownBlock ∧ some k_ ≠ (.slice Ao68 t451.length co68 : Value).ownBlock ∧ k_ ≠ gb431 ∧ k_ ≠ gb438 ∧ k_ ≠ gb445 ∧ k_ ≠ gb455) (.slice (some ad448) t428.length co10) t428) := ⟨(by rw [hw]; exact (by (with_reducible repeat (first | apply Kd.N_alloc | apply Kd.N_drewN | apply Kd.N_drew)); exact Kd.N_mono (Kd.N_far (p := ⟨gb455, 2, none⟩) (Kd.N_far (p := ⟨gb455, 1, none⟩) (Kd.N_far (p := ⟨gb455, 0, none⟩) (Kd.N_mono HO_432002.out (fun k_ hk => (⟨hk, hk.2⟩ : _ ∧ k_ ≠ gb455))) (fun _ hk => hk.2) (.int .i64 t449)) (fun _ hk => hk.2) (.int .i64 t450)) (fun _ hk => hk.2) (.slice Ao68 t451.length co68)) (fun _ hk => ⟨hk.1.1.1.1, ⟨hk.1.1.1.2.1, ⟨hk.1.1.2, ⟨hk.1.1.1.2.2.1, ⟨hk.1.1.1.2.2.2.1, ⟨hk.1.1.1.2.2.2.2, hk.1.2⟩⟩⟩⟩⟩⟩)))⟩; have n1_ : Aside0 (Kd.N k29 29 w69 w.heap.size (fun k_ => some k_ ≠ (.slice (some ad448) t428.length co10 : Value).ownBlock ∧ some k_ ≠ (.slice Ao22 t441.length co22 : Value).ownBlock ∧ some k_ ≠ (.slice Ao68 t451.length co68 : Value).ownBlock ∧ k_ ≠ gb431 ∧ k_ ≠ gb438 ∧ k_ ≠ gb445 ∧ k_ ≠ gb455) (.slice Ao15 t434.length co15) t434) := ⟨(by rw [hw]; exact (by (with_reducible repeat (first | apply Kd.N_alloc | apply Kd.N_drewN | apply Kd.N_drew)); exact Kd.N_mono (Kd.N_far (p := ⟨gb455, 2, none⟩) (Kd.N_far (p := ⟨gb455, 1, none⟩) (Kd.N_far (p := ⟨gb455, 0, none⟩) (Kd.N_mono HO_439002.out (fun k_ hk => (⟨hk, hk.2⟩ : _ ∧ k_ ≠ gb455))) (fun _ hk => hk.2) (.int .i64 t449)) (fun _ hk => hk.2) (.int .i64 t450)) (fun _ hk => hk.2) (.slice Ao68 t451.length co68)) (fun _ hk => ⟨hk.1.1.1.1, ⟨hk.1.1.1.2.1, ⟨hk.1.1.2, ⟨hk.1.1.1.2.2.1, ⟨hk.1.1.1.2.2.2.1, ⟨hk.1.1.1.2.2.2.2, hk.1.2⟩⟩⟩⟩⟩⟩)))⟩; have n2_ : Aside0 (Kd.N k29 29 w69 w.heap.size (fun k_ => some k_ ≠ (.slice (some ad448) t428.length co10 : Value).ownBlock ∧ some k_ ≠ (.slice Ao15 t434.length co15 : Value).ownBlock ∧ some k_ ≠ (.slice Ao68 t451.length co68 : Value).ownBlock ∧ k_ ≠ gb431 ∧ k_ ≠ gb438 ∧ k_ ≠ gb445 ∧ k_ ≠ gb455) (.slice Ao22 t441.length co22) t441) := ⟨(by rw [hw]; exact (by (with_reducible repeat (first | apply Kd.N_alloc | apply Kd.N_drewN | apply Kd.N_drew)); exact Kd.N_mono (Kd.N_far (p := ⟨gb455, 2, none⟩) (Kd.N_far (p := ⟨gb455, 1, none⟩) (Kd.N_far (p := ⟨gb455, 0, none⟩) (Kd.N_mono HO_446002.out (fun k_ hk => (⟨hk, hk.2⟩ : _ ∧ k_ ≠ gb455))) (fun _ hk => hk.2) (.int .i64 t449)) (fun _ hk => hk.2) (.int .i64 t450)) (fun _ hk => hk.2) (.slice Ao68 t451.length co68)) (fun _ hk => ⟨hk.1.1.1.1, ⟨hk.1.1.1.2.1, ⟨hk.1.1.2, ⟨hk.1.1.1.2.2.1, ⟨hk.1.1.1.2.2.2.1, ⟨hk.1.1.1.2.2.2.2, hk.1.2⟩⟩⟩⟩⟩⟩)))⟩; have n3_ : Aside0 (Kd.V k29 29 w69 w.heap.size (fun k_ => some k_ ≠ (.slice (some ad448) t428.length co10 : Value).ownBlock ∧ some k_ ≠ (.slice Ao15 t434.length co15 : Value).ownBlock ∧ some k_ ≠ (.slice Ao22 t441.length co22 : Value).ownBlock ∧ some k_ ≠ (.slice Ao68 t451.length co68 : Value).ownBlock ∧ k_ ≠ gb431 ∧ k_ ≠ gb438 ∧ k_ ≠ gb445 ∧ k_ ≠ gb455) (.slice A448_2 ((rd_T29 t428 0).f2).length c448_2) ((rd_T29 t428 0).f2)) := ⟨(by rw [hw]; exact (by (with_reducible repeat (first | apply Kd.V_alloc | apply Kd.V_drewN | apply Kd.V_drew)); exact Kd.V_mono (Kd.V_far (p := ⟨gb455, 2, none⟩) (Kd.V_far (p := ⟨gb455, 1, none⟩) (Kd.V_far (p := ⟨gb455, 0, none⟩) (Kd.V_mono HL448_2.out (fun k_ hk => (⟨hk, hk.2⟩ : _ ∧ k_ ≠ gb455))) (fun _ hk => hk.2) (.int .i64 t449)) (fun _ hk => hk.2) (.int .i64 t450)) (fun _ hk => hk.2) (.slice Ao68 t451.length co68)) (fun _ hk => ⟨hk.1.1.1.2, ⟨hk.1.1.1.1.1, ⟨hk.1.1.1.1.2.1, ⟨hk.1.1.2, ⟨hk.1.1.1.1.2.2.1, ⟨hk.1.1.1.1.2.2.2.1, ⟨hk.1.1.1.1.2.2.2.2, hk.1.2⟩⟩⟩⟩⟩⟩⟩)))⟩; have n4_ : Aside0 (Kd.N k29 29 w69 w.heap.size (fun k_ => some k_ ≠ (.slice (some ad448) t428.length co10 : Value).ownBlock ∧ some k_ ≠ (.slice Ao15 t434.length co15 : Value).ownBlock ∧ some k_ ≠ (.slice Ao22 t441.length co22 : Value).ownBlock ∧ k_ ≠ gb431 ∧ k_ ≠ gb438 ∧ k_ ≠ gb445 ∧ k_ ≠ gb455) (.slice Ao68 t451.length co68) t451) := ⟨(by rw [hw]; exact (by (with_reducible repeat (first | apply Kd.N_alloc | apply Kd.N_drewN | apply Kd.N_drew)); exact Kd.N_mono (Kd.N_far (p := ⟨gb455, 2, none⟩) (Kd.N_far (p := ⟨gb455, 1, none⟩) (Kd.N_far (p := ⟨gb455, 0, none⟩) (Kd.N_mono HO453.out (fun k_ hk => (⟨hk, hk.2⟩ : _ ∧ k_ ≠ gb455))) (fun _ hk => hk.2) (.int .i64 t449)) (fun _ hk => hk.2) (.int .i64 t450)) (fun _ hk => hk.2) (.slice Ao68 t451.length co68)) (fun _ hk => ⟨hk.1.1.1, ⟨hk.1.1.2.1, ⟨hk.1.1.2.2.1, ⟨hk.1.1.2.2.2.1, ⟨hk.1.1.2.2.2.2.1, ⟨hk.1.1.2.2.2.2.2, hk.1.2⟩⟩⟩⟩⟩⟩)))⟩; have n5_ : Aside0 (w69.heap[gb431]? = some (.cells #[.int .i64 t426, .int .i64 t427, .slice (some ad448) t428.length co10] 29 (0, 0))) := ⟨(by rw [hw]; exact (by (with_reducible repeat (first | refine X7 ?_ _ | refine X8 ?_ | refine X6 ?_ _)); refine blk_far ?_ NB431_455.out _; (with_reducible repeat (first | refine X7 ?_ _ | refine X8 ?_ | refine X6 ?_ _)); refine blk_far ?_ NB431_455.out _; (with_reducible repeat (first | refine X7 ?_ _ | refine X8 ?_ | refine X6 ?_ _)); refine blk_far ?_ NB431_455.out _; (with_reducible repeat (first | refine X7 ?_ _ | refine X8 ?_ | refine X6 ?_ _)); exact BK431.out))⟩; have n6_ : Aside0 (w69.heap[gb438]? = some (.cells #[.int .i64 t432, .int .i64 t433, .slice Ao15 t434.length co15] 29 (0, 0))) := ⟨(by rw [hw]; exact (by (with_reducible repeat (first | refine X7 ?_ _ | refine X8 ?_ | refine X6 ?_ _)); refine blk_far ?_ NB438_455.out _; (with_reducible repeat (first | refine X7 ?_ _ | refine X8 ?_ | refine X6 ?_ _)); refine blk_far ?_ NB438_455.out _; (with_reducible repeat (first | refine X7 ?_ _ | refine X8 ?_ | refine X6 ?_ _)); refine blk_far ?_ NB438_455.out _; (with_reducible repeat (first | refine X7 ?_ _ | refine X8 ?_ | refine X6 ?_ _)); exact BK438.out))⟩; have n7_ : Aside0 (w69.heap[gb445]? = some (.cells #[.int .i64 t439, .int .i64 t440, .slice Ao22 t441.length co22] 29 (0, 0))) := ⟨(by rw [hw]; exact (by (with_reducible repeat (first | refine X7 ?_ _ | refine X8 ?_ | refine X6 ?_ _)); refine blk_far ?_ NB445_455.out _; (with_reducible repeat (first | refine X7 ?_ _ | refine X8 ?_ | refine X6 ?_ _)); refine blk_far ?_ NB445_455.out _; (with_reducible repeat (first | refine X7 ?_ _ | refine X8 ?_ | refine X6 ?_ _)); refine blk_far ?_ NB445_455.out _; (with_reducible repeat (first | refine X7 ?_ _ | refine X8 ?_ | refine X6 ?_ _)); exact BK445.out))⟩; have n8_ : Aside0 (w69.heap[gb455]? = some (.cells #[.int .i64 t449, .int .i64 t450, .slice Ao68 t451.length co68] 29 (0, 0))) := ⟨(by rw [hw]; exact (by (with_reducible repeat (first | refine X7 ?_ _ | refine X8 ?_ | refine X6 ?_ _)); refine blk_put (cs := #[.int .i64 t449, .int .i64 t450, .slice none 0 0]) ?_ 2 _ rfl; (with_reducible repeat (first | refine X7 ?_ _ | refine X8 ?_ | refine X6 ?_ _)); refine blk_put (cs := #[.int .i64 t449, .int .i64 0, .slice none 0 0]) ?_ 1 _ rfl; (with_reducible repeat (first | refine X7 ?_ _ | refine X8 ?_ | refine X6 ?_ _)); refine blk_put (cs := #[.int .i64 0, .int .i64 0, .slice none 0 0]) ?_ 0 _ rfl; (with_reducible repeat (first | refine X7 ?_ _ | refine X8 ?_ | refine X6 ?_ _)); exact BK455.out))⟩; have n9_ : Aside0 (Below w.heap.size w w69) := ⟨(by rw [hw]; exact (by repeat (first | (with_reducible first | exact HB.out | apply X5 | apply X4 | apply X3 | refine X10 ?_ GE431.out | refine X10 ?_ GE438.out | refine X10 ?_ GE445.out | refine X10 ?_ GE455.out) | exact HB.out)))⟩; clear hw; clear HO_432002; clear HO_439002; clear HO_446002; clear HL448_2; clear HO453; clear BK431; clear BK438; clear BK445; clear BK455; clear HB; have HO_432002 := n0_; have HO_439002 := n1_; have HO_446002 := n2_; have HL448_2 := n3_; have HO453 := n4_; have BK431 := n5_; have BK438 := n6_; have BK445 := n7_; have BK455 := n8_; have HB := n9_; clear n0_ n1_ n2_ n3_ n4_ n5_ n6_ n7_ n8_ n9_; have hcz70_0 : w69.cell? ⟨gb431, 0, none⟩ = some (.int .i64 t426) := (X11 BK431.out 0).trans rfl; have hcz70_1 : w69.cell? ⟨gb431, 1, none⟩ = some (.int .i64 t427) := (X11 BK431.out 1).trans rfl; have hcz70_2 : w69.cell? ⟨gb431, 2, none⟩ = some (.slice (some ad448) t428.length co10) := (X11 BK431.out 2).trans rfl; have hfz70_0 := X12 BK431.out 0; have hfz70_1 := X12 BK431.out 1; have hfz70_2 := X12 BK431.out 2; have p456 : 0 ≤ (1 : Int) := (by omega); have q456 : 1 < (t428.length : Int) := of_decide_eq_true (by first | (with_reducible assumption) | assumption); obtain ⟨ad456, A456_2, c456_2, e456, hx456_0, hx456_1, hx456_2, hl456_2, hi456_2⟩ := at_T29 (Kd.N_reads' HO_432002.out).2.2 1 p456 q456; obtain rfl : ad448 = ad456 := (by injection e456); obtain ⟨ce456, hce456, hMe456, hcc456⟩ := Kd.N_get HO_432002.out z29 1 p456 (by first | exact q456 | exact of_decide_eq_true (by first | (with_reducible assumption) | assumption) | (have e_ := (Kd.N_reads' HO_432002.out).1; omega)); obtain ⟨ua456_2, uc456_2, rfl, ul456_2, ge456_2⟩ := k29_openF hMe456; have hv456_2 := hcc456 2 _ rfl; rw [add_field _ _ 2 (by omega)] at hv456_2; replace hv456_2 := Option.some.inj (hv456_2.symm.trans hx456_2); injection hv456_2 with hva_ hvn_ hvc_; rw [hva_] at ge456_2; rw [hvc_] at ul456_2; have HL456_2 := X1 (show Kd.V k29 29 _ w.heap.size _ _ ((rd_T29 t428 1).f2) from Kd.V_mk ul456_2 ge456_2); clear hva_ hvn_ hvc_ ge456_2 ul456_2; clear hcc456 hce456; (try simp only [show (1 : Int).toNat = 1 from rfl, Nat.reduceMul, Nat.reduceEqDiff, Go.Addr.add, ↓reduceIte] at hx456_0); (try simp only [show (1 : Int).toNat = 1 from rfl, Nat.reduceMul, Nat.reduceEqDiff, Go.Addr.add, ↓reduceIte] at hx456_1); (try simp only [show (1 : Int).toNat = 1 from rfl, Nat.reduceMul, Nat.reduceEqDiff, Go.Addr.add, ↓reduceIte] at hx456_2); have qi456 : (1 < t428.length) = True := eq_true (by omega); (try rw [show ((1 : Int)).toNat = 1 from rfl] at hx456_0); (try rw [show 1 * 3 = 3 from rfl] at hx456_0); (try rw [show ((1 : Int)).toNat = 1 from rfl] at hx456_1); (try rw [show 1 * 3 = 3 from rfl] at hx456_1); (try rw [show ((1 : Int)).toNat = 1 from rfl] at hx456_2); (try rw [show 1 * 3 = 3 from rfl] at hx456_2); have HR456_2 := X1 hi456_2; have HC456_2 := X1 hl456_2; clear hi456_2 hl456_2; replace p456 := eq_true p456; replace q456 := eq_true q456) | ((with_reducible refine gate_callee (f := 27) rfl ?_); refine goesL_ (some 68) rfl rfl Try.func27 (by kernel_rfl) rfl #[.agg #[.int .i64 ((rd_T29 t428 1).f0), .int .i64 ((rd_T29 t428 1).f1), .slice A456_2 ((rd_T29 t428 1).f2).length c456_2]] rfl (by (try simp only [List.map_toArray, List.map_cons, List.map_nil]); first | done | rfl | (simp only [List.length_drop, List.length_take]; rfl)) ?_; (with_reducible refine (impl_ExprFold.calls kj5 ((rd_T29 t428 1).f0) ((rd_T29 t428 1).f1) _ _ ((rd_T29 t428 1).f2) t457 t458 t459 t462 _ ?side1 ?side2 A54.out).mono ?_); (case side1 => repeat (first | exact (by repeat (first | (with_reducible exact HR456_2.out) | (with_reducible refine Kd.C_alloc ?_ _) | (with_reducible refine Kd.C_drewN ?_ _) | (with_reducible refine Kd.C_drew ?_) | exact HR456_2.out)) | (with_reducible refine Kd.C_alloc ?_ _) | (with_reducible refine Kd.C_drewN ?_ _) | (with_reducible refine Kd.C_drew ?_))); (case side2 => exact HC456_2.out); rintro e w71 ⟨v460, rfl, ho0, hb⟩; refine ⟨_, rfl, ?_⟩; have n0_ := X1 (Kd.N_elder' (by (with_reducible repeat (first | apply Kd.N_alloc | apply Kd.N_drewN | apply Kd.N_drew)); exact HO_432002.out) (Kd.N_base ho0) hb); have n1_ := X1 (Kd.N_elder' (by (with_reducible repeat (first | apply Kd.N_alloc | apply Kd.N_drewN | apply Kd.N_drew)); exact HO_439002.out) (Kd.N_base ho0) hb); have n2_ := X1 (Kd.N_elder' (by (with_reducible repeat (first | apply Kd.N_alloc | apply Kd.N_drewN | apply Kd.N_drew)); exact HO_446002.out) (Kd.N_base ho0) hb); have n3_ := X1 (Kd.V_elder' (by (with_reducible repeat (first | apply Kd.V_alloc | apply Kd.V_drewN | apply Kd.V_drew)); exact HL448_2.out) (Kd.N_base ho0) hb); have n4_ := X1 (Kd.N_elder' (by (with_reducible repeat (first | apply Kd.N_alloc | apply Kd.N_drewN | apply Kd.N_drew)); exact HO453.out) (Kd.N_base ho0) hb); have n5_ := X1 (Kd.V_elder' (by (with_reducible repeat (first | apply Kd.V_alloc | apply Kd.V_drewN | apply Kd.V_drew)); exact HL456_2.out) (Kd.N_base ho0) hb); have n6_ := X1 (Kd.N_lower (Kd.N_mono (ok' := fun k_ => some k_ ≠ (.slice (some ad448) t428.length co10 : Value).ownBlock ∧ some k_ ≠ (.slice Ao15 t434.length co15 : Value).ownBlock ∧ some k_ ≠ (.slice Ao22 t441.length co22 : Value).ownBlock ∧ some k_ ≠ (.slice Ao68 t451.length co68 : Value).ownBlock ∧ k_ ≠ gb431 ∧ k_ ≠ gb438 ∧ k_ ≠ gb445 ∧ k_ ≠ gb455) ho0 (fun k_ hk_ => ⟨(Kd.fresh' (Kd.N_lt (by (with_reducible repeat (first | apply Kd.N_alloc | apply Kd.N_drewN | apply Kd.N_drew)); exact HO_432002.out)) k_ hk_), (Kd.fresh' (Kd.N_lt (by (with_reducible repeat (first | apply Kd.N_alloc | apply Kd.N_drewN | apply Kd.N_drew)); exact HO_439002.out)) k_ hk_), (Kd.fresh' (Kd.N_lt (by (with_reducible repeat (first | apply Kd.N_alloc | apply Kd.N_drewN | apply Kd.N_drew)); exact HO_446002.out)) k_ hk_), (Kd.fresh' (Kd.N_lt (by (with_reducible repeat (first | apply Kd.N_alloc | apply Kd.N_drewN | apply Kd.N_drew)); exact HO453.out)) k_ hk_), (Kd.freshB (g := gb431) (o := .cells #[.int .i64 t426, .int .i64 t427, .slice (some ad448) t428.length co10] 29 (0, 0)) (by (with_reducible repeat (first | refine X7 ?_ _ | refine X8 ?_ | refine X6 ?_ _)); exact BK431.out) k_ hk_), (Kd.freshB (g := gb438) (o := .cells #[.int .i64 t432, .int .i64 t433, .slice Ao15 t434.length co15] 29 (0, 0)) (by (with_reducible repeat (first | refine X7 ?_ _ | refine X8 ?_ | refine X6 ?_ _)); exact BK438.out) k_ hk_), (Kd.freshB (g := gb445) (o := .cells #[.int .i64 t439, .int .i64 t440, .slice Ao22 t441.length co22] 29 (0, 0)) (by (with_reducible repeat (first | refine X7 ?_ _ | refine X8 ?_ | refine X6 ?_ _)); exact BK445.out) k_ hk_), (Kd.freshB (g := gb455) (o := .cells #[.int .i64 t449, .int .i64 t450, .slice Ao68 t451.length co68] 29 (0, 0)) (by (with_reducible repeat (first | refine X7 ?_ _ | refine X8 ?_ | refine X6 ?_ _)); exact BK455.out) k_ hk_)⟩)) (below_size (by repeat (first | (with_reducible first | exact HB.out | apply X5 | apply X4 | apply X3 | refine X10 ?_ GE431.out | refine X10 ?_ GE438.out | refine X10 ?_ GE445.out | refine X10 ?_ GE455.out) | exact HB.out)))); have n7_ := X1 (blk_below (g := gb431) (o := .cells #[.int .i64 t426, .int .i64 t427, .slice (some ad448) t428.length co10] 29 (0, 0)) (by (with_reducible repeat (first | refine X7 ?_ _ | refine X8 ?_ | refine X6 ?_ _)); exact BK431.out) hb); have n8_ := X1 (blk_below (g := gb438) (o := .cells #[.int .i64 t432, .int .i64 t433, .slice Ao15 t434.length co15] 29 (0, 0)) (by (with_reducible repeat (first | refine X7 ?_ _ | refine X8 ?_ | refine X6 ?_ _)); exact BK438.out) hb); have n9_ := X1 (blk_below (g := gb445) (o := .cells #[.int .i64 t439, .int .i64 t440, .slice Ao22 t441.length co22] 29 (0, 0)) (by (with_reducible repeat (first | refine X7 ?_ _ | refine X8 ?_ | refine X6 ?_ _)); exact BK445.out) hb); have n10_ := X1 (Kd.V_reads' n3_.out).2.2; have n11_ := X1 (blk_below (g := gb455) (o := .cells #[.int .i64 t449, .int .i64 t450, .slice Ao68 t451.length co68] 29 (0, 0)) (by (with_reducible repeat (first | refine X7 ?_ _ | refine X8 ?_ | refine X6 ?_ _)); exact BK455.out) hb); have n12_ := X1 (Kd.C_below (by repeat (first | (with_reducible exact HR456_2.out) | (with_reducible refine Kd.C_alloc ?_ _) | (with_reducible refine Kd.C_drewN ?_ _) | (with_reducible refine Kd.C_drew ?_) | exact HR456_2.out)) hb); have n13_ := X1 (below_step (by repeat (first | (with_reducible first | exact HB.out | apply X5 | apply X4 | apply X3 | refine X10 ?_ GE431.out | refine X10 ?_ GE438.out | refine X10 ?_ GE445.out | refine X10 ?_ GE455.out) | exact HB.out)) hb); clear HO_432002; clear HO_439002; clear HO_446002; clear HL448_2; clear HO453; clear HL456_2; clear BK431; clear BK438; clear BK445; clear HR448_2; clear BK455; clear HR456_2; clear HB; have HO_432002 := n0_; have HO_439002 := n1_; have HO_446002 := n2_; have HL448_2 := n3_; have HO453 := n4_; have HL456_2 := n5_; have HO461 := n6_; have BK431 := n7_; have BK438 := n8_; have BK445 := n9_; have HR448_2 := n10_; have BK455 := n11_; have HR456_2 := n12_; have HB := n13_; clear n0_ n1_ n2_ n3_ n4_ n5_ n6_ n7_ n8_ n9_ n10_ n11_ n12_ n13_; (try clear hb); (try clear hb2); (try clear hk); (try clear hi); (try clear ho0)) | ((with_reducible refine gate_dst (N := 10) rfl ?_); refine box_event ?hg (N := 10) ?hd (cs := #[.int .i64 0, .int .i64 0, .slice none 0 0]) (t := 29) ?hr ?_; (case hd => rfl); (case hg => rfl); (case hr => first | (go_simp; done) | (go_simp; rfl)); intro gb463 hg w72 hbox hb; have n0_ := X1 (Kd.N_below (Kd.N_elderB (by (with_reducible repeat (first | apply Kd.N_alloc | apply Kd.N_drewN | apply Kd.N_drew)); exact HO_432002.out) gb463 (Nat.le_of_eq hg.symm)) hb); have n1_ := X1 (Kd.N_below (Kd.N_elderB (by (with_reducible repeat (first | apply Kd.N_alloc | apply Kd.N_drewN | apply Kd.N_drew)); exact HO_439002.out) gb463 (Nat.le_of_eq hg.symm)) hb); have n2_ := X1 (Kd.N_below (Kd.N_elderB (by (with_reducible repeat (first | apply Kd.N_alloc | apply Kd.N_drewN | apply Kd.N_drew)); exact HO_446002.out) gb463 (Nat.le_of_eq hg.symm)) hb); have n3_ := X1 (Kd.V_below (Kd.V_elderB (by (with_reducible repeat (first | apply Kd.V_alloc | apply Kd.V_drewN | apply Kd.V_drew)); exact HL448_2.out) gb463 (Nat.le_of_eq hg.symm)) hb); have n4_ := X1 (Kd.N_below (Kd.N_elderB (by (with_reducible repeat (first | apply Kd.N_alloc | apply Kd.N_drewN | apply Kd.N_drew)); exact HO453.out) gb463 (Nat.le_of_eq hg.symm)) hb); have n5_ := X1 (Kd.V_below (Kd.V_elderB (by (with_reducible repeat (first | apply Kd.V_alloc | apply Kd.V_drewN | apply Kd.V_drew)); exact HL456_2.out) gb463 (Nat.le_of_eq hg.symm)) hb); have n6_ := X1 (Kd.N_below (Kd.N_elderB (by (with_reducible repeat (first | apply Kd.N_alloc | apply Kd.N_drewN | apply Kd.N_drew)); exact HO461.out) gb463 (Nat.le_of_eq hg.symm)) hb); have n7_ := X1 (blk_below (g := gb431) (o := .cells #[.int .i64 t426, .int .i64 t427, .slice (some ad448) t428.length co10] 29 (0, 0)) (by (with_reducible repeat (first | refine X7 ?_ _ | refine X8 ?_ | refine X6 ?_ _)); exact BK431.out) hb); have n8_ := X1 (blk_below (g := gb438) (o := .cells #[.int .i64 t432, .int .i64 t433, .slice Ao15 t434.length co15] 29 (0, 0)) (by (with_reducible repeat (first | refine X7 ?_ _ | refine X8 ?_ | refine X6 ?_ _)); exact BK438.out) hb); have n9_ := X1 (blk_below (g := gb445) (o := .cells #[.int .i64 t439, .int .i64 t440, .slice Ao22 t441.length co22] 29 (0, 0)) (by (with_reducible repeat (first | refine X7 ?_ _ | refine X8 ?_ | refine X6 ?_ _)); exact BK445.out) hb); have n10_ := X1 (Kd.C_below (by repeat (first | (with_reducible exact HR448_2.out) | (with_reducible refine Kd.C_alloc ?_ _) | (with_reducible refine Kd.C_drewN ?_ _) | (with_reducible refine Kd.C_drew ?_) | exact HR448_2.out)) hb); have n11_ := X1 (blk_below (g := gb455) (o := .cells #[.int .i64 t449, .int .i64 t450, .slice Ao68 t451.length co68] 29 (0, 0)) (by (with_reducible repeat (first | refine X7 ?_ _ | refine X8 ?_ | refine X6 ?_ _)); exact BK455.out) hb); have n12_ := X1 (Kd.C_below (by repeat (first | (with_reducible exact HR456_2.out) | (with_reducible refine Kd.C_alloc ?_ _) | (with_reducible refine Kd.C_drewN ?_ _) | (with_reducible refine Kd.C_drew ?_) | exact HR456_2.out)) hb); have n13_ := X1 (below_step (by repeat (first | (with_reducible first | exact HB.out | apply X5 | apply X4 | apply X3 | refine X10 ?_ GE431.out | refine X10 ?_ GE438.out | refine X10 ?_ GE445.out | refine X10 ?_ GE455.out) | exact HB.out)) hb); have n14_ := X1 (hbox); have n15_ := X1 ((by rw [hg]; exact (below_size (by repeat (first | (with_reducible first | exact HB.out | apply X5 | apply X4 | apply X3 | refine X10 ?_ GE431.out | refine X10 ?_ GE438.out | refine X10 ?_ GE445.out | refine X10 ?_ GE455.out) | exact HB.out))) : w.heap.size ≤ gb463)); have n16_ := X1 ((by rw [hg]; exact (below_size (by repeat (first | (with_reducible first | exact HB.out | apply X5 | apply X4 | apply X3 | refine X10 ?_ GE431.out | refine X10 ?_ GE438.out | refine X10 ?_ GE445.out | refine X10 ?_ GE455.out) | exact HB.out))) : w.heap.size ≤ gb463)); have n17_ := X1 ((by rw [hg]; exact Nat.ne_of_lt (blk_lt (g := gb431) (o := .cells #[.int .i64 t426, .int .i64 t427, .slice (some ad448) t428.length co10] 29 (0, 0)) (by (with_reducible repeat (first | refine X7 ?_ _ | refine X8 ?_ | refine X6 ?_ _)); exact BK431.out)) : gb431 ≠ gb463)); have n18_ := X1 ((by rw [hg]; exact Nat.ne_of_gt (blk_lt (g := gb431) (o := .cells #[.int .i64 t426, .int .i64 t427, .slice (some ad448) t428.length co10] 29 (0, 0)) (by (with_reducible repeat (first | refine X7 ?_ _ | refine X8 ?_ | refine X6 ?_ _)); exact BK431.out)) : gb463 ≠ gb431)); have n19_ := X1 ((by rw [hg]; exact Nat.ne_of_lt (blk_lt (g := gb438) (o := .cells #[.int .i64 t432, .int .i64 t433, .slice Ao15 t434.length co15] 29 (0, 0)) (by (with_reducible repeat (first | refine X7 ?_ _ | refine X8 ?_ | refine X6 ?_ _)); exact BK438.out)) : gb438 ≠ gb463)); have n20_ := X1 ((by rw [hg]; exact Nat.ne_of_gt (blk_lt (g := gb438) (o := .cells #[.int .i64 t432, .int .i64 t433, .slice Ao15 t434.length co15] 29 (0, 0)) (by (with_reducible repeat (first | refine X7 ?_ _ | refine X8 ?_ | refine X6 ?_ _)); exact BK438.out)) : gb463 ≠ gb438)); have n21_ := X1 ((by rw [hg]; exact Nat.ne_of_lt (blk_lt (g := gb445) (o := .cells #[.int .i64 t439, .int .i64 t440, .slice Ao22 t441.length co22] 29 (0, 0)) (by (with_reducible repeat (first | refine X7 ?_ _ | refine X8 ?_ | refine X6 ?_ _)); exact BK445.out)) : gb445 ≠ gb463)); have n22_ := X1 ((by rw [hg]; exact Nat.ne_of_gt (blk_lt (g := gb445) (o := .cells #[.int .i64 t439, .int .i64 t440, .slice Ao22 t441.length co22] 29 (0, 0)) (by (with_reducible repeat (first | refine X7 ?_ _ | refine X8 ?_ | refine X6 ?_ _)); exact BK445.out)) : gb463 ≠ gb445)); have n23_ := X1 ((by rw [hg]; exact Nat.ne_of_lt (blk_lt (g := gb455) (o := .cells #[.int .i64 t449, .int .i64 t450, .slice Ao68 t451.length co68] 29 (0, 0)) (by (with_reducible repeat (first | refine X7 ?_ _ | refine X8 ?_ | refine X6 ?_ _)); exact BK455.out)) : gb455 ≠ gb463)); have n24_ := X1 ((by rw [hg]; exact Nat.ne_of_gt (blk_lt (g := gb455) (o := .cells #[.int .i64 t449, .int .i64 t450, .slice Ao68 t451.length co68] 29 (0, 0)) (by (with_reducible repeat (first | refine X7 ?_ _ | refine X8 ?_ | refine X6 ?_ _)); exact BK455.out)) : gb463 ≠ gb455)); clear HO_432002; clear HO_439002; clear HO_446002; clear HL448_2; clear HO453; clear HL456_2; clear HO461; clear BK431; clear BK438; clear BK445; clear HR448_2; clear BK455; clear HR456_2; clear HB; have HO_432002 := n0_; have HO_439002 := n1_; have HO_446002 := n2_; have HL448_2 := n3_; have HO453 := n4_; have HL456_2 := n5_; have HO461 := n6_; have BK431 := n7_; have BK438 := n8_; have BK445 := n9_; have HR448_2 := n10_; have BK455 := n11_; have HR456_2 := n12_; have HB := n13_; have BK463 := n14_; have GW463 := n15_; have GE463 := n16_; have NB431_463 := n17_; have NB463_431 := n18_; have NB438_463 := n19_; have NB463_438 := n20_; have NB445_463 := n21_; have NB463_445 := n22_; have NB455_463 := n23_; have NB463_455 := n24_; clear n0_ n1_ n2_ n3_ n4_ n5_ n6_ n7_ n8_ n9_ n10_ n11_ n12_ n13_ n14_ n15_ n16_ n17_ n18_ n19_ n20_ n21_ n22_ n23_ n24_; clear hb hbox hg; have hnb73 := NB463_431.out; have hnc73 := NB431_463.out; have hnb74 := NB463_438.out; have hnc74 := NB438_463.out; have hnb75 := NB463_445.out; have hnc75 := NB445_463.out; have hnb76 := NB463_455.out; have hnc76 := NB455_463.out; have hcz77_0 : w72.cell? ⟨gb463, 0, none⟩ = some (.int .i64 0) := (X11 BK463.out 0).trans rfl; have hcz77_1 : w72.cell? ⟨gb463, 1, none⟩ = some (.int .i64 0) := (X11 BK463.out 1).trans rfl; have hcz77_2 : w72.cell? ⟨gb463, 2, none⟩ = some (.slice none 0 0) := (X11 BK463.out 2).trans rfl; have hfz77_0 := X12 BK463.out 0; have hfz77_1 := X12 BK463.out 1; have hfz77_2 := X12 BK463.out 2; obtain ⟨Ao78, co78, eo78⟩ := Kd.N_slice HO461.out; subst eo78; have hcz79_0 : w72.cell? ⟨gb438, 0, none⟩ = some (.int .i64 t432) := (X11 BK438.out 0).trans rfl; have hcz79_1 : w72.cell? ⟨gb438, 1, none⟩ = some (.int .i64 t433) := (X11 BK438.out 1).trans rfl; have hcz79_2 : w72.cell? ⟨gb438, 2, none⟩ = some (.slice Ao15 t434.length co15) := (X11 BK438.out 2).trans rfl; have hfz79_0 := X12 BK438.out 0; have hfz79_1 := X12 BK438.out 1; have hfz79_2 := X12 BK438.out 2; have hcz80_0 : w72.cell? ⟨gb455, 0, none⟩ = some (.int .i64 t449) := (X11 BK455.out 0).trans rfl; have hcz80_1 : w72.cell? ⟨gb455, 1, none⟩ = some (.int .i64 t450) := (X11 BK455.out 1).trans rfl; have hcz80_2 : w72.cell? ⟨gb455, 2, none⟩ = some (.slice Ao68 t451.length co68) := (X11 BK455.out 2).trans rfl; have hfz80_0 := X12 BK455.out 0; have hfz80_1 := X12 BK455.out 1; have hfz80_2 := X12 BK455.out 2) | ((with_reducible refine gate_callee (f := 30) rfl ?_); refine goesL_ (some 78) rfl rfl Try.func30 (by kernel_rfl) rfl #[.int .i64 t432, .int .i64 t450, .int .i64 t458] rfl (by (try simp only [List.map_toArray, List.map_cons, List.map_nil]); first | done | rfl | (simp only [List.length_drop, List.length_take]; rfl)) ?_; (with_reducible refine (impl_Apply.calls t432 t450 t458 t464 t465 _ A55.out).mono ?_); rintro e w' ⟨rfl, ⟨nd, rfl⟩⟩; refine ⟨_, rfl, ?_⟩))
        (try simp only [Act.put, List.setIfInBounds_toArray, List.set_cons_zero, List.set_cons_succ])
        go_cut [14] (fun v14 wc => ∃ (kq : Nat) (x14_55 : Bool), v14 = .bool x14_55 ∧ Aside0 (laws_FnFoldParts.j1 kq t454 t462 x14_55 t426 t427 t428 t432 t433 t434 t449 t450 t451 t457 t458 t459 = some r) ∧ Aside0 (kq ≤ kj5) ∧ Aside0 (Kd.N k29 29 wc w.heap.size (fun k_ => some k_ ≠ ((.slice Ao15 t434.length co15) : Value).ownBlock ∧ some k_ ≠ ((.slice Ao22 t441.length co22) : Value).ownBlock ∧ some k_ ≠ ((.slice Ao68 t451.length co68) : Value).ownBlock ∧ some k_ ≠ ((.slice Ao78 t459.length co78) : Value).ownBlock ∧ k_ ≠ gb431 ∧ k_ ≠ gb438 ∧ k_ ≠ gb445 ∧ k_ ≠ gb455 ∧ k_ ≠ gb463) (.slice (some ad448) t428.length co10) t428) ∧ Aside0 (Kd.N k29 29 wc w.heap.size (fun k_ => some k_ ≠ ((.slice (some ad448) t428.length co10) : Value).ownBlock ∧ some k_ ≠ ((.slice Ao22 t441.length co22) : Value).ownBlock ∧ some k_ ≠ ((.slice Ao68 t451.length co68) : Value).ownBlock ∧ some k_ ≠ ((.slice Ao78 t459.length co78) : Value).ownBlock ∧ k_ ≠ gb431 ∧ k_ ≠ gb438 ∧ k_ ≠ gb445 ∧ k_ ≠ gb455 ∧ k_ ≠ gb463) (.slice Ao15 t434.length co15) t434) ∧ Aside0 (Kd.N k29 29 wc w.heap.size (fun k_ => some k_ ≠ ((.slice (some ad448) t428.length co10) : Value).ownBlock ∧ some k_ ≠ ((.slice Ao15 t434.length co15) : Value).ownBlock ∧ some k_ ≠ ((.slice Ao68 t451.length co68) : Value).ownBlock ∧ some k_ ≠ ((.slice Ao78 t459.length co78) : Value).ownBlock ∧ k_ ≠ gb431 ∧ k_ ≠ gb438 ∧ k_ ≠ gb445 ∧ k_ ≠ gb455 ∧ k_ ≠ gb463) (.slice Ao22 t441.length co22) t441) ∧ Aside0 (Kd.N k29 29 wc w.heap.size (fun k_ => some k_ ≠ ((.slice (some ad448) t428.length co10) : Value).ownBlock ∧ some k_ ≠ ((.slice Ao15 t434.length co15) : Value).ownBlock ∧ some k_ ≠ ((.slice Ao22 t441.length co22) : Value).ownBlock ∧ some k_ ≠ ((.slice Ao78 t459.length co78) : Value).ownBlock ∧ k_ ≠ gb431 ∧ k_ ≠ gb438 ∧ k_ ≠ gb445 ∧ k_ ≠ gb455 ∧ k_ ≠ gb463) (.slice Ao68 t451.length co68) t451) ∧ Aside0 (Kd.N k29 29 wc w.heap.size (fun k_ => some k_ ≠ ((.slice (some ad448) t428.length co10) : Value).ownBlock ∧ some k_ ≠ ((.slice Ao15 t434.length co15) : Value).ownBlock ∧ some k_ ≠ ((.slice Ao22 t441.length co22) : Value).ownBlock ∧ some k_ ≠ ((.slice Ao68 t451.length co68) : Value).ownBlock ∧ k_ ≠ gb431 ∧ k_ ≠ gb438 ∧ k_ ≠ gb445 ∧ k_ ≠ gb455 ∧ k_ ≠ gb463) (.slice Ao78 t459.length co78) t459) ∧ Aside0 (wc.heap[gb431]? = some (.cells #[.int .i64 t426, .int .i64 t427, (.slice (some ad448) t428.length co10)] 29 (0, 0))) ∧ Aside0 (wc.heap[gb438]? = some (.cells #[.int .i64 t432, .int .i64 t433, (.slice Ao15 t434.length co15)] 29 (0, 0))) ∧ Aside0 (wc.heap[gb445]? = some (.cells #[.int .i64 t439, .int .i64 t440, (.slice Ao22 t441.length co22)] 29 (0, 0))) ∧ Aside0 (wc.heap[gb455]? = some (.cells #[.int .i64 t449, .int .i64 t450, (.slice Ao68 t451.length co68)] 29 (0, 0))) ∧ Aside0 (wc.heap[gb463]? = some (.cells #[.int .i64 t457, .int .i64 t458, (.slice Ao78 t459.length co78)] 29 (0, 0))) ∧ Aside0 (Kd.C k29 wc A448_2 ((rd_T29 t428 0).f2).length ((rd_T29 t428 0).f2)) ∧ Aside0 (Kd.C k29 wc A456_2 ((rd_T29 t428 1).f2).length ((rd_T29 t428 1).f2)) ∧ Aside0 (Below w.heap.size w wc))
        case first =>
         have H := HC56.out
         clear HC56
         by_cases c81 : t449 = 0
         ·rw [if_pos c81] at H
          have c81b0 : (t449 == 0) = true := beq_iff_eq.mpr c81
          have c81b1 : (t449 != 0) = false := bne_eq_false_iff_eq.mpr c81
          clear c81
          (first | rw [c81b0] | (simp only [i64_w, i32_w]; rw [c81b0]) | skip)
          by_cases c82 : t457 = 0
          ·rw [if_pos c82] at H
           have c82b0 : (t457 == 0) = true := beq_iff_eq.mpr c82
           have c82b1 : (t457 != 0) = false := bne_eq_false_iff_eq.mpr c82
           clear c82
           by_cases c83 : t465 = true
           ·subst c83
            have H1 : (if t464 ≥ 0 then (laws_FnFoldParts.j1 kj5 t454 t462 (decide (t464 ≤ 99999)) t426 t427 t428 t432 t433 t434 t449 t450 t451 t457 t458 t459) else (laws_FnFoldParts.j1 kj5 t454 t462 false t426 t427 t428 t432 t433 t434 t449 t450 t451 t457 t458 t459)) = some r := by rw [if_pos rfl] at H; exact H
            clear H
            have H := H1
            clear H1
            by_cases c84 : t464 ≥ 0
            ·rw [if_pos c84] at H
             have c84b0 : decide (0 ≤ t464) = true := decide_eq_true c84
             clear c84
             have H' := X1 H
             clear H
             have hnb85 := NB455_431.out
             have hnc85 := NB431_455.out
             have hnb86 := NB455_438.out
             have hnc86 := NB438_455.out
             have hnb87 := NB455_445.out
             have hnc87 := NB445_455.out
             have hnb88 := NB455_463.out
             have hnc88 := NB463_455.out
             have hcz89_0 : w72.cell? ⟨gb455, 0, none⟩ = some (.int .i64 t449) := (X11 BK455.out 0).trans rfl
             have hcz89_1 : w72.cell? ⟨gb455, 1, none⟩ = some (.int .i64 t450) := (X11 BK455.out 1).trans rfl
             have hcz89_2 : w72.cell? ⟨gb455, 2, none⟩ = some (.slice Ao68 t451.length co68) := (X11 BK455.out 2).trans rfl
             have hfz89_0 := X12 BK455.out 0
             have hfz89_1 := X12 BK455.out 1
             have hfz89_2 := X12 BK455.out 2
             have hnb90 := NB463_431.out
             have hnc90 := NB431_463.out
             have hnb91 := NB463_438.out
             have hnc91 := NB438_463.out
             have hnb92 := NB463_445.out
             have hnc92 := NB445_463.out
             have hcz93_0 : w72.cell? ⟨gb463, 0, none⟩ = some (.int .i64 0) := (X11 BK463.out 0).trans rfl
             have hcz93_1 : w72.cell? ⟨gb463, 1, none⟩ = some (.int .i64 0) := (X11 BK463.out 1).trans rfl
             have hcz93_2 : w72.cell? ⟨gb463, 2, none⟩ = some (.slice none 0 0) := (X11 BK463.out 2).trans rfl
             have hfz93_0 := X12 BK463.out 0
             have hfz93_1 := X12 BK463.out 1
             have hfz93_2 := X12 BK463.out 2
             go_wp2
             go_meet
             case rel => exact ⟨_, (decide (t464 ≤ 99999)), (by first | rfl | (simp; done) | (simp [*]; done)), H', ⟨by have := HJ5.out; first | omega | exact Nat.le_refl _⟩, ⟨by (with_reducible repeat (first | apply Kd.N_alloc | apply Kd.N_drewN | apply Kd.N_drew)); exact Kd.N_mono (Kd.N_far (p := ⟨gb463, 2, none⟩) (Kd.N_far (p := ⟨gb463, 1, none⟩) (Kd.N_far (p := ⟨gb463, 0, none⟩) (Kd.N_mono HO_432002.out (fun k_ hk => (⟨hk, hk.2⟩ : _ ∧ k_ ≠ gb463))) (fun _ hk => hk.2) (.int .i64 t457)) (fun _ hk => hk.2) (.int .i64 t458)) (fun _ hk => hk.2) (.slice Ao78 t459.length co78)) (fun _ hk => ⟨hk.1.1.1.1, ⟨hk.1.1.1.2.1, ⟨hk.1.1.1.2.2.1, ⟨hk.1.1.2, ⟨hk.1.1.1.2.2.2.1, ⟨hk.1.1.1.2.2.2.2.1, ⟨hk.1.1.1.2.2.2.2.2.1, ⟨hk.1.1.1.2.2.2.2.2.2, hk.1.2⟩⟩⟩⟩⟩⟩⟩⟩)⟩, ⟨by (with_reducible repeat (first | apply Kd.N_alloc | apply Kd.N_drewN | apply Kd.N_drew)); exact Kd.N_mono (Kd.N_far (p := ⟨gb463, 2, none⟩) (Kd.N_far (p := ⟨gb463, 1, none⟩) (Kd.N_far (p := ⟨gb463, 0, none⟩) (Kd.N_mono HO_439002.out (fun k_ hk => (⟨hk, hk.2⟩ : _ ∧ k_ ≠ gb463))) (fun _ hk => hk.2) (.int .i64 t457)) (fun _ hk => hk.2) (.int .i64 t458)) (fun _ hk => hk.2) (.slice Ao78 t459.length co78)) (fun _ hk => ⟨hk.1.1.1.1, ⟨hk.1.1.1.2.1, ⟨hk.1.1.1.2.2.1, ⟨hk.1.1.2, ⟨hk.1.1.1.2.2.2.1, ⟨hk.1.1.1.2.2.2.2.1, ⟨hk.1.1.1.2.2.2.2.2.1, ⟨hk.1.1.1.2.2.2.2.2.2, hk.1.2⟩⟩⟩⟩⟩⟩⟩⟩)⟩, ⟨by (with_reducible repeat (first | apply Kd.N_alloc | apply Kd.N_drewN | apply Kd.N_drew)); exact Kd.N_mono (Kd.N_far (p := ⟨gb463, 2, none⟩) (Kd.N_far (p := ⟨gb463, 1, none⟩) (Kd.N_far (p := ⟨gb463, 0, none⟩) (Kd.N_mono HO_446002.out (fun k_ hk => (⟨hk, hk.2⟩ : _ ∧ k_ ≠ gb463))) (fun _ hk => hk.2) (.int .i64 t457)) (fun _ hk => hk.2) (.int .i64 t458)) (fun _ hk => hk.2) (.slice Ao78 t459.length co78)) (fun _ hk => ⟨hk.1.1.1.1, ⟨hk.1.1.1.2.1, ⟨hk.1.1.1.2.2.1, ⟨hk.1.1.2, ⟨hk.1.1.1.2.2.2.1, ⟨hk.1.1.1.2.2.2.2.1, ⟨hk.1.1.1.2.2.2.2.2.1, ⟨hk.1.1.1.2.2.2.2.2.2, hk.1.2⟩⟩⟩⟩⟩⟩⟩⟩)⟩, ⟨by (with_reducible repeat (first | apply Kd.N_alloc | apply Kd.N_drewN | apply Kd.N_drew)); exact Kd.N_mono (Kd.N_far (p := ⟨gb463, 2, none⟩) (Kd.N_far (p := ⟨gb463, 1, none⟩) (Kd.N_far (p := ⟨gb463, 0, none⟩) (Kd.N_mono HO453.out (fun k_ hk => (⟨hk, hk.2⟩ : _ ∧ k_ ≠ gb463))) (fun _ hk => hk.2) (.int .i64 t457)) (fun _ hk => hk.2) (.int .i64 t458)) (fun _ hk => hk.2) (.slice Ao78 t459.length co78)) (fun _ hk => ⟨hk.1.1.1.1, ⟨hk.1.1.1.2.1, ⟨hk.1.1.1.2.2.1, ⟨hk.1.1.2, ⟨hk.1.1.1.2.2.2.1, ⟨hk.1.1.1.2.2.2.2.1, ⟨hk.1.1.1.2.2.2.2.2.1, ⟨hk.1.1.1.2.2.2.2.2.2, hk.1.2⟩⟩⟩⟩⟩⟩⟩⟩)⟩, ⟨by (with_reducible repeat (first | apply Kd.N_alloc | apply Kd.N_drewN | apply Kd.N_drew)); exact Kd.N_mono (Kd.N_far (p := ⟨gb463, 2, none⟩) (Kd.N_far (p := ⟨gb463, 1, none⟩) (Kd.N_far (p := ⟨gb463, 0, none⟩) (Kd.N_mono HO461.out (fun k_ hk => (⟨hk, hk.2⟩ : _ ∧ k_ ≠ gb463))) (fun _ hk => hk.2) (.int .i64 t457)) (fun _ hk => hk.2) (.int .i64 t458)) (fun _ hk => hk.2) (.slice Ao78 t459.length co78)) (fun _ hk => ⟨hk.1.1.1, ⟨hk.1.1.2.1, ⟨hk.1.1.2.2.1, ⟨hk.1.1.2.2.2.1, ⟨hk.1.1.2.2.2.2.1, ⟨hk.1.1.2.2.2.2.2.1, ⟨hk.1.1.2.2.2.2.2.2.1, ⟨hk.1.1.2.2.2.2.2.2.2, hk.1.2⟩⟩⟩⟩⟩⟩⟩⟩)⟩, ⟨by (with_reducible repeat (first | refine X7 ?_ _ | refine X8 ?_ | refine X6 ?_ _)); refine blk_far ?_ NB431_463.out _; (with_reducible repeat (first | refine X7 ?_ _ | refine X8 ?_ | refine X6 ?_ _)); refine blk_far ?_ NB431_463.out _; (with_reducible repeat (first | refine X7 ?_ _ | refine X8 ?_ | refine X6 ?_ _)); refine blk_far ?_ NB431_463.out _; (with_reducible repeat (first | refine X7 ?_ _ | refine X8 ?_ | refine X6 ?_ _)); exact BK431.out⟩, ⟨by (with_reducible repeat (first | refine X7 ?_ _ | refine X8 ?_ | refine X6 ?_ _)); refine blk_far ?_ NB438_463.out _; (with_reducible repeat (first | refine X7 ?_ _ | refine X8 ?_ | refine X6 ?_ _)); refine blk_far ?_ NB438_463.out _; (with_reducible repeat (first | refine X7 ?_ _ | refine X8 ?_ | refine X6 ?_ _)); refine blk_far ?_ NB438_463.out _; (with_reducible repeat (first | refine X7 ?_ _ | refine X8 ?_ | refine X6 ?_ _)); exact BK438.out⟩, ⟨by (with_reducible repeat (first | refine X7 ?_ _ | refine X8 ?_ | refine X6 ?_ _)); refine blk_far ?_ NB445_463.out _; (with_reducible repeat (first | refine X7 ?_ _ | refine X8 ?_ | refine X6 ?_ _)); refine blk_far ?_ NB445_463.out _; (with_reducible repeat (first | refine X7 ?_ _ | refine X8 ?_ | refine X6 ?_ _)); refine blk_far ?_ NB445_463.out _; (with_reducible repeat (first | refine X7 ?_ _ | refine X8 ?_ | refine X6 ?_ _)); exact BK445.out⟩, ⟨by (with_reducible repeat (first | refine X7 ?_ _ | refine X8 ?_ | refine X6 ?_ _)); refine blk_far ?_ NB455_463.out _; (with_reducible repeat (first | refine X7 ?_ _ | refine X8 ?_ | refine X6 ?_ _)); refine blk_far ?_ NB455_463.out _; (with_reducible repeat (first | refine X7 ?_ _ | refine X8 ?_ | refine X6 ?_ _)); refine blk_far ?_ NB455_463.out _; (with_reducible repeat (first | refine X7 ?_ _ | refine X8 ?_ | refine X6 ?_ _)); exact BK455.out⟩, ⟨by (with_reducible repeat (first | refine X7 ?_ _ | refine X8 ?_ | refine X6 ?_ _)); refine blk_put (cs := #[.int .i64 t457, .int .i64 t458, .slice none 0 0]) ?_ 2 _ rfl; (with_reducible repeat (first | refine X7 ?_ _ | refine X8 ?_ | refine X6 ?_ _)); refine blk_put (cs := #[.int .i64 t457, .int .i64 0, .slice none 0 0]) ?_ 1 _ rfl; (with_reducible repeat (first | refine X7 ?_ _ | refine X8 ?_ | refine X6 ?_ _)); refine blk_put (cs := #[.int .i64 0, .int .i64 0, .slice none 0 0]) ?_ 0 _ rfl; (with_reducible repeat (first | refine X7 ?_ _ | refine X8 ?_ | refine X6 ?_ _)); exact BK463.out⟩, ⟨(Kd.V_reads' (by (with_reducible repeat (first | apply Kd.V_alloc | apply Kd.V_drewN | apply Kd.V_drew)); exact (Kd.V_mono (Kd.V_far (p := ⟨gb463, 2, none⟩) (Kd.V_far (p := ⟨gb463, 1, none⟩) (Kd.V_far (p := ⟨gb463, 0, none⟩) (Kd.V_mono HL448_2.out (fun k_ hk => (⟨hk, hk.2⟩ : _ ∧ k_ ≠ gb463))) (fun _ hk => hk.2) (.int .i64 t457)) (fun _ hk => hk.2) (.int .i64 t458)) (fun _ hk => hk.2) (.slice Ao78 t459.length co78)) (fun _ h_ => h_.1)))).2.2⟩, ⟨(Kd.V_reads' (by (with_reducible repeat (first | apply Kd.V_alloc | apply Kd.V_drewN | apply Kd.V_drew)); exact (Kd.V_mono (Kd.V_far (p := ⟨gb463, 2, none⟩) (Kd.V_far (p := ⟨gb463, 1, none⟩) (Kd.V_far (p := ⟨gb463, 0, none⟩) (Kd.V_mono HL456_2.out (fun k_ hk => (⟨hk, hk.2⟩ : _ ∧ k_ ≠ gb463))) (fun _ hk => hk.2) (.int .i64 t457)) (fun _ hk => hk.2) (.int .i64 t458)) (fun _ hk => hk.2) (.slice Ao78 t459.length co78)) (fun _ h_ => h_.1)))).2.2⟩, ⟨by repeat (first | (with_reducible first | exact HB.out | apply X5 | apply X4 | apply X3 | refine X10 ?_ GE431.out | refine X10 ?_ GE438.out | refine X10 ?_ GE445.out | refine X10 ?_ GE455.out | refine X10 ?_ GE463.out) | exact HB.out)⟩⟩
            ·rw [if_neg c84] at H
             have c84b0 : decide (0 ≤ t464) = false := decide_eq_false c84
             clear c84
             have H' := X1 H
             clear H
             have hnb94 := NB455_431.out
             have hnc94 := NB431_455.out
             have hnb95 := NB455_438.out
             have hnc95 := NB438_455.out
             have hnb96 := NB455_445.out
             have hnc96 := NB445_455.out
             have hnb97 := NB455_463.out
             have hnc97 := NB463_455.out
             have hcz98_0 : w72.cell? ⟨gb455, 0, none⟩ = some (.int .i64 t449) := (X11 BK455.out 0).trans rfl
             have hcz98_1 : w72.cell? ⟨gb455, 1, none⟩ = some (.int .i64 t450) := (X11 BK455.out 1).trans rfl
             have hcz98_2 : w72.cell? ⟨gb455, 2, none⟩ = some (.slice Ao68 t451.length co68) := (X11 BK455.out 2).trans rfl
             have hfz98_0 := X12 BK455.out 0
             have hfz98_1 := X12 BK455.out 1
             have hfz98_2 := X12 BK455.out 2
             have hnb99 := NB463_431.out
             have hnc99 := NB431_463.out
             have hnb100 := NB463_438.out
             have hnc100 := NB438_463.out
             have hnb101 := NB463_445.out
             have hnc101 := NB445_463.out
             have hcz102_0 : w72.cell? ⟨gb463, 0, none⟩ = some (.int .i64 0) := (X11 BK463.out 0).trans rfl
             have hcz102_1 : w72.cell? ⟨gb463, 1, none⟩ = some (.int .i64 0) := (X11 BK463.out 1).trans rfl
             have hcz102_2 : w72.cell? ⟨gb463, 2, none⟩ = some (.slice none 0 0) := (X11 BK463.out 2).trans rfl
             have hfz102_0 := X12 BK463.out 0
             have hfz102_1 := X12 BK463.out 1
             have hfz102_2 := X12 BK463.out 2
             go_wp2
             go_meet
             case rel => exact ⟨_, (false), (by first | rfl | (simp; done) | (simp [*]; done)), H', ⟨by have := HJ5.out; first | omega | exact Nat.le_refl _⟩, ⟨by (with_reducible repeat (first | apply Kd.N_alloc | apply Kd.N_drewN | apply Kd.N_drew)); exact Kd.N_mono (Kd.N_far (p := ⟨gb463, 2, none⟩) (Kd.N_far (p := ⟨gb463, 1, none⟩) (Kd.N_far (p := ⟨gb463, 0, none⟩) (Kd.N_mono HO_432002.out (fun k_ hk => (⟨hk, hk.2⟩ : _ ∧ k_ ≠ gb463))) (fun _ hk => hk.2) (.int .i64 t457)) (fun _ hk => hk.2) (.int .i64 t458)) (fun _ hk => hk.2) (.slice Ao78 t459.length co78)) (fun _ hk => ⟨hk.1.1.1.1, ⟨hk.1.1.1.2.1, ⟨hk.1.1.1.2.2.1, ⟨hk.1.1.2, ⟨hk.1.1.1.2.2.2.1, ⟨hk.1.1.1.2.2.2.2.1, ⟨hk.1.1.1.2.2.2.2.2.1, ⟨hk.1.1.1.2.2.2.2.2.2, hk.1.2⟩⟩⟩⟩⟩⟩⟩⟩)⟩, ⟨by (with_reducible repeat (first | apply Kd.N_alloc | apply Kd.N_drewN | apply Kd.N_drew)); exact Kd.N_mono (Kd.N_far (p := ⟨gb463, 2, none⟩) (Kd.N_far (p := ⟨gb463, 1, none⟩) (Kd.N_far (p := ⟨gb463, 0, none⟩) (Kd.N_mono HO_439002.out (fun k_ hk => (⟨hk, hk.2⟩ : _ ∧ k_ ≠ gb463))) (fun _ hk => hk.2) (.int .i64 t457)) (fun _ hk => hk.2) (.int .i64 t458)) (fun _ hk => hk.2) (.slice Ao78 t459.length co78)) (fun _ hk => ⟨hk.1.1.1.1, ⟨hk.1.1.1.2.1, ⟨hk.1.1.1.2.2.1, ⟨hk.1.1.2, ⟨hk.1.1.1.2.2.2.1, ⟨hk.1.1.1.2.2.2.2.1, ⟨hk.1.1.1.2.2.2.2.2.1, ⟨hk.1.1.1.2.2.2.2.2.2, hk.1.2⟩⟩⟩⟩⟩⟩⟩⟩)⟩, ⟨by (with_reducible repeat (first | apply Kd.N_alloc | apply Kd.N_drewN | apply Kd.N_drew)); exact Kd.N_mono (Kd.N_far (p := ⟨gb463, 2, none⟩) (Kd.N_far (p := ⟨gb463, 1, none⟩) (Kd.N_far (p := ⟨gb463, 0, none⟩) (Kd.N_mono HO_446002.out (fun k_ hk => (⟨hk, hk.2⟩ : _ ∧ k_ ≠ gb463))) (fun _ hk => hk.2) (.int .i64 t457)) (fun _ hk => hk.2) (.int .i64 t458)) (fun _ hk => hk.2) (.slice Ao78 t459.length co78)) (fun _ hk => ⟨hk.1.1.1.1, ⟨hk.1.1.1.2.1, ⟨hk.1.1.1.2.2.1, ⟨hk.1.1.2, ⟨hk.1.1.1.2.2.2.1, ⟨hk.1.1.1.2.2.2.2.1, ⟨hk.1.1.1.2.2.2.2.2.1, ⟨hk.1.1.1.2.2.2.2.2.2, hk.1.2⟩⟩⟩⟩⟩⟩⟩⟩)⟩, ⟨by (with_reducible repeat (first | apply Kd.N_alloc | apply Kd.N_drewN | apply Kd.N_drew)); exact Kd.N_mono (Kd.N_far (p := ⟨gb463, 2, none⟩) (Kd.N_far (p := ⟨gb463, 1, none⟩) (Kd.N_far (p := ⟨gb463, 0, none⟩) (Kd.N_mono HO453.out (fun k_ hk => (⟨hk, hk.2⟩ : _ ∧ k_ ≠ gb463))) (fun _ hk => hk.2) (.int .i64 t457)) (fun _ hk => hk.2) (.int .i64 t458)) (fun _ hk => hk.2) (.slice Ao78 t459.length co78)) (fun _ hk => ⟨hk.1.1.1.1, ⟨hk.1.1.1.2.1, ⟨hk.1.1.1.2.2.1, ⟨hk.1.1.2, ⟨hk.1.1.1.2.2.2.1, ⟨hk.1.1.1.2.2.2.2.1, ⟨hk.1.1.1.2.2.2.2.2.1, ⟨hk.1.1.1.2.2.2.2.2.2, hk.1.2⟩⟩⟩⟩⟩⟩⟩⟩)⟩, ⟨by (with_reducible repeat (first | apply Kd.N_alloc | apply Kd.N_drewN | apply Kd.N_drew)); exact Kd.N_mono (Kd.N_far (p := ⟨gb463, 2, none⟩) (Kd.N_far (p := ⟨gb463, 1, none⟩) (Kd.N_far (p := ⟨gb463, 0, none⟩) (Kd.N_mono HO461.out (fun k_ hk => (⟨hk, hk.2⟩ : _ ∧ k_ ≠ gb463))) (fun _ hk => hk.2) (.int .i64 t457)) (fun _ hk => hk.2) (.int .i64 t458)) (fun _ hk => hk.2) (.slice Ao78 t459.length co78)) (fun _ hk => ⟨hk.1.1.1, ⟨hk.1.1.2.1, ⟨hk.1.1.2.2.1, ⟨hk.1.1.2.2.2.1, ⟨hk.1.1.2.2.2.2.1, ⟨hk.1.1.2.2.2.2.2.1, ⟨hk.1.1.2.2.2.2.2.2.1, ⟨hk.1.1.2.2.2.2.2.2.2, hk.1.2⟩⟩⟩⟩⟩⟩⟩⟩)⟩, ⟨by (with_reducible repeat (first | refine X7 ?_ _ | refine X8 ?_ | refine X6 ?_ _)); refine blk_far ?_ NB431_463.out _; (with_reducible repeat (first | refine X7 ?_ _ | refine X8 ?_ | refine X6 ?_ _)); refine blk_far ?_ NB431_463.out _; (with_reducible repeat (first | refine X7 ?_ _ | refine X8 ?_ | refine X6 ?_ _)); refine blk_far ?_ NB431_463.out _; (with_reducible repeat (first | refine X7 ?_ _ | refine X8 ?_ | refine X6 ?_ _)); exact BK431.out⟩, ⟨by (with_reducible repeat (first | refine X7 ?_ _ | refine X8 ?_ | refine X6 ?_ _)); refine blk_far ?_ NB438_463.out _; (with_reducible repeat (first | refine X7 ?_ _ | refine X8 ?_ | refine X6 ?_ _)); refine blk_far ?_ NB438_463.out _; (with_reducible repeat (first | refine X7 ?_ _ | refine X8 ?_ | refine X6 ?_ _)); refine blk_far ?_ NB438_463.out _; (with_reducible repeat (first | refine X7 ?_ _ | refine X8 ?_ | refine X6 ?_ _)); exact BK438.out⟩, ⟨by (with_reducible repeat (first | refine X7 ?_ _ | refine X8 ?_ | refine X6 ?_ _)); refine blk_far ?_ NB445_463.out _; (with_reducible repeat (first | refine X7 ?_ _ | refine X8 ?_ | refine X6 ?_ _)); refine blk_far ?_ NB445_463.out _; (with_reducible repeat (first | refine X7 ?_ _ | refine X8 ?_ | refine X6 ?_ _)); refine blk_far ?_ NB445_463.out _; (with_reducible repeat (first | refine X7 ?_ _ | refine X8 ?_ | refine X6 ?_ _)); exact BK445.out⟩, ⟨by (with_reducible repeat (first | refine X7 ?_ _ | refine X8 ?_ | refine X6 ?_ _)); refine blk_far ?_ NB455_463.out _; (with_reducible repeat (first | refine X7 ?_ _ | refine X8 ?_ | refine X6 ?_ _)); refine blk_far ?_ NB455_463.out _; (with_reducible repeat (first | refine X7 ?_ _ | refine X8 ?_ | refine X6 ?_ _)); refine blk_far ?_ NB455_463.out _; (with_reducible repeat (first | refine X7 ?_ _ | refine X8 ?_ | refine X6 ?_ _)); exact BK455.out⟩, ⟨by (with_reducible repeat (first | refine X7 ?_ _ | refine X8 ?_ | refine X6 ?_ _)); refine blk_put (cs := #[.int .i64 t457, .int .i64 t458, .slice none 0 0]) ?_ 2 _ rfl; (with_reducible repeat (first | refine X7 ?_ _ | refine X8 ?_ | refine X6 ?_ _)); refine blk_put (cs := #[.int .i64 t457, .int .i64 0, .slice none 0 0]) ?_ 1 _ rfl; (with_reducible repeat (first | refine X7 ?_ _ | refine X8 ?_ | refine X6 ?_ _)); refine blk_put (cs := #[.int .i64 0, .int .i64 0, .slice none 0 0]) ?_ 0 _ rfl; (with_reducible repeat (first | refine X7 ?_ _ | refine X8 ?_ | refine X6 ?_ _)); exact BK463.out⟩, ⟨(Kd.V_reads' (by (with_reducible repeat (first | apply Kd.V_alloc | apply Kd.V_drewN | apply Kd.V_drew)); exact (Kd.V_mono (Kd.V_far (p := ⟨gb463, 2, none⟩) (Kd.V_far (p := ⟨gb463, 1, none⟩) (Kd.V_far (p := ⟨gb463, 0, none⟩) (Kd.V_mono HL448_2.out (fun k_ hk => (⟨hk, hk.2⟩ : _ ∧ k_ ≠ gb463))) (fun _ hk => hk.2) (.int .i64 t457)) (fun _ hk => hk.2) (.int .i64 t458)) (fun _ hk => hk.2) (.slice Ao78 t459.length co78)) (fun _ h_ => h_.1)))).2.2⟩, ⟨(Kd.V_reads' (by (with_reducible repeat (first | apply Kd.V_alloc | apply Kd.V_drewN | apply Kd.V_drew)); exact (Kd.V_mono (Kd.V_far (p := ⟨gb463, 2, none⟩) (Kd.V_far (p := ⟨gb463, 1, none⟩) (Kd.V_far (p := ⟨gb463, 0, none⟩) (Kd.V_mono HL456_2.out (fun k_ hk => (⟨hk, hk.2⟩ : _ ∧ k_ ≠ gb463))) (fun _ hk => hk.2) (.int .i64 t457)) (fun _ hk => hk.2) (.int .i64 t458)) (fun _ hk => hk.2) (.slice Ao78 t459.length co78)) (fun _ h_ => h_.1)))).2.2⟩, ⟨by repeat (first | (with_reducible first | exact HB.out | apply X5 | apply X4 | apply X3 | refine X10 ?_ GE431.out | refine X10 ?_ GE438.out | refine X10 ?_ GE445.out | refine X10 ?_ GE455.out | refine X10 ?_ GE463.out) | exact HB.out)⟩⟩
           ·replace c83 := Bool.eq_false_iff.mpr c83
            subst c83
            have H1 : (laws_FnFoldParts.j1 kj5 t454 t462 false t426 t427 t428 t432 t433 t434 t449 t450 t451 t457 t458 t459) = some r := by rw [if_neg (show ¬ (false = true) by decide)] at H; exact H
            clear H
            have H := H1
            clear H1
            have H' := X1 H
            clear H
            have hnb103 := NB455_431.out
            have hnc103 := NB431_455.out
            have hnb104 := NB455_438.out
            have hnc104 := NB438_455.out
            have hnb105 := NB455_445.out
            have hnc105 := NB445_455.out
            have hnb106 := NB455_463.out
            have hnc106 := NB463_455.out
            have hcz107_0 : w72.cell? ⟨gb455, 0, none⟩ = some (.int .i64 t449) := (X11 BK455.out 0).trans rfl
            have hcz107_1 : w72.cell? ⟨gb455, 1, none⟩ = some (.int .i64 t450) := (X11 BK455.out 1).trans rfl
            have hcz107_2 : w72.cell? ⟨gb455, 2, none⟩ = some (.slice Ao68 t451.length co68) := (X11 BK455.out 2).trans rfl
            have hfz107_0 := X12 BK455.out 0
            have hfz107_1 := X12 BK455.out 1
            have hfz107_2 := X12 BK455.out 2
            have hnb108 := NB463_431.out
            have hnc108 := NB431_463.out
            have hnb109 := NB463_438.out
            have hnc109 := NB438_463.out
            have hnb110 := NB463_445.out
            have hnc110 := NB445_463.out
            have hcz111_0 : w72.cell? ⟨gb463, 0, none⟩ = some (.int .i64 0) := (X11 BK463.out 0).trans rfl
            have hcz111_1 : w72.cell? ⟨gb463, 1, none⟩ = some (.int .i64 0) := (X11 BK463.out 1).trans rfl
            have hcz111_2 : w72.cell? ⟨gb463, 2, none⟩ = some (.slice none 0 0) := (X11 BK463.out 2).trans rfl
            have hfz111_0 := X12 BK463.out 0
            have hfz111_1 := X12 BK463.out 1
            have hfz111_2 := X12 BK463.out 2
            go_wp2
            go_meet
            case rel => exact ⟨_, (false), (by first | rfl | (simp; done) | (simp [*]; done)), H', ⟨by have := HJ5.out; first | omega | exact Nat.le_refl _⟩, ⟨by (with_reducible repeat (first | apply Kd.N_alloc | apply Kd.N_drewN | apply Kd.N_drew)); exact Kd.N_mono (Kd.N_far (p := ⟨gb463, 2, none⟩) (Kd.N_far (p := ⟨gb463, 1, none⟩) (Kd.N_far (p := ⟨gb463, 0, none⟩) (Kd.N_mono HO_432002.out (fun k_ hk => (⟨hk, hk.2⟩ : _ ∧ k_ ≠ gb463))) (fun _ hk => hk.2) (.int .i64 t457)) (fun _ hk => hk.2) (.int .i64 t458)) (fun _ hk => hk.2) (.slice Ao78 t459.length co78)) (fun _ hk => ⟨hk.1.1.1.1, ⟨hk.1.1.1.2.1, ⟨hk.1.1.1.2.2.1, ⟨hk.1.1.2, ⟨hk.1.1.1.2.2.2.1, ⟨hk.1.1.1.2.2.2.2.1, ⟨hk.1.1.1.2.2.2.2.2.1, ⟨hk.1.1.1.2.2.2.2.2.2, hk.1.2⟩⟩⟩⟩⟩⟩⟩⟩)⟩, ⟨by (with_reducible repeat (first | apply Kd.N_alloc | apply Kd.N_drewN | apply Kd.N_drew)); exact Kd.N_mono (Kd.N_far (p := ⟨gb463, 2, none⟩) (Kd.N_far (p := ⟨gb463, 1, none⟩) (Kd.N_far (p := ⟨gb463, 0, none⟩) (Kd.N_mono HO_439002.out (fun k_ hk => (⟨hk, hk.2⟩ : _ ∧ k_ ≠ gb463))) (fun _ hk => hk.2) (.int .i64 t457)) (fun _ hk => hk.2) (.int .i64 t458)) (fun _ hk => hk.2) (.slice Ao78 t459.length co78)) (fun _ hk => ⟨hk.1.1.1.1, ⟨hk.1.1.1.2.1, ⟨hk.1.1.1.2.2.1, ⟨hk.1.1.2, ⟨hk.1.1.1.2.2.2.1, ⟨hk.1.1.1.2.2.2.2.1, ⟨hk.1.1.1.2.2.2.2.2.1, ⟨hk.1.1.1.2.2.2.2.2.2, hk.1.2⟩⟩⟩⟩⟩⟩⟩⟩)⟩, ⟨by (with_reducible repeat (first | apply Kd.N_alloc | apply Kd.N_drewN | apply Kd.N_drew)); exact Kd.N_mono (Kd.N_far (p := ⟨gb463, 2, none⟩) (Kd.N_far (p := ⟨gb463, 1, none⟩) (Kd.N_far (p := ⟨gb463, 0, none⟩) (Kd.N_mono HO_446002.out (fun k_ hk => (⟨hk, hk.2⟩ : _ ∧ k_ ≠ gb463))) (fun _ hk => hk.2) (.int .i64 t457)) (fun _ hk => hk.2) (.int .i64 t458)) (fun _ hk => hk.2) (.slice Ao78 t459.length co78)) (fun _ hk => ⟨hk.1.1.1.1, ⟨hk.1.1.1.2.1, ⟨hk.1.1.1.2.2.1, ⟨hk.1.1.2, ⟨hk.1.1.1.2.2.2.1, ⟨hk.1.1.1.2.2.2.2.1, ⟨hk.1.1.1.2.2.2.2.2.1, ⟨hk.1.1.1.2.2.2.2.2.2, hk.1.2⟩⟩⟩⟩⟩⟩⟩⟩)⟩, ⟨by (with_reducible repeat (first | apply Kd.N_alloc | apply Kd.N_drewN | apply Kd.N_drew)); exact Kd.N_mono (Kd.N_far (p := ⟨gb463, 2, none⟩) (Kd.N_far (p := ⟨gb463, 1, none⟩) (Kd.N_far (p := ⟨gb463, 0, none⟩) (Kd.N_mono HO453.out (fun k_ hk => (⟨hk, hk.2⟩ : _ ∧ k_ ≠ gb463))) (fun _ hk => hk.2) (.int .i64 t457)) (fun _ hk => hk.2) (.int .i64 t458)) (fun _ hk => hk.2) (.slice Ao78 t459.length co78)) (fun _ hk => ⟨hk.1.1.1.1, ⟨hk.1.1.1.2.1, ⟨hk.1.1.1.2.2.1, ⟨hk.1.1.2, ⟨hk.1.1.1.2.2.2.1, ⟨hk.1.1.1.2.2.2.2.1, ⟨hk.1.1.1.2.2.2.2.2.1, ⟨hk.1.1.1.2.2.2.2.2.2, hk.1.2⟩⟩⟩⟩⟩⟩⟩⟩)⟩, ⟨by (with_reducible repeat (first | apply Kd.N_alloc | apply Kd.N_drewN | apply Kd.N_drew)); exact Kd.N_mono (Kd.N_far (p := ⟨gb463, 2, none⟩) (Kd.N_far (p := ⟨gb463, 1, none⟩) (Kd.N_far (p := ⟨gb463, 0, none⟩) (Kd.N_mono HO461.out (fun k_ hk => (⟨hk, hk.2⟩ : _ ∧ k_ ≠ gb463))) (fun _ hk => hk.2) (.int .i64 t457)) (fun _ hk => hk.2) (.int .i64 t458)) (fun _ hk => hk.2) (.slice Ao78 t459.length co78)) (fun _ hk => ⟨hk.1.1.1, ⟨hk.1.1.2.1, ⟨hk.1.1.2.2.1, ⟨hk.1.1.2.2.2.1, ⟨hk.1.1.2.2.2.2.1, ⟨hk.1.1.2.2.2.2.2.1, ⟨hk.1.1.2.2.2.2.2.2.1, ⟨hk.1.1.2.2.2.2.2.2.2, hk.1.2⟩⟩⟩⟩⟩⟩⟩⟩)⟩, ⟨by (with_reducible repeat (first | refine X7 ?_ _ | refine X8 ?_ | refine X6 ?_ _)); refine blk_far ?_ NB431_463.out _; (with_reducible repeat (first | refine X7 ?_ _ | refine X8 ?_ | refine X6 ?_ _)); refine blk_far ?_ NB431_463.out _; (with_reducible repeat (first | refine X7 ?_ _ | refine X8 ?_ | refine X6 ?_ _)); refine blk_far ?_ NB431_463.out _; (with_reducible repeat (first | refine X7 ?_ _ | refine X8 ?_ | refine X6 ?_ _)); exact BK431.out⟩, ⟨by (with_reducible repeat (first | refine X7 ?_ _ | refine X8 ?_ | refine X6 ?_ _)); refine blk_far ?_ NB438_463.out _; (with_reducible repeat (first | refine X7 ?_ _ | refine X8 ?_ | refine X6 ?_ _)); refine blk_far ?_ NB438_463.out _; (with_reducible repeat (first | refine X7 ?_ _ | refine X8 ?_ | refine X6 ?_ _)); refine blk_far ?_ NB438_463.out _; (with_reducible repeat (first | refine X7 ?_ _ | refine X8 ?_ | refine X6 ?_ _)); exact BK438.out⟩, ⟨by (with_reducible repeat (first | refine X7 ?_ _ | refine X8 ?_ | refine X6 ?_ _)); refine blk_far ?_ NB445_463.out _; (with_reducible repeat (first | refine X7 ?_ _ | refine X8 ?_ | refine X6 ?_ _)); refine blk_far ?_ NB445_463.out _; (with_reducible repeat (first | refine X7 ?_ _ | refine X8 ?_ | refine X6 ?_ _)); refine blk_far ?_ NB445_463.out _; (with_reducible repeat (first | refine X7 ?_ _ | refine X8 ?_ | refine X6 ?_ _)); exact BK445.out⟩, ⟨by (with_reducible repeat (first | refine X7 ?_ _ | refine X8 ?_ | refine X6 ?_ _)); refine blk_far ?_ NB455_463.out _; (with_reducible repeat (first | refine X7 ?_ _ | refine X8 ?_ | refine X6 ?_ _)); refine blk_far ?_ NB455_463.out _; (with_reducible repeat (first | refine X7 ?_ _ | refine X8 ?_ | refine X6 ?_ _)); refine blk_far ?_ NB455_463.out _; (with_reducible repeat (first | refine X7 ?_ _ | refine X8 ?_ | refine X6 ?_ _)); exact BK455.out⟩, ⟨by (with_reducible repeat (first | refine X7 ?_ _ | refine X8 ?_ | refine X6 ?_ _)); refine blk_put (cs := #[.int .i64 t457, .int .i64 t458, .slice none 0 0]) ?_ 2 _ rfl; (with_reducible repeat (first | refine X7 ?_ _ | refine X8 ?_ | refine X6 ?_ _)); refine blk_put (cs := #[.int .i64 t457, .int .i64 0, .slice none 0 0]) ?_ 1 _ rfl; (with_reducible repeat (first | refine X7 ?_ _ | refine X8 ?_ | refine X6 ?_ _)); refine blk_put (cs := #[.int .i64 0, .int .i64 0, .slice none 0 0]) ?_ 0 _ rfl; (with_reducible repeat (first | refine X7 ?_ _ | refine X8 ?_ | refine X6 ?_ _)); exact BK463.out⟩, ⟨(Kd.V_reads' (by (with_reducible repeat (first | apply Kd.V_alloc | apply Kd.V_drewN | apply Kd.V_drew)); exact (Kd.V_mono (Kd.V_far (p := ⟨gb463, 2, none⟩) (Kd.V_far (p := ⟨gb463, 1, none⟩) (Kd.V_far (p := ⟨gb463, 0, none⟩) (Kd.V_mono HL448_2.out (fun k_ hk => (⟨hk, hk.2⟩ : _ ∧ k_ ≠ gb463))) (fun _ hk => hk.2) (.int .i64 t457)) (fun _ hk => hk.2) (.int .i64 t458)) (fun _ hk => hk.2) (.slice Ao78 t459.length co78)) (fun _ h_ => h_.1)))).2.2⟩, ⟨(Kd.V_reads' (by (with_reducible repeat (first | apply Kd.V_alloc | apply Kd.V_drewN | apply Kd.V_drew)); exact (Kd.V_mono (Kd.V_far (p := ⟨gb463, 2, none⟩) (Kd.V_far (p := ⟨gb463, 1, none⟩) (Kd.V_far (p := ⟨gb463, 0, none⟩) (Kd.V_mono HL456_2.out (fun k_ hk => (⟨hk, hk.2⟩ : _ ∧ k_ ≠ gb463))) (fun _ hk => hk.2) (.int .i64 t457)) (fun _ hk => hk.2) (.int .i64 t458)) (fun _ hk => hk.2) (.slice Ao78 t459.length co78)) (fun _ h_ => h_.1)))).2.2⟩, ⟨by repeat (first | (with_reducible first | exact HB.out | apply X5 | apply X4 | apply X3 | refine X10 ?_ GE431.out | refine X10 ?_ GE438.out | refine X10 ?_ GE445.out | refine X10 ?_ GE455.out | refine X10 ?_ GE463.out) | exact HB.out)⟩⟩
          ·rw [if_neg c82] at H
           have c82b0 : (t457 == 0) = false := beq_eq_false_iff_ne.mpr c82
           have c82b1 : (t457 != 0) = true := bne_iff_ne.mpr c82
           have H' := X1 H
           clear H
           have hnb112 := NB455_431.out
           have hnc112 := NB431_455.out
           have hnb113 := NB455_438.out
           have hnc113 := NB438_455.out
           have hnb114 := NB455_445.out
           have hnc114 := NB445_455.out
           have hnb115 := NB455_463.out
           have hnc115 := NB463_455.out
           have hcz116_0 : w72.cell? ⟨gb455, 0, none⟩ = some (.int .i64 t449) := (X11 BK455.out 0).trans rfl
           have hcz116_1 : w72.cell? ⟨gb455, 1, none⟩ = some (.int .i64 t450) := (X11 BK455.out 1).trans rfl
           have hcz116_2 : w72.cell? ⟨gb455, 2, none⟩ = some (.slice Ao68 t451.length co68) := (X11 BK455.out 2).trans rfl
           have hfz116_0 := X12 BK455.out 0
           have hfz116_1 := X12 BK455.out 1
           have hfz116_2 := X12 BK455.out 2
           have hnb117 := NB463_431.out
           have hnc117 := NB431_463.out
           have hnb118 := NB463_438.out
           have hnc118 := NB438_463.out
           have hnb119 := NB463_445.out
           have hnc119 := NB445_463.out
           have hcz120_0 : w72.cell? ⟨gb463, 0, none⟩ = some (.int .i64 0) := (X11 BK463.out 0).trans rfl
           have hcz120_1 : w72.cell? ⟨gb463, 1, none⟩ = some (.int .i64 0) := (X11 BK463.out 1).trans rfl
           have hcz120_2 : w72.cell? ⟨gb463, 2, none⟩ = some (.slice none 0 0) := (X11 BK463.out 2).trans rfl
           have hfz120_0 := X12 BK463.out 0
           have hfz120_1 := X12 BK463.out 1
           have hfz120_2 := X12 BK463.out 2
           go_wp2
           go_meet
           case rel => exact ⟨_, (false), (by first | rfl | (simp; done) | (simp [*]; done)), H', ⟨by have := HJ5.out; first | omega | exact Nat.le_refl _⟩, ⟨by (with_reducible repeat (first | apply Kd.N_alloc | apply Kd.N_drewN | apply Kd.N_drew)); exact Kd.N_mono (Kd.N_far (p := ⟨gb463, 2, none⟩) (Kd.N_far (p := ⟨gb463, 1, none⟩) (Kd.N_far (p := ⟨gb463, 0, none⟩) (Kd.N_mono HO_432002.out (fun k_ hk => (⟨hk, hk.2⟩ : _ ∧ k_ ≠ gb463))) (fun _ hk => hk.2) (.int .i64 t457)) (fun _ hk => hk.2) (.int .i64 t458)) (fun _ hk => hk.2) (.slice Ao78 t459.length co78)) (fun _ hk => ⟨hk.1.1.1.1, ⟨hk.1.1.1.2.1, ⟨hk.1.1.1.2.2.1, ⟨hk.1.1.2, ⟨hk.1.1.1.2.2.2.1, ⟨hk.1.1.1.2.2.2.2.1, ⟨hk.1.1.1.2.2.2.2.2.1, ⟨hk.1.1.1.2.2.2.2.2.2, hk.1.2⟩⟩⟩⟩⟩⟩⟩⟩)⟩, ⟨by (with_reducible repeat (first | apply Kd.N_alloc | apply Kd.N_drewN | apply Kd.N_drew)); exact Kd.N_mono (Kd.N_far (p := ⟨gb463, 2, none⟩) (Kd.N_far (p := ⟨gb463, 1, none⟩) (Kd.N_far (p := ⟨gb463, 0, none⟩) (Kd.N_mono HO_439002.out (fun k_ hk => (⟨hk, hk.2⟩ : _ ∧ k_ ≠ gb463))) (fun _ hk => hk.2) (.int .i64 t457)) (fun _ hk => hk.2) (.int .i64 t458)) (fun _ hk => hk.2) (.slice Ao78 t459.length co78)) (fun _ hk => ⟨hk.1.1.1.1, ⟨hk.1.1.1.2.1, ⟨hk.1.1.1.2.2.1, ⟨hk.1.1.2, ⟨hk.1.1.1.2.2.2.1, ⟨hk.1.1.1.2.2.2.2.1, ⟨hk.1.1.1.2.2.2.2.2.1, ⟨hk.1.1.1.2.2.2.2.2.2, hk.1.2⟩⟩⟩⟩⟩⟩⟩⟩)⟩, ⟨by (with_reducible repeat (first | apply Kd.N_alloc | apply Kd.N_drewN | apply Kd.N_drew)); exact Kd.N_mono (Kd.N_far (p := ⟨gb463, 2, none⟩) (Kd.N_far (p := ⟨gb463, 1, none⟩) (Kd.N_far (p := ⟨gb463, 0, none⟩) (Kd.N_mono HO_446002.out (fun k_ hk => (⟨hk, hk.2⟩ : _ ∧ k_ ≠ gb463))) (fun _ hk => hk.2) (.int .i64 t457)) (fun _ hk => hk.2) (.int .i64 t458)) (fun _ hk => hk.2) (.slice Ao78 t459.length co78)) (fun _ hk => ⟨hk.1.1.1.1, ⟨hk.1.1.1.2.1, ⟨hk.1.1.1.2.2.1, ⟨hk.1.1.2, ⟨hk.1.1.1.2.2.2.1, ⟨hk.1.1.1.2.2.2.2.1, ⟨hk.1.1.1.2.2.2.2.2.1, ⟨hk.1.1.1.2.2.2.2.2.2, hk.1.2⟩⟩⟩⟩⟩⟩⟩⟩)⟩, ⟨by (with_reducible repeat (first | apply Kd.N_alloc | apply Kd.N_drewN | apply Kd.N_drew)); exact Kd.N_mono (Kd.N_far (p := ⟨gb463, 2, none⟩) (Kd.N_far (p := ⟨gb463, 1, none⟩) (Kd.N_far (p := ⟨gb463, 0, none⟩) (Kd.N_mono HO453.out (fun k_ hk => (⟨hk, hk.2⟩ : _ ∧ k_ ≠ gb463))) (fun _ hk => hk.2) (.int .i64 t457)) (fun _ hk => hk.2) (.int .i64 t458)) (fun _ hk => hk.2) (.slice Ao78 t459.length co78)) (fun _ hk => ⟨hk.1.1.1.1, ⟨hk.1.1.1.2.1, ⟨hk.1.1.1.2.2.1, ⟨hk.1.1.2, ⟨hk.1.1.1.2.2.2.1, ⟨hk.1.1.1.2.2.2.2.1, ⟨hk.1.1.1.2.2.2.2.2.1, ⟨hk.1.1.1.2.2.2.2.2.2, hk.1.2⟩⟩⟩⟩⟩⟩⟩⟩)⟩, ⟨by (with_reducible repeat (first | apply Kd.N_alloc | apply Kd.N_drewN | apply Kd.N_drew)); exact Kd.N_mono (Kd.N_far (p := ⟨gb463, 2, none⟩) (Kd.N_far (p := ⟨gb463, 1, none⟩) (Kd.N_far (p := ⟨gb463, 0, none⟩) (Kd.N_mono HO461.out (fun k_ hk => (⟨hk, hk.2⟩ : _ ∧ k_ ≠ gb463))) (fun _ hk => hk.2) (.int .i64 t457)) (fun _ hk => hk.2) (.int .i64 t458)) (fun _ hk => hk.2) (.slice Ao78 t459.length co78)) (fun _ hk => ⟨hk.1.1.1, ⟨hk.1.1.2.1, ⟨hk.1.1.2.2.1, ⟨hk.1.1.2.2.2.1, ⟨hk.1.1.2.2.2.2.1, ⟨hk.1.1.2.2.2.2.2.1, ⟨hk.1.1.2.2.2.2.2.2.1, ⟨hk.1.1.2.2.2.2.2.2.2, hk.1.2⟩⟩⟩⟩⟩⟩⟩⟩)⟩, ⟨by (with_reducible repeat (first | refine X7 ?_ _ | refine X8 ?_ | refine X6 ?_ _)); refine blk_far ?_ NB431_463.out _; (with_reducible repeat (first | refine X7 ?_ _ | refine X8 ?_ | refine X6 ?_ _)); refine blk_far ?_ NB431_463.out _; (with_reducible repeat (first | refine X7 ?_ _ | refine X8 ?_ | refine X6 ?_ _)); refine blk_far ?_ NB431_463.out _; (with_reducible repeat (first | refine X7 ?_ _ | refine X8 ?_ | refine X6 ?_ _)); exact BK431.out⟩, ⟨by (with_reducible repeat (first | refine X7 ?_ _ | refine X8 ?_ | refine X6 ?_ _)); refine blk_far ?_ NB438_463.out _; (with_reducible repeat (first | refine X7 ?_ _ | refine X8 ?_ | refine X6 ?_ _)); refine blk_far ?_ NB438_463.out _; (with_reducible repeat (first | refine X7 ?_ _ | refine X8 ?_ | refine X6 ?_ _)); refine blk_far ?_ NB438_463.out _; (with_reducible repeat (first | refine X7 ?_ _ | refine X8 ?_ | refine X6 ?_ _)); exact BK438.out⟩, ⟨by (with_reducible repeat (first | refine X7 ?_ _ | refine X8 ?_ | refine X6 ?_ _)); refine blk_far ?_ NB445_463.out _; (with_reducible repeat (first | refine X7 ?_ _ | refine X8 ?_ | refine X6 ?_ _)); refine blk_far ?_ NB445_463.out _; (with_reducible repeat (first | refine X7 ?_ _ | refine X8 ?_ | refine X6 ?_ _)); refine blk_far ?_ NB445_463.out _; (with_reducible repeat (first | refine X7 ?_ _ | refine X8 ?_ | refine X6 ?_ _)); exact BK445.out⟩, ⟨by (with_reducible repeat (first | refine X7 ?_ _ | refine X8 ?_ | refine X6 ?_ _)); refine blk_far ?_ NB455_463.out _; (with_reducible repeat (first | refine X7 ?_ _ | refine X8 ?_ | refine X6 ?_ _)); refine blk_far ?_ NB455_463.out _; (with_reducible repeat (first | refine X7 ?_ _ | refine X8 ?_ | refine X6 ?_ _)); refine blk_far ?_ NB455_463.out _; (with_reducible repeat (first | refine X7 ?_ _ | refine X8 ?_ | refine X6 ?_ _)); exact BK455.out⟩, ⟨by (with_reducible repeat (first | refine X7 ?_ _ | refine X8 ?_ | refine X6 ?_ _)); refine blk_put (cs := #[.int .i64 t457, .int .i64 t458, .slice none 0 0]) ?_ 2 _ rfl; (with_reducible repeat (first | refine X7 ?_ _ | refine X8 ?_ | refine X6 ?_ _)); refine blk_put (cs := #[.int .i64 t457, .int .i64 0, .slice none 0 0]) ?_ 1 _ rfl; (with_reducible repeat (first | refine X7 ?_ _ | refine X8 ?_ | refine X6 ?_ _)); refine blk_put (cs := #[.int .i64 0, .int .i64 0, .slice none 0 0]) ?_ 0 _ rfl; (with_reducible repeat (first | refine X7 ?_ _ | refine X8 ?_ | refine X6 ?_ _)); exact BK463.out⟩, ⟨(Kd.V_reads' (by (with_reducible repeat (first | apply Kd.V_alloc | apply Kd.V_drewN | apply Kd.V_drew)); exact (Kd.V_mono (Kd.V_far (p := ⟨gb463, 2, none⟩) (Kd.V_far (p := ⟨gb463, 1, none⟩) (Kd.V_far (p := ⟨gb463, 0, none⟩) (Kd.V_mono HL448_2.out (fun k_ hk => (⟨hk, hk.2⟩ : _ ∧ k_ ≠ gb463))) (fun _ hk => hk.2) (.int .i64 t457)) (fun _ hk => hk.2) (.int .i64 t458)) (fun _ hk => hk.2) (.slice Ao78 t459.length co78)) (fun _ h_ => h_.1)))).2.2⟩, ⟨(Kd.V_reads' (by (with_reducible repeat (first | apply Kd.V_alloc | apply Kd.V_drewN | apply Kd.V_drew)); exact (Kd.V_mono (Kd.V_far (p := ⟨gb463, 2, none⟩) (Kd.V_far (p := ⟨gb463, 1, none⟩) (Kd.V_far (p := ⟨gb463, 0, none⟩) (Kd.V_mono HL456_2.out (fun k_ hk => (⟨hk, hk.2⟩ : _ ∧ k_ ≠ gb463))) (fun _ hk => hk.2) (.int .i64 t457)) (fun _ hk => hk.2) (.int .i64 t458)) (fun _ hk => hk.2) (.slice Ao78 t459.length co78)) (fun _ h_ => h_.1)))).2.2⟩, ⟨by repeat (first | (with_reducible first | exact HB.out | apply X5 | apply X4 | apply X3 | refine X10 ?_ GE431.out | refine X10 ?_ GE438.out | refine X10 ?_ GE445.out | refine X10 ?_ GE455.out | refine X10 ?_ GE463.out) | exact HB.out)⟩⟩
         ·rw [if_neg c81] at H
          have c81b0 : (t449 == 0) = false := beq_eq_false_iff_ne.mpr c81
          have c81b1 : (t449 != 0) = true := bne_iff_ne.mpr c81
          (first | rw [c81b0] | (simp only [i64_w, i32_w]; rw [c81b0]) | skip)
          have H' := X1 H
          clear H
          have hnb121 := NB455_431.out
          have hnc121 := NB431_455.out
          have hnb122 := NB455_438.out
          have hnc122 := NB438_455.out
          have hnb123 := NB455_445.out
          have hnc123 := NB445_455.out
          have hnb124 := NB455_463.out
          have hnc124 := NB463_455.out
          have hcz125_0 : w72.cell? ⟨gb455, 0, none⟩ = some (.int .i64 t449) := (X11 BK455.out 0).trans rfl
          have hcz125_1 : w72.cell? ⟨gb455, 1, none⟩ = some (.int .i64 t450) := (X11 BK455.out 1).trans rfl
          have hcz125_2 : w72.cell? ⟨gb455, 2, none⟩ = some (.slice Ao68 t451.length co68) := (X11 BK455.out 2).trans rfl
          have hfz125_0 := X12 BK455.out 0
          have hfz125_1 := X12 BK455.out 1
          have hfz125_2 := X12 BK455.out 2
          go_wp2
          go_meet
          case rel => exact ⟨_, (false), (by first | rfl | (simp; done) | (simp [*]; done)), H', ⟨by have := HJ5.out; first | omega | exact Nat.le_refl _⟩, ⟨by (with_reducible repeat (first | apply Kd.N_alloc | apply Kd.N_drewN | apply Kd.N_drew)); exact Kd.N_mono (Kd.N_far (p := ⟨gb463, 2, none⟩) (Kd.N_far (p := ⟨gb463, 1, none⟩) (Kd.N_far (p := ⟨gb463, 0, none⟩) (Kd.N_mono HO_432002.out (fun k_ hk => (⟨hk, hk.2⟩ : _ ∧ k_ ≠ gb463))) (fun _ hk => hk.2) (.int .i64 t457)) (fun _ hk => hk.2) (.int .i64 t458)) (fun _ hk => hk.2) (.slice Ao78 t459.length co78)) (fun _ hk => ⟨hk.1.1.1.1, ⟨hk.1.1.1.2.1, ⟨hk.1.1.1.2.2.1, ⟨hk.1.1.2, ⟨hk.1.1.1.2.2.2.1, ⟨hk.1.1.1.2.2.2.2.1, ⟨hk.1.1.1.2.2.2.2.2.1, ⟨hk.1.1.1.2.2.2.2.2.2, hk.1.2⟩⟩⟩⟩⟩⟩⟩⟩)⟩, ⟨by (with_reducible repeat (first | apply Kd.N_alloc | apply Kd.N_drewN | apply Kd.N_drew)); exact Kd.N_mono (Kd.N_far (p := ⟨gb463, 2, none⟩) (Kd.N_far (p := ⟨gb463, 1, none⟩) (Kd.N_far (p := ⟨gb463, 0, none⟩) (Kd.N_mono HO_439002.out (fun k_ hk => (⟨hk, hk.2⟩ : _ ∧ k_ ≠ gb463))) (fun _ hk => hk.2) (.int .i64 t457)) (fun _ hk => hk.2) (.int .i64 t458)) (fun _ hk => hk.2) (.slice Ao78 t459.length co78)) (fun _ hk => ⟨hk.1.1.1.1, ⟨hk.1.1.1.2.1, ⟨hk.1.1.1.2.2.1, ⟨hk.1.1.2, ⟨hk.1.1.1.2.2.2.1, ⟨hk.1.1.1.2.2.2.2.1, ⟨hk.1.1.1.2.2.2.2.2.1, ⟨hk.1.1.1.2.2.2.2.2.2, hk.1.2⟩⟩⟩⟩⟩⟩⟩⟩)⟩, ⟨by (with_reducible repeat (first | apply Kd.N_alloc | apply Kd.N_drewN | apply Kd.N_drew)); exact Kd.N_mono (Kd.N_far (p := ⟨gb463, 2, none⟩) (Kd.N_far (p := ⟨gb463, 1, none⟩) (Kd.N_far (p := ⟨gb463, 0, none⟩) (Kd.N_mono HO_446002.out (fun k_ hk => (⟨hk, hk.2⟩ : _ ∧ k_ ≠ gb463))) (fun _ hk => hk.2) (.int .i64 t457)) (fun _ hk => hk.2) (.int .i64 t458)) (fun _ hk => hk.2) (.slice Ao78 t459.length co78)) (fun _ hk => ⟨hk.1.1.1.1, ⟨hk.1.1.1.2.1, ⟨hk.1.1.1.2.2.1, ⟨hk.1.1.2, ⟨hk.1.1.1.2.2.2.1, ⟨hk.1.1.1.2.2.2.2.1, ⟨hk.1.1.1.2.2.2.2.2.1, ⟨hk.1.1.1.2.2.2.2.2.2, hk.1.2⟩⟩⟩⟩⟩⟩⟩⟩)⟩, ⟨by (with_reducible repeat (first | apply Kd.N_alloc | apply Kd.N_drewN | apply Kd.N_drew)); exact Kd.N_mono (Kd.N_far (p := ⟨gb463, 2, none⟩) (Kd.N_far (p := ⟨gb463, 1, none⟩) (Kd.N_far (p := ⟨gb463, 0, none⟩) (Kd.N_mono HO453.out (fun k_ hk => (⟨hk, hk.2⟩ : _ ∧ k_ ≠ gb463))) (fun _ hk => hk.2) (.int .i64 t457)) (fun _ hk => hk.2) (.int .i64 t458)) (fun _ hk => hk.2) (.slice Ao78 t459.length co78)) (fun _ hk => ⟨hk.1.1.1.1, ⟨hk.1.1.1.2.1, ⟨hk.1.1.1.2.2.1, ⟨hk.1.1.2, ⟨hk.1.1.1.2.2.2.1, ⟨hk.1.1.1.2.2.2.2.1, ⟨hk.1.1.1.2.2.2.2.2.1, ⟨hk.1.1.1.2.2.2.2.2.2, hk.1.2⟩⟩⟩⟩⟩⟩⟩⟩)⟩, ⟨by (with_reducible repeat (first | apply Kd.N_alloc | apply Kd.N_drewN | apply Kd.N_drew)); exact Kd.N_mono (Kd.N_far (p := ⟨gb463, 2, none⟩) (Kd.N_far (p := ⟨gb463, 1, none⟩) (Kd.N_far (p := ⟨gb463, 0, none⟩) (Kd.N_mono HO461.out (fun k_ hk => (⟨hk, hk.2⟩ : _ ∧ k_ ≠ gb463))) (fun _ hk => hk.2) (.int .i64 t457)) (fun _ hk => hk.2) (.int .i64 t458)) (fun _ hk => hk.2) (.slice Ao78 t459.length co78)) (fun _ hk => ⟨hk.1.1.1, ⟨hk.1.1.2.1, ⟨hk.1.1.2.2.1, ⟨hk.1.1.2.2.2.1, ⟨hk.1.1.2.2.2.2.1, ⟨hk.1.1.2.2.2.2.2.1, ⟨hk.1.1.2.2.2.2.2.2.1, ⟨hk.1.1.2.2.2.2.2.2.2, hk.1.2⟩⟩⟩⟩⟩⟩⟩⟩)⟩, ⟨by (with_reducible repeat (first | refine X7 ?_ _ | refine X8 ?_ | refine X6 ?_ _)); refine blk_far ?_ NB431_463.out _; (with_reducible repeat (first | refine X7 ?_ _ | refine X8 ?_ | refine X6 ?_ _)); refine blk_far ?_ NB431_463.out _; (with_reducible repeat (first | refine X7 ?_ _ | refine X8 ?_ | refine X6 ?_ _)); refine blk_far ?_ NB431_463.out _; (with_reducible repeat (first | refine X7 ?_ _ | refine X8 ?_ | refine X6 ?_ _)); exact BK431.out⟩, ⟨by (with_reducible repeat (first | refine X7 ?_ _ | refine X8 ?_ | refine X6 ?_ _)); refine blk_far ?_ NB438_463.out _; (with_reducible repeat (first | refine X7 ?_ _ | refine X8 ?_ | refine X6 ?_ _)); refine blk_far ?_ NB438_463.out _; (with_reducible repeat (first | refine X7 ?_ _ | refine X8 ?_ | refine X6 ?_ _)); refine blk_far ?_ NB438_463.out _; (with_reducible repeat (first | refine X7 ?_ _ | refine X8 ?_ | refine X6 ?_ _)); exact BK438.out⟩, ⟨by (with_reducible repeat (first | refine X7 ?_ _ | refine X8 ?_ | refine X6 ?_ _)); refine blk_far ?_ NB445_463.out _; (with_reducible repeat (first | refine X7 ?_ _ | refine X8 ?_ | refine X6 ?_ _)); refine blk_far ?_ NB445_463.out _; (with_reducible repeat (first | refine X7 ?_ _ | refine X8 ?_ | refine X6 ?_ _)); refine blk_far ?_ NB445_463.out _; (with_reducible repeat (first | refine X7 ?_ _ | refine X8 ?_ | refine X6 ?_ _)); exact BK445.out⟩, ⟨by (with_reducible repeat (first | refine X7 ?_ _ | refine X8 ?_ | refine X6 ?_ _)); refine blk_far ?_ NB455_463.out _; (with_reducible repeat (first | refine X7 ?_ _ | refine X8 ?_ | refine X6 ?_ _)); refine blk_far ?_ NB455_463.out _; (with_reducible repeat (first | refine X7 ?_ _ | refine X8 ?_ | refine X6 ?_ _)); refine blk_far ?_ NB455_463.out _; (with_reducible repeat (first | refine X7 ?_ _ | refine X8 ?_ | refine X6 ?_ _)); exact BK455.out⟩, ⟨by (with_reducible repeat (first | refine X7 ?_ _ | refine X8 ?_ | refine X6 ?_ _)); refine blk_put (cs := #[.int .i64 t457, .int .i64 t458, .slice none 0 0]) ?_ 2 _ rfl; (with_reducible repeat (first | refine X7 ?_ _ | refine X8 ?_ | refine X6 ?_ _)); refine blk_put (cs := #[.int .i64 t457, .int .i64 0, .slice none 0 0]) ?_ 1 _ rfl; (with_reducible repeat (first | refine X7 ?_ _ | refine X8 ?_ | refine X6 ?_ _)); refine blk_put (cs := #[.int .i64 0, .int .i64 0, .slice none 0 0]) ?_ 0 _ rfl; (with_reducible repeat (first | refine X7 ?_ _ | refine X8 ?_ | refine X6 ?_ _)); exact BK463.out⟩, ⟨(Kd.V_reads' (by (with_reducible repeat (first | apply Kd.V_alloc | apply Kd.V_drewN | apply Kd.V_drew)); exact (Kd.V_mono (Kd.V_far (p := ⟨gb463, 2, none⟩) (Kd.V_far (p := ⟨gb463, 1, none⟩) (Kd.V_far (p := ⟨gb463, 0, none⟩) (Kd.V_mono HL448_2.out (fun k_ hk => (⟨hk, hk.2⟩ : _ ∧ k_ ≠ gb463))) (fun _ hk => hk.2) (.int .i64 t457)) (fun _ hk => hk.2) (.int .i64 t458)) (fun _ hk => hk.2) (.slice Ao78 t459.length co78)) (fun _ h_ => h_.1)))).2.2⟩, ⟨(Kd.V_reads' (by (with_reducible repeat (first | apply Kd.V_alloc | apply Kd.V_drewN | apply Kd.V_drew)); exact (Kd.V_mono (Kd.V_far (p := ⟨gb463, 2, none⟩) (Kd.V_far (p := ⟨gb463, 1, none⟩) (Kd.V_far (p := ⟨gb463, 0, none⟩) (Kd.V_mono HL456_2.out (fun k_ hk => (⟨hk, hk.2⟩ : _ ∧ k_ ≠ gb463))) (fun _ hk => hk.2) (.int .i64 t457)) (fun _ hk => hk.2) (.int .i64 t458)) (fun _ hk => hk.2) (.slice Ao78 t459.length co78)) (fun _ h_ => h_.1)))).2.2⟩, ⟨by repeat (first | (with_reducible first | exact HB.out | apply X5 | apply X4 | apply X3 | refine X10 ?_ GE431.out | refine X10 ?_ GE438.out | refine X10 ?_ GE445.out | refine X10 ?_ GE455.out | refine X10 ?_ GE463.out) | exact HB.out)⟩⟩
        case rest =>
         clear HC56
         try clear c1
         try clear c2
         try clear c2b0
         try clear c2b1
         try clear p2
         try clear c3
         try clear c4
         try clear p4
         try clear q4
         try clear hx4
         try clear qi4
         try clear c5
         try clear c6
         try clear c7
         try clear c8
         try clear c9
         try clear c10
         try clear c11
         try clear c12
         try clear c13
         try clear c19
         try clear c20
         try clear c23
         try clear c23b0
         try clear c23b1
         try clear c23b2
         try clear c25
         try clear c26
         try clear c27
         try clear c28
         try clear c29
         try clear c30
         try clear c32
         try clear c33
         try clear c35
         try clear c38
         try clear c39
         try clear c39b0
         try clear c39b1
         try clear c39b2
         try clear c41
         try clear c42
         try clear c44
         try clear p44
         try clear q44
         try clear hx44
         try clear qi44
         try clear c45
         try clear p45
         try clear q45
         try clear hx45
         try clear qi45
         try clear c47
         try clear c47b0
         try clear c47b1
         try clear c47b2
         try clear c48
         try clear c49
         try clear c51
         try clear c51b0
         try clear c51b1
         try clear c53
         try clear c53b0
         try clear c53b1
         try clear c57
         try clear c58
         try clear c60
         try clear c64
         try clear c65
         try clear c66
         try clear c73
         try clear c74
         try clear c75
         try clear c76
         try clear c81
         try clear c81b0
         try clear c81b1
         try clear c82
         try clear c82b0
         try clear c82b1
         try clear c83
         try clear c84
         try clear c84b0
         try clear c85
         try clear c86
         try clear c87
         try clear c88
         try clear c90
         try clear c91
         try clear c92
         try clear c94
         try clear c95
         try clear c96
         try clear c97
         try clear c99
         try clear c100
         try clear c101
         try clear c103
         try clear c104
         try clear c105
         try clear c106
         try clear c108
         try clear c109
         try clear c110
         try clear c112
         try clear c113
         try clear c114
         try clear c115
         try clear c117
         try clear c118
         try clear c119
         try clear c121
         try clear c122
         try clear c123
         try clear c124
         try clear hcz102_0
         try clear hcz102_1
         try clear hcz102_2
         try clear hcz107_0
         try clear hcz107_1
         try clear hcz107_2
         try clear hcz111_0
         try clear hcz111_1
         try clear hcz111_2
         try clear hcz116_0
         try clear hcz116_1
         try clear hcz116_2
         try clear hcz120_0
         try clear hcz120_1
         try clear hcz120_2
         try clear hcz125_0
         try clear hcz125_1
         try clear hcz125_2
         try clear hcz14_0
         try clear hcz14_1
         try clear hcz14_2
         try clear hcz16_0
         try clear hcz16_1
         try clear hcz16_2
         try clear hcz21_0
         try clear hcz21_1
         try clear hcz21_2
         try clear hcz28_0
         try clear hcz28_1
         try clear hcz28_2
         try clear hcz30_0
         try clear hcz30_1
         try clear hcz30_2
         try clear hcz34_0
         try clear hcz34_1
         try clear hcz34_2
         try clear hcz36_0
         try clear hcz36_1
         try clear hcz36_2
         try clear hcz43_0
         try clear hcz43_1
         try clear hcz43_2
         try clear hcz45_0
         try clear hcz45_1
         try clear hcz45_2
         try clear hcz50_0
         try clear hcz50_1
         try clear hcz50_2
         try clear hcz59_0
         try clear hcz59_1
         try clear hcz59_2
         try clear hcz61_0
         try clear hcz61_1
         try clear hcz61_2
         try clear hcz67_0
         try clear hcz67_1
         try clear hcz67_2
         try clear hcz70_0
         try clear hcz70_1
         try clear hcz70_2
         try clear hcz77_0
         try clear hcz77_1
         try clear hcz77_2
         try clear hcz79_0
         try clear hcz79_1
         try clear hcz79_2
         try clear hcz80_0
         try clear hcz80_1
         try clear hcz80_2
         try clear hcz89_0
         try clear hcz89_1
         try clear hcz89_2
         try clear hcz93_0
         try clear hcz93_1
         try clear hcz93_2
         try clear hcz98_0
         try clear hcz98_1
         try clear hcz98_2
         try clear hcz9_0
         try clear hcz9_1
         try clear hcz9_2
         try clear hfz102_0
         try clear hfz102_1
         try clear hfz102_2
         try clear hfz107_0
         try clear hfz107_1
         try clear hfz107_2
         try clear hfz111_0
         try clear hfz111_1
         try clear hfz111_2
         try clear hfz116_0
         try clear hfz116_1
         try clear hfz116_2
         try clear hfz120_0
         try clear hfz120_1
         try clear hfz120_2
         try clear hfz125_0
         try clear hfz125_1
         try clear hfz125_2
         try clear hfz14_0
         try clear hfz14_1
         try clear hfz14_2
         try clear hfz16_0
         try clear hfz16_1
         try clear hfz16_2
         try clear hfz21_0
         try clear hfz21_1
         try clear hfz21_2
         try clear hfz28_0
         try clear hfz28_1
         try clear hfz28_2
         try clear hfz30_0
         try clear hfz30_1
         try clear hfz30_2
         try clear hfz34_0
         try clear hfz34_1
         try clear hfz34_2
         try clear hfz36_0
         try clear hfz36_1
         try clear hfz36_2
         try clear hfz43_0
         try clear hfz43_1
         try clear hfz43_2
         try clear hfz45_0
         try clear hfz45_1
         try clear hfz45_2
         try clear hfz50_0
         try clear hfz50_1
         try clear hfz50_2
         try clear hfz59_0
         try clear hfz59_1
         try clear hfz59_2
         try clear hfz61_0
         try clear hfz61_1
         try clear hfz61_2
         try clear hfz67_0
         try clear hfz67_1
         try clear hfz67_2
         try clear hfz70_0
         try clear hfz70_1
         try clear hfz70_2
         try clear hfz77_0
         try clear hfz77_1
         try clear hfz77_2
         try clear hfz79_0
         try clear hfz79_1
         try clear hfz79_2
         try clear hfz80_0
         try clear hfz80_1
         try clear hfz80_2
         try clear hfz89_0
         try clear hfz89_1
         try clear hfz89_2
         try clear hfz93_0
         try clear hfz93_1
         try clear hfz93_2
         try clear hfz98_0
         try clear hfz98_1
         try clear hfz98_2
         try clear hfz9_0
         try clear hfz9_1
         try clear hfz9_2
         try clear hx448_0
         try clear hx448_1
         try clear hx448_2
         try clear hx456_0
         try clear hx456_1
         try clear hx456_2
         try clear p2
         try clear p448
         try clear p456
         try clear q448
         try clear q456
         obtain ⟨kq, x14_55, rfl, HA, HJ55, HO_432002, HO_439002, HO_446002, HO_456002, HO_464002, BK431, BK438, BK445, BK455, BK463, HR448_2, HR456_2, HB⟩ := hcut
         cases kq with
         | zero => exact absurd HA.out (by simp [laws_FnFoldParts.j1])
         | succ kj55 =>
          have H := HA.out
          clear HA
          simp only [laws_FnFoldParts.j1] at H
          by_cases c126 : t454 = true
          ·subst c126
           have H1 : (if t462 = true then (if t432 = t426 then (if 0 < (t434.length : Int) then ((laws_sameExpr.f kj55 t449 t450 t451 ((rd_T29 t434 0).f0) ((rd_T29 t434 0).f1) ((rd_T29 t434 0).f2)).bind fun t467 => (if t467 = true then (if 1 < (t434.length : Int) then ((laws_sameExpr.f kj55 t457 t458 t459 ((rd_T29 t434 1).f0) ((rd_T29 t434 1).f1) ((rd_T29 t434 1).f2)).bind fun t469 => (if t469 = true then (some (!x14_55)) else (none))) else (none)) else (none))) else (none)) else (none)) else (none)) = some r := by rw [if_pos rfl] at H; exact H
           clear H
           have H := H1
           clear H1
           by_cases c127 : t462 = true
           ·subst c127
            have H1 : (if t432 = t426 then (if 0 < (t434.length : Int) then ((laws_sameExpr.f kj55 t449 t450 t451 ((rd_T29 t434 0).f0) ((rd_T29 t434 0).f1) ((rd_T29 t434 0).f2)).bind fun t467 => (if t467 = true then (if 1 < (t434.length : Int) then ((laws_sameExpr.f kj55 t457 t458 t459 ((rd_T29 t434 1).f0) ((rd_T29 t434 1).f1) ((rd_T29 t434 1).f2)).bind fun t469 => (if t469 = true then (some (!x14_55)) else (none))) else (none)) else (none))) else (none)) else (none)) = some r := by rw [if_pos rfl] at H; exact H
            clear H
            have H := H1
            clear H1
            by_cases c128 : t432 = t426
            ·rw [if_pos c128] at H
             have c128b0 : (t432 == t426) = true := beq_iff_eq.mpr c128
             have c128b1 : (t432 != t426) = false := bne_eq_false_iff_eq.mpr c128
             clear c128
             by_cases c129 : 0 < (t434.length : Int)
             ·rw [if_pos c129] at H
              have c129b0 : decide (0 < (t434.length : Int)) = true := decide_eq_true c129
              have c129b1 : decide (0 < t434.length) = true := decide_eq_true (by omega)
              clear c129
              replace H := X2 H
              obtain ⟨t467, A1300, H⟩ := H
              replace H : (if t467 = true then (if 1 < (t434.length : Int) then ((laws_sameExpr.f kj55 t457 t458 t459 ((rd_T29 t434 1).f0) ((rd_T29 t434 1).f1) ((rd_T29 t434 1).f2)).bind fun t469 => (if t469 = true then (some (!x14_55)) else (none))) else (none)) else (none)) = some r := H
              have A130 := X1 A1300
              clear A1300
              by_cases c131 : t467 = true
              ·subst c131
               have H1 : (if 1 < (t434.length : Int) then ((laws_sameExpr.f kj55 t457 t458 t459 ((rd_T29 t434 1).f0) ((rd_T29 t434 1).f1) ((rd_T29 t434 1).f2)).bind fun t469 => (if t469 = true then (some (!x14_55)) else (none))) else (none)) = some r := by rw [if_pos rfl] at H; exact H
               clear H
               have H := H1
               clear H1
               by_cases c132 : 1 < (t434.length : Int)
               ·rw [if_pos c132] at H
                have c132b0 : decide (1 < (t434.length : Int)) = true := decide_eq_true c132
                have c132b1 : decide (1 < t434.length) = true := decide_eq_true (by omega)
                clear c132
                replace H := X2 H
                obtain ⟨t469, A1330, H⟩ := H
                replace H : (if t469 = true then (some (!x14_55)) else (none)) = some r := H
                have A133 := X1 A1330
                clear A1330
                by_cases c134 : t469 = true
                ·subst c134
                 have H1 : (some (!x14_55)) = some r := by rw [if_pos rfl] at H; exact H
                 clear H
                 have H := H1
                 clear H1
                 obtain rfl := Option.some.inj H
                 try go_wp2
                 have n0_ := X1 (Kd.N_drew HO_432002.out)
                 have n1_ := X1 (Kd.N_drew HO_439002.out)
                 have n2_ := X1 (Kd.N_drew HO_446002.out)
                 have n3_ := X1 (Kd.N_drew HO_456002.out)
                 have n4_ := X1 (Kd.N_drew HO_464002.out)
                 have n5_ := X1 (X8 BK431.out)
                 have n6_ := X1 (X8 BK438.out)
                 have n7_ := X1 (X8 BK445.out)
                 have n8_ := X1 (X8 BK455.out)
                 have n9_ := X1 (X8 BK463.out)
                 have n10_ := X1 (Kd.C_drew HR448_2.out)
                 have n11_ := X1 (Kd.C_drew HR456_2.out)
                 have n12_ := X1 (X3 HB.out)
                 clear HO_432002
                 clear HO_439002
                 clear HO_446002
                 clear HO_456002
                 clear HO_464002
                 clear BK431
                 clear BK438
                 clear BK445
                 clear BK455
                 clear BK463
                 clear HR448_2
                 clear HR456_2
                 clear HB
                 have HO_432002 := n0_
                 have HO_439002 := n1_
                 have HO_446002 := n2_
                 have HO_456002 := n3_
                 have HO_464002 := n4_
                 have BK431 := n5_
                 have BK438 := n6_
                 have BK445 := n7_
                 have BK455 := n8_
                 have BK463 := n9_
                 have HR448_2 := n10_
                 have HR456_2 := n11_
                 have HB := n12_
                 clear n0_ n1_ n2_ n3_ n4_ n5_ n6_ n7_ n8_ n9_ n10_ n11_ n12_
                 have p466 : 0 ≤ (0 : Int) := (by omega)
                 have q466 : 0 < (t434.length : Int) := of_decide_eq_true (by first | (with_reducible assumption) | assumption)
                 obtain ⟨ad466, A466_2, c466_2, e466, hx466_0, hx466_1, hx466_2, hl466_2, hi466_2⟩ := at_T29 (Kd.N_reads' HO_439002.out).2.2 0 p466 q466
                 cases e466
                 obtain ⟨ce466, hce466, hMe466, hcc466⟩ := Kd.N_get HO_439002.out z29 0 p466 (by first | exact q466 | exact of_decide_eq_true (by first | (with_reducible assumption) | assumption) | (have e_ := (Kd.N_reads' HO_439002.out).1; omega))
                 obtain ⟨ua466_2, uc466_2, rfl, ul466_2, ge466_2⟩ := k29_openF hMe466
                 have hv466_2 := hcc466 2 _ rfl
                 rw [add_field _ _ 2 (by omega)] at hv466_2
                 replace hv466_2 := Option.some.inj (hv466_2.symm.trans hx466_2)
                 injection hv466_2 with hva_ hvn_ hvc_
                 rw [hva_] at ge466_2
                 rw [hvc_] at ul466_2
                 have HL466_2 := X1 (show Kd.V k29 29 _ w.heap.size _ _ ((rd_T29 t434 0).f2) from Kd.V_mk ul466_2 ge466_2)
                 clear hva_ hvn_ hvc_ ge466_2 ul466_2
                 clear hcc466 hce466
                 have qi466 : (0 < t434.length) = True := eq_true (by omega)
                 (try rw [show ((0 : Int)).toNat = 0 from rfl] at hx466_0)
                 (try rw [show 0 * 3 = 0 from rfl] at hx466_0)
                 (try rw [Addr.add_zero'] at hx466_0)
                 (try rw [show ((0 : Int)).toNat = 0 from rfl] at hx466_1)
                 (try rw [show 0 * 3 = 0 from rfl] at hx466_1)
                 (try rw [Addr.add_zero'] at hx466_1)
                 (try rw [show ((0 : Int)).toNat = 0 from rfl] at hx466_2)
                 (try rw [show 0 * 3 = 0 from rfl] at hx466_2)
                 (try rw [Addr.add_zero'] at hx466_2)
                 have HR466_2 := X1 hi466_2
                 have HC466_2 := X1 hl466_2
                 clear hi466_2 hl466_2
                 replace p466 := eq_true p466
                 replace q466 := eq_true q466
                 have p468 : 0 ≤ (1 : Int) := (by omega)
                 have q468 : 1 < (t434.length : Int) := of_decide_eq_true (by first | (with_reducible assumption) | assumption)
                 obtain ⟨ad468, A468_2, c468_2, e468, hx468_0, hx468_1, hx468_2, hl468_2, hi468_2⟩ := at_T29 (Kd.N_reads' HO_439002.out).2.2 1 p468 q468
                 obtain rfl : ad466 = ad468 := (by injection e468)
                 obtain ⟨ce468, hce468, hMe468, hcc468⟩ := Kd.N_get HO_439002.out z29 1 p468 (by first | exact q468 | exact of_decide_eq_true (by first | (with_reducible assumption) | assumption) | (have e_ := (Kd.N_reads' HO_439002.out).1; omega))
                 obtain ⟨ua468_2, uc468_2, rfl, ul468_2, ge468_2⟩ := k29_openF hMe468
                 have hv468_2 := hcc468 2 _ rfl
                 rw [add_field _ _ 2 (by omega)] at hv468_2
                 replace hv468_2 := Option.some.inj (hv468_2.symm.trans hx468_2)
                 injection hv468_2 with hva_ hvn_ hvc_
                 rw [hva_] at ge468_2
                 rw [hvc_] at ul468_2
                 have HL468_2 := X1 (show Kd.V k29 29 _ w.heap.size _ _ ((rd_T29 t434 1).f2) from Kd.V_mk ul468_2 ge468_2)
                 clear hva_ hvn_ hvc_ ge468_2 ul468_2
                 clear hcc468 hce468
                 (try simp only [show (1 : Int).toNat = 1 from rfl, Nat.reduceMul, Nat.reduceEqDiff, Go.Addr.add, ↓reduceIte] at hx468_0)
                 (try simp only [show (1 : Int).toNat = 1 from rfl, Nat.reduceMul, Nat.reduceEqDiff, Go.Addr.add, ↓reduceIte] at hx468_1)
                 (try simp only [show (1 : Int).toNat = 1 from rfl, Nat.reduceMul, Nat.reduceEqDiff, Go.Addr.add, ↓reduceIte] at hx468_2)
                 have qi468 : (1 < t434.length) = True := eq_true (by omega)
                 (try rw [show ((1 : Int)).toNat = 1 from rfl] at hx468_0)
                 (try rw [show 1 * 3 = 3 from rfl] at hx468_0)
                 (try rw [show ((1 : Int)).toNat = 1 from rfl] at hx468_1)
                 (try rw [show 1 * 3 = 3 from rfl] at hx468_1)
                 (try rw [show ((1 : Int)).toNat = 1 from rfl] at hx468_2)
                 (try rw [show 1 * 3 = 3 from rfl] at hx468_2)
                 have HR468_2 := X1 hi468_2
                 have HC468_2 := X1 hl468_2
                 clear hi468_2 hl468_2
                 replace p468 := eq_true p468
                 replace q468 := eq_true q468
                 refine start_ (n := 32) (S := fun w' => w'.cell? ⟨gb438, 0, none⟩ = some (.int .i64 t432) ∧ w'.cell? ⟨gb438, 1, none⟩ = some (.int .i64 t433) ∧ w'.cell? ⟨gb438, 2, none⟩ = some (.slice (some ad466) t434.length co15) ∧ w'.cell? ⟨gb431, 0, none⟩ = some (.int .i64 t426) ∧ w'.cell? ⟨gb431, 1, none⟩ = some (.int .i64 t427) ∧ w'.cell? ⟨gb431, 2, none⟩ = some (.slice (some ad448) t428.length co10) ∧ w'.cell? ⟨gb455, 0, none⟩ = some (.int .i64 t449) ∧ w'.cell? ⟨gb455, 1, none⟩ = some (.int .i64 t450) ∧ w'.cell? ⟨gb455, 2, none⟩ = some (.slice Ao68 t451.length co68) ∧ w'.cell? ⟨gb463, 0, none⟩ = some (.int .i64 t457) ∧ w'.cell? ⟨gb463, 1, none⟩ = some (.int .i64 t458) ∧ w'.cell? ⟨gb463, 2, none⟩ = some (.slice Ao78 t459.length co78) ∧ w'.cell? ad466 = some (.int .i64 ((rd_T29 t434 0).f0)) ∧ w'.cell? ⟨ad466.block, ad466.off + 1, none⟩ = some (.int .i64 ((rd_T29 t434 0).f1)) ∧ w'.cell? ⟨ad466.block, ad466.off + 2, none⟩ = some (.slice A466_2 ((rd_T29 t434 0).f2).length c466_2) ∧ w'.cell? ⟨ad466.block, ad466.off + 3, none⟩ = some (.int .i64 ((rd_T29 t434 1).f0)) ∧ w'.cell? ⟨ad466.block, ad466.off + 3 + 1, none⟩ = some (.int .i64 ((rd_T29 t434 1).f1)) ∧ w'.cell? ⟨ad466.block, ad466.off + 3 + 2, none⟩ = some (.slice A468_2 ((rd_T29 t434 1).f2).length c468_2)) (ds := []) #[false, false, false, false, false, false, false, false, false, false, false, false, false, false, false, false, false, false, false, false, false, false, false, false, false, false, false, false, false, false, false, false] (by kernel_rfl) rfl rfl ⟨(X11 BK438.out 0).trans rfl, (X11 BK438.out 1).trans rfl, (X11 BK438.out 2).trans rfl, (X11 BK431.out 0).trans rfl, (X11 BK431.out 1).trans rfl, (X11 BK431.out 2).trans rfl, (X11 BK455.out 0).trans rfl, (X11 BK455.out 1).trans rfl, (X11 BK455.out 2).trans rfl, (X11 BK463.out 0).trans rfl, (X11 BK463.out 1).trans rfl, (X11 BK463.out 2).trans rfl, hx466_0, hx466_1, hx466_2, hx468_0, hx468_1, hx468_2⟩ (fun hHeld => ?_); refine with_tabW laws_FnFoldParts.tab14 laws_FnFoldParts.bits14 (fun HT_ HW_ => ?_)
                 generalize wc.drew = w135 at HO_432002 HO_439002 HO_446002 HO_456002 HO_464002 BK431 BK438 BK445 BK455 BK463 HR448_2 HR456_2 HB HL466_2 HL468_2 HR466_2 HR468_2 hx466_0 hx466_1 hx466_2 hx468_0 hx468_1 hx468_2 hHeld ⊢
                 refine pure_ (i := 0) (N := some 100) (v := ?_) (a' := ?_) #[true, false, false, false, false, false, false, false, false, false, false, false, false, false, false, false, false, false, false, false, false, false, false, false, false, false, false, false, false, false, false, false] rfl rfl (any_of HT_.out (by kernel_rfl)) (fun _ _ _ h => h) (Or.inl ⟨by rfl, ?_⟩) ?_ ?_
                 rotate_left
                 ·intro w'
                  go_simp
                  with_reducible rfl
                 rotate_left
                 ·simp only [Act.put, List.setIfInBounds_toArray, List.set_cons_zero, List.set_cons_succ, i64_w, i32_w]
                  rfl
                 refine pure_ (i := 1) (N := some 101) (v := ?_) (a' := ?_) #[true, true, false, false, false, false, false, false, false, false, false, false, false, false, false, false, false, false, false, false, false, false, false, false, false, false, false, false, false, false, false, false] rfl rfl (any_of HT_.out (by kernel_rfl)) (fun _ _ _ h => h) (Or.inl ⟨by rfl, ?_⟩) ?_ ?_
                 rotate_left
                 ·intro w'
                  go_simp
                  with_reducible rfl
                 rotate_left
                 ·simp only [Act.put, List.setIfInBounds_toArray, List.set_cons_zero, List.set_cons_succ, i64_w, i32_w]
                  rfl
                 refine pure_ (i := 2) (N := some 102) (v := ?_) (a' := ?_) #[true, true, true, false, false, false, false, false, false, false, false, false, false, false, false, false, false, false, false, false, false, false, false, false, false, false, false, false, false, false, false, false] rfl rfl (any_of HT_.out (by kernel_rfl)) (fun _ _ _ h => h) (Or.inl ⟨by rfl, ?_⟩) ?_ ?_
                 rotate_left
                 ·intro w'
                  go_simp
                  with_reducible rfl
                 rotate_left
                 ·simp only [Act.put, List.setIfInBounds_toArray, List.set_cons_zero, List.set_cons_succ, i64_w, i32_w]
                  rfl
                 refine pure_ (i := 3) (N := some 103) (v := ?_) (a' := ?_) #[true, true, true, true, false, false, false, false, false, false, false, false, false, false, false, false, false, false, false, false, false, false, false, false, false, false, false, false, false, false, false, false] rfl rfl (any_of HT_.out (by kernel_rfl)) (fun _ _ _ h => h) (Or.inl ⟨by rfl, ?_⟩) ?_ ?_
                 rotate_left
                 ·intro w'
                  go_simp
                  with_reducible rfl
                 rotate_left
                 ·simp only [Act.put, List.setIfInBounds_toArray, List.set_cons_zero, List.set_cons_succ, i64_w, i32_w]
                  rfl
                 refine pure_ (i := 4) (N := some 104) (v := ?_) (a' := ?_) #[true, true, true, true, true, false, false, false, false, false, false, false, false, false, false, false, false, false, false, false, false, false, false, false, false, false, false, false, false, false, false, false] rfl rfl (any_of HT_.out (by kernel_rfl)) (fun _ _ _ h => h) (Or.inl ⟨by rfl, ?_⟩) ?_ ?_
                 rotate_left
                 ·intro w'
                  go_simp
                  with_reducible rfl
                 rotate_left
                 ·simp only [Act.put, List.setIfInBounds_toArray, List.set_cons_zero, List.set_cons_succ, i64_w, i32_w]
                  rfl
                 refine pure_ (i := 5) (N := some 105) (v := ?_) (a' := ?_) #[true, true, true, true, true, true, false, false, false, false, false, false, false, false, false, false, false, false, false, false, false, false, false, false, false, false, false, false, false, false, false, false] rfl rfl (any_of HT_.out (by kernel_rfl)) (fun _ _ _ h => h) (Or.inl ⟨by rfl, ?_⟩) ?_ ?_
                 rotate_left
                 ·intro w'
                  go_simp
                  with_reducible rfl
                 rotate_left
                 ·simp only [Act.put, List.setIfInBounds_toArray, List.set_cons_zero, List.set_cons_succ, i64_w, i32_w]
                  rfl
                 refine pure_ (i := 7) (N := some 107) (v := ?_) (a' := ?_) #[true, true, true, true, true, true, false, true, false, false, false, false, false, false, false, false, false, false, false, false, false, false, false, false, false, false, false, false, false, false, false, false] rfl rfl (any_of HT_.out (by kernel_rfl)) (fun _ _ _ h => h) (Or.inl ⟨by rfl, ?_⟩) ?_ ?_
                 rotate_left
                 ·intro w'
                  go_simp
                  with_reducible rfl
                 rotate_left
                 ·simp only [Act.put, List.setIfInBounds_toArray, List.set_cons_zero, List.set_cons_succ, i64_w, i32_w]
                  rfl
                 refine take_ (i := 6) (N := some 106) (v := ?_) (a' := ?_) #[true, true, true, true, true, true, true, true, false, false, false, false, false, false, false, false, false, false, false, false, false, false, false, false, false, false, false, false, false, false, false, false] rfl rfl (take_ofW HT_.out HW_.out (by kernel_rfl)) (fun _ _ _ h => h) (Or.inl ⟨by rfl, ?_⟩) hHeld ?_ ?_
                 rotate_left
                 ·rintro w' ⟨s0, s1, s2, s3, s4, s5, s6, s7, s8, s9, s10, s11, s12, s13, s14, s15, s16, s17⟩
                  go_simp
                  with_reducible rfl
                 rotate_left
                 ·simp only [Act.put, List.setIfInBounds_toArray, List.set_cons_zero, List.set_cons_succ, i64_w, i32_w]
                  rfl
                 refine take_ (i := 8) (N := some 108) (v := ?_) (a' := ?_) #[true, true, true, true, true, true, true, true, true, false, false, false, false, false, false, false, false, false, false, false, false, false, false, false, false, false, false, false, false, false, false, false] rfl rfl (take_ofW HT_.out HW_.out (by kernel_rfl)) (fun _ _ _ h => h) (Or.inl ⟨by rfl, ?_⟩) hHeld ?_ ?_
                 rotate_left
                 ·rintro w' ⟨s0, s1, s2, s3, s4, s5, s6, s7, s8, s9, s10, s11, s12, s13, s14, s15, s16, s17⟩
                  go_simp
                  with_reducible rfl
                 rotate_left
                 ·simp only [Act.put, List.setIfInBounds_toArray, List.set_cons_zero, List.set_cons_succ, i64_w, i32_w]
                  rfl
                 refine pure_ (i := 9) (N := some 109) (v := ?_) (a' := ?_) #[true, true, true, true, true, true, true, true, true, true, false, false, false, false, false, false, false, false, false, false, false, false, false, false, false, false, false, false, false, false, false, false] rfl rfl (any_of HT_.out (by kernel_rfl)) (fun _ _ _ h => h) (Or.inl ⟨by rfl, ?_⟩) ?_ ?_
                 rotate_left
                 ·intro w'
                  go_simp
                  with_reducible rfl
                 rotate_left
                 ·simp only [Act.put, List.setIfInBounds_toArray, List.set_cons_zero, List.set_cons_succ, i64_w, i32_w]
                  rfl
                 refine pure_ (i := 10) (N := some 110) (v := ?_) (a' := ?_) #[true, true, true, true, true, true, true, true, true, true, true, false, false, false, false, false, false, false, false, false, false, false, false, false, false, false, false, false, false, false, false, false] rfl rfl (any_of HT_.out (by kernel_rfl)) (fun _ _ _ h => h) (Or.inl ⟨by rfl, ?_⟩) ?_ ?_
                 rotate_left
                 ·intro w'
                  go_simp
                  with_reducible rfl
                 rotate_left
                 ·simp only [Act.put, List.setIfInBounds_toArray, List.set_cons_zero, List.set_cons_succ, i64_w, i32_w]
                  rfl
                 refine pure_ (i := 11) (N := some 111) (v := ?_) (a' := ?_) #[true, true, true, true, true, true, true, true, true, true, true, true, false, false, false, false, false, false, false, false, false, false, false, false, false, false, false, false, false, false, false, false] rfl rfl (any_of HT_.out (by kernel_rfl)) (fun _ _ _ h => h) (Or.inl ⟨by rfl, ?_⟩) ?_ ?_
                 rotate_left
                 ·intro w'
                  go_simp
                  with_reducible rfl
                 rotate_left
                 ·simp only [Act.put, List.setIfInBounds_toArray, List.set_cons_zero, List.set_cons_succ, i64_w, i32_w]
                  rfl
                 refine pure_ (i := 13) (N := some 113) (v := ?_) (a' := ?_) #[true, true, true, true, true, true, true, true, true, true, true, true, false, true, false, false, false, false, false, false, false, false, false, false, false, false, false, false, false, false, false, false] rfl rfl (any_of HT_.out (by kernel_rfl)) (fun _ _ _ h => h) (Or.inl ⟨by rfl, ?_⟩) ?_ ?_
                 rotate_left
                 ·intro w'
                  go_simp
                  with_reducible rfl
                 rotate_left
                 ·simp only [Act.put, List.setIfInBounds_toArray, List.set_cons_zero, List.set_cons_succ, i64_w, i32_w]
                  rfl
                 refine take_ (i := 12) (N := some 112) (v := ?_) (a' := ?_) #[true, true, true, true, true, true, true, true, true, true, true, true, true, true, false, false, false, false, false, false, false, false, false, false, false, false, false, false, false, false, false, false] rfl rfl (take_ofW HT_.out HW_.out (by kernel_rfl)) (fun _ _ _ h => h) (Or.inl ⟨by rfl, ?_⟩) hHeld ?_ ?_
                 rotate_left
                 ·rintro w' ⟨s0, s1, s2, s3, s4, s5, s6, s7, s8, s9, s10, s11, s12, s13, s14, s15, s16, s17⟩
                  go_simp
                  with_reducible rfl
                 rotate_left
                 ·simp only [Act.put, List.setIfInBounds_toArray, List.set_cons_zero, List.set_cons_succ, i64_w, i32_w]
                  rfl
                 refine take_ (i := 14) (N := some 114) (v := ?_) (a' := ?_) #[true, true, true, true, true, true, true, true, true, true, true, true, true, true, true, false, false, false, false, false, false, false, false, false, false, false, false, false, false, false, false, false] rfl rfl (take_ofW HT_.out HW_.out (by kernel_rfl)) (fun _ _ _ h => h) (Or.inl ⟨by rfl, ?_⟩) hHeld ?_ ?_
                 rotate_left
                 ·rintro w' ⟨s0, s1, s2, s3, s4, s5, s6, s7, s8, s9, s10, s11, s12, s13, s14, s15, s16, s17⟩
                  go_simp
                  with_reducible rfl
                 rotate_left
                 ·simp only [Act.put, List.setIfInBounds_toArray, List.set_cons_zero, List.set_cons_succ, i64_w, i32_w]
                  rfl
                 refine pure_ (i := 15) (N := some 115) (v := ?_) (a' := ?_) #[true, true, true, true, true, true, true, true, true, true, true, true, true, true, true, true, false, false, false, false, false, false, false, false, false, false, false, false, false, false, false, false] rfl rfl (any_of HT_.out (by kernel_rfl)) (fun _ _ _ h => h) (Or.inl ⟨by rfl, ?_⟩) ?_ ?_
                 rotate_left
                 ·intro w'
                  go_simp
                  with_reducible rfl
                 rotate_left
                 ·simp only [Act.put, List.setIfInBounds_toArray, List.set_cons_zero, List.set_cons_succ, i64_w, i32_w]
                  rfl
                 refine take_ (i := 16) (N := some 116) (v := ?_) (a' := ?_) #[true, true, true, true, true, true, true, true, true, true, true, true, true, true, true, true, true, false, false, false, false, false, false, false, false, false, false, false, false, false, false, false] rfl rfl (take_ofW HT_.out HW_.out (by kernel_rfl)) (fun _ _ _ h => h) (Or.inl ⟨by rfl, ?_⟩) hHeld ?_ ?_
                 rotate_left
                 ·rintro w' ⟨s0, s1, s2, s3, s4, s5, s6, s7, s8, s9, s10, s11, s12, s13, s14, s15, s16, s17⟩
                  go_simp
                  with_reducible rfl
                 rotate_left
                 ·simp only [Act.put, List.setIfInBounds_toArray, List.set_cons_zero, List.set_cons_succ, i64_w, i32_w]
                  rfl
                 refine one_ (i := 17) (N := some 117) #[true, true, true, true, true, true, true, true, true, true, true, true, true, true, true, true, true, true, false, false, false, false, false, false, false, false, false, false, false, false, false, false] rfl rfl (one_of HT_.out (by kernel_rfl)) (by decide) (fun K hK => ?_)
                 refine goes_ Try.func29 (by kernel_rfl) rfl #[.agg #[.int .i64 t449, .int .i64 t450, .slice Ao68 t451.length co68], .agg #[.int .i64 ((rd_T29 t434 0).f0), .int .i64 ((rd_T29 t434 0).f1), .slice A466_2 ((rd_T29 t434 0).f2).length c466_2]] (by rfl) rfl rfl (by (try simp only [List.map_toArray, List.map_cons, List.map_nil]); first | done | rfl | (simp only [List.length_drop, List.length_take]; rfl)) ?_
                 with_reducible refine (laws_sameExpr.calls kj55 t449 t450 _ _ t451 ((rd_T29 t434 0).f0) ((rd_T29 t434 0).f1) _ _ ((rd_T29 t434 0).f2) true _ ?side1 ?side2 ?side3 ?side4 A130.out).mono ?_
                 (case side1 => repeat (first | exact (Kd.N_reads' HO_456002.out).2.2 | (with_reducible refine Kd.C_alloc ?_ _) | (with_reducible refine Kd.C_drewN ?_ _) | (with_reducible refine Kd.C_drew ?_)))
                 (case side2 => exact (Kd.N_reads' HO_456002.out).2.1)
                 (case side3 => repeat (first | exact (by repeat (first | (with_reducible exact HR466_2.out) | (with_reducible refine Kd.C_alloc ?_ _) | (with_reducible refine Kd.C_drewN ?_ _) | (with_reducible refine Kd.C_drew ?_) | exact HR466_2.out)) | (with_reducible refine Kd.C_alloc ?_ _) | (with_reducible refine Kd.C_drewN ?_ _) | (with_reducible refine Kd.C_drew ?_)))
                 (case side4 => exact HC466_2.out)
                 rintro e w136 ⟨rfl, hb⟩
                 have HS12_ := (hb.cell (X9 _ _ (hHeld.2.2.2.2.2.2.2.2.2.2.2.2.1))).trans (hHeld.2.2.2.2.2.2.2.2.2.2.2.2.1)
                 have HS13_ := (hb.cell (X9 _ _ (hHeld.2.2.2.2.2.2.2.2.2.2.2.2.2.1))).trans (hHeld.2.2.2.2.2.2.2.2.2.2.2.2.2.1)
                 have HS14_ := (hb.cell (X9 _ _ (hHeld.2.2.2.2.2.2.2.2.2.2.2.2.2.2.1))).trans (hHeld.2.2.2.2.2.2.2.2.2.2.2.2.2.2.1)
                 have HS15_ := (hb.cell (X9 _ _ (hHeld.2.2.2.2.2.2.2.2.2.2.2.2.2.2.2.1))).trans (hHeld.2.2.2.2.2.2.2.2.2.2.2.2.2.2.2.1)
                 have HS16_ := (hb.cell (X9 _ _ (hHeld.2.2.2.2.2.2.2.2.2.2.2.2.2.2.2.2.1))).trans (hHeld.2.2.2.2.2.2.2.2.2.2.2.2.2.2.2.2.1)
                 have HS17_ := (hb.cell (X9 _ _ (hHeld.2.2.2.2.2.2.2.2.2.2.2.2.2.2.2.2.2))).trans (hHeld.2.2.2.2.2.2.2.2.2.2.2.2.2.2.2.2.2)
                 refine ⟨_, rfl, ?_⟩
                 have m0_ := X1 (Kd.V_below (by (with_reducible repeat (first | apply Kd.V_alloc | apply Kd.V_drewN | apply Kd.V_drew)); exact HL468_2.out) hb)
                 have m1_ := X1 (Kd.C_below (by repeat (first | (with_reducible exact HR468_2.out) | (with_reducible refine Kd.C_alloc ?_ _) | (with_reducible refine Kd.C_drewN ?_ _) | (with_reducible refine Kd.C_drew ?_) | exact HR468_2.out)) hb)
                 clear HL468_2 HR468_2
                 have HL468_2 := m0_
                 have HR468_2 := m1_
                 clear m0_ m1_
                 have n0_ := X1 (Kd.N_below (by (with_reducible repeat (first | apply Kd.N_alloc | apply Kd.N_drewN | apply Kd.N_drew)); exact HO_432002.out) hb)
                 have n1_ := X1 (Kd.N_below (by (with_reducible repeat (first | apply Kd.N_alloc | apply Kd.N_drewN | apply Kd.N_drew)); exact HO_439002.out) hb)
                 have n2_ := X1 (Kd.N_below (by (with_reducible repeat (first | apply Kd.N_alloc | apply Kd.N_drewN | apply Kd.N_drew)); exact HO_446002.out) hb)
                 have n3_ := X1 (Kd.N_below (by (with_reducible repeat (first | apply Kd.N_alloc | apply Kd.N_drewN | apply Kd.N_drew)); exact HO_456002.out) hb)
                 have n4_ := X1 (Kd.N_below (by (with_reducible repeat (first | apply Kd.N_alloc | apply Kd.N_drewN | apply Kd.N_drew)); exact HO_464002.out) hb)
                 have n5_ := X1 (Kd.V_below (by (with_reducible repeat (first | apply Kd.V_alloc | apply Kd.V_drewN | apply Kd.V_drew)); exact HL466_2.out) hb)
                 have n6_ := X1 (blk_below (g := gb431) (o := .cells #[.int .i64 t426, .int .i64 t427, .slice (some ad448) t428.length co10] 29 (0, 0)) (by (with_reducible repeat (first | refine X7 ?_ _ | refine X8 ?_ | refine X6 ?_ _)); exact BK431.out) hb)
                 have n7_ := X1 (blk_below (g := gb438) (o := .cells #[.int .i64 t432, .int .i64 t433, .slice (some ad466) t434.length co15] 29 (0, 0)) (by (with_reducible repeat (first | refine X7 ?_ _ | refine X8 ?_ | refine X6 ?_ _)); exact BK438.out) hb)
                 have n8_ := X1 (blk_below (g := gb445) (o := .cells #[.int .i64 t439, .int .i64 t440, .slice Ao22 t441.length co22] 29 (0, 0)) (by (with_reducible repeat (first | refine X7 ?_ _ | refine X8 ?_ | refine X6 ?_ _)); exact BK445.out) hb)
                 have n9_ := X1 (blk_below (g := gb455) (o := .cells #[.int .i64 t449, .int .i64 t450, .slice Ao68 t451.length co68] 29 (0, 0)) (by (with_reducible repeat (first | refine X7 ?_ _ | refine X8 ?_ | refine X6 ?_ _)); exact BK455.out) hb)
                 have n10_ := X1 (blk_below (g := gb463) (o := .cells #[.int .i64 t457, .int .i64 t458, .slice Ao78 t459.length co78] 29 (0, 0)) (by (with_reducible repeat (first | refine X7 ?_ _ | refine X8 ?_ | refine X6 ?_ _)); exact BK463.out) hb)
                 have n11_ := X1 (Kd.C_below (by repeat (first | (with_reducible exact HR448_2.out) | (with_reducible refine Kd.C_alloc ?_ _) | (with_reducible refine Kd.C_drewN ?_ _) | (with_reducible refine Kd.C_drew ?_) | exact HR448_2.out)) hb)
                 have n12_ := X1 (Kd.C_below (by repeat (first | (with_reducible exact HR456_2.out) | (with_reducible refine Kd.C_alloc ?_ _) | (with_reducible refine Kd.C_drewN ?_ _) | (with_reducible refine Kd.C_drew ?_) | exact HR456_2.out)) hb)
                 have n13_ := X1 (Kd.C_below (by repeat (first | (with_reducible exact HR466_2.out) | (with_reducible refine Kd.C_alloc ?_ _) | (with_reducible refine Kd.C_drewN ?_ _) | (with_reducible refine Kd.C_drew ?_) | exact HR466_2.out)) hb)
                 have n14_ := X1 (below_step (by repeat (first | (with_reducible first | exact HB.out | apply X5 | apply X4 | apply X3 | refine X10 ?_ GE431.out | refine X10 ?_ GE438.out | refine X10 ?_ GE445.out | refine X10 ?_ GE455.out | refine X10 ?_ GE463.out) | exact HB.out)) hb)
                 clear HO_432002
                 clear HO_439002
                 clear HO_446002
                 clear HO_456002
                 clear HO_464002
                 clear HL466_2
                 clear BK431
                 clear BK438
                 clear BK445
                 clear BK455
                 clear BK463
                 clear HR448_2
                 clear HR456_2
                 clear HR466_2
                 clear HB
                 have HO_432002 := n0_
                 have HO_439002 := n1_
                 have HO_446002 := n2_
                 have HO_456002 := n3_
                 have HO_464002 := n4_
                 have HL466_2 := n5_
                 have BK431 := n6_
                 have BK438 := n7_
                 have BK445 := n8_
                 have BK455 := n9_
                 have BK463 := n10_
                 have HR448_2 := n11_
                 have HR456_2 := n12_
                 have HR466_2 := n13_
                 have HB := n14_
                 clear n0_ n1_ n2_ n3_ n4_ n5_ n6_ n7_ n8_ n9_ n10_ n11_ n12_ n13_ n14_
                 (try clear hb)
                 (try clear hb2)
                 (try clear hk)
                 (try clear hi)
                 refine hK.out _ _ ⟨(X11 BK438.out 0).trans rfl, (X11 BK438.out 1).trans rfl, (X11 BK438.out 2).trans rfl, (X11 BK431.out 0).trans rfl, (X11 BK431.out 1).trans rfl, (X11 BK431.out 2).trans rfl, (X11 BK455.out 0).trans rfl, (X11 BK455.out 1).trans rfl, (X11 BK455.out 2).trans rfl, (X11 BK463.out 0).trans rfl, (X11 BK463.out 1).trans rfl, (X11 BK463.out 2).trans rfl, HS12_, HS13_, HS14_, HS15_, HS16_, HS17_⟩ (fun hHeld => ?_)
                 clear hK K
                 refine norm_ (a' := ?_) ?_ ?_
                 rotate_left
                 ·show Act.put _ (some 117) _ = _
                  simp only [Act.put, List.setIfInBounds_toArray, List.set_cons_zero, List.set_cons_succ, i64_w, i32_w]
                  rfl
                 refine pure_ (i := 18) (N := some 118) (v := ?_) (a' := ?_) #[true, true, true, true, true, true, true, true, true, true, true, true, true, true, true, true, true, true, true, false, false, false, false, false, false, false, false, false, false, false, false, false] rfl rfl (any_of HT_.out (by kernel_rfl)) (fun _ _ _ h => h) (Or.inl ⟨by rfl, ?_⟩) ?_ ?_
                 rotate_left
                 ·intro w'
                  go_simp
                  with_reducible rfl
                 rotate_left
                 ·simp only [Act.put, List.setIfInBounds_toArray, List.set_cons_zero, List.set_cons_succ, i64_w, i32_w]
                  rfl
                 refine pure_ (i := 19) (N := some 119) (v := ?_) (a' := ?_) #[true, true, true, true, true, true, true, true, true, true, true, true, true, true, true, true, true, true, true, true, false, false, false, false, false, false, false, false, false, false, false, false] rfl rfl (any_of HT_.out (by kernel_rfl)) (fun _ _ _ h => h) (Or.inl ⟨by rfl, ?_⟩) ?_ ?_
                 rotate_left
                 ·intro w'
                  go_simp
                  with_reducible rfl
                 rotate_left
                 ·simp only [Act.put, List.setIfInBounds_toArray, List.set_cons_zero, List.set_cons_succ, i64_w, i32_w]
                  rfl
                 refine pure_ (i := 21) (N := some 121) (v := ?_) (a' := ?_) #[true, true, true, true, true, true, true, true, true, true, true, true, true, true, true, true, true, true, true, true, false, true, false, false, false, false, false, false, false, false, false, false] rfl rfl (any_of HT_.out (by kernel_rfl)) (fun _ _ _ h => h) (Or.inl ⟨by rfl, ?_⟩) ?_ ?_
                 rotate_left
                 ·intro w'
                  go_simp
                  with_reducible rfl
                 rotate_left
                 ·simp only [Act.put, List.setIfInBounds_toArray, List.set_cons_zero, List.set_cons_succ, i64_w, i32_w]
                  rfl
                 refine take_ (i := 20) (N := some 120) (v := ?_) (a' := ?_) #[true, true, true, true, true, true, true, true, true, true, true, true, true, true, true, true, true, true, true, true, true, true, false, false, false, false, false, false, false, false, false, false] rfl rfl (take_ofW HT_.out HW_.out (by kernel_rfl)) (fun _ _ _ h => h) (Or.inl ⟨by rfl, ?_⟩) hHeld ?_ ?_
                 rotate_left
                 ·rintro w' ⟨s0, s1, s2, s3, s4, s5, s6, s7, s8, s9, s10, s11, s12, s13, s14, s15, s16, s17⟩
                  go_simp
                  with_reducible rfl
                 rotate_left
                 ·simp only [Act.put, List.setIfInBounds_toArray, List.set_cons_zero, List.set_cons_succ, i64_w, i32_w]
                  rfl
                 refine take_ (i := 22) (N := some 122) (v := ?_) (a' := ?_) #[true, true, true, true, true, true, true, true, true, true, true, true, true, true, true, true, true, true, true, true, true, true, true, false, false, false, false, false, false, false, false, false] rfl rfl (take_ofW HT_.out HW_.out (by kernel_rfl)) (fun _ _ _ h => h) (Or.inl ⟨by rfl, ?_⟩) hHeld ?_ ?_
                 rotate_left
                 ·rintro w' ⟨s0, s1, s2, s3, s4, s5, s6, s7, s8, s9, s10, s11, s12, s13, s14, s15, s16, s17⟩
                  go_simp
                  with_reducible rfl
                 rotate_left
                 ·simp only [Act.put, List.setIfInBounds_toArray, List.set_cons_zero, List.set_cons_succ, i64_w, i32_w]
                  rfl
                 refine pure_ (i := 23) (N := some 123) (v := ?_) (a' := ?_) #[true, true, true, true, true, true, true, true, true, true, true, true, true, true, true, true, true, true, true, true, true, true, true, true, false, false, false, false, false, false, false, false] rfl rfl (any_of HT_.out (by kernel_rfl)) (fun _ _ _ h => h) (Or.inl ⟨by rfl, ?_⟩) ?_ ?_
                 rotate_left
                 ·intro w'
                  go_simp
                  with_reducible rfl
                 rotate_left
                 ·simp only [Act.put, List.setIfInBounds_toArray, List.set_cons_zero, List.set_cons_succ, i64_w, i32_w]
                  rfl
                 refine take_ (i := 24) (N := some 124) (v := ?_) (a' := ?_) #[true, true, true, true, true, true, true, true, true, true, true, true, true, true, true, true, true, true, true, true, true, true, true, true, true, false, false, false, false, false, false, false] rfl rfl (take_ofW HT_.out HW_.out (by kernel_rfl)) (fun _ _ _ h => h) (Or.inl ⟨by rfl, ?_⟩) hHeld ?_ ?_
                 rotate_left
                 ·rintro w' ⟨s0, s1, s2, s3, s4, s5, s6, s7, s8, s9, s10, s11, s12, s13, s14, s15, s16, s17⟩
                  go_simp
                  with_reducible rfl
                 rotate_left
                 ·simp only [Act.put, List.setIfInBounds_toArray, List.set_cons_zero, List.set_cons_succ, i64_w, i32_w]
                  rfl
                 refine one_ (i := 25) (N := some 125) #[true, true, true, true, true, true, true, true, true, true, true, true, true, true, true, true, true, true, true, true, true, true, true, true, true, true, false, false, false, false, false, false] rfl rfl (one_of HT_.out (by kernel_rfl)) (by decide) (fun K hK => ?_)
                 refine goes_ Try.func29 (by kernel_rfl) rfl #[.agg #[.int .i64 t457, .int .i64 t458, .slice Ao78 t459.length co78], .agg #[.int .i64 ((rd_T29 t434 1).f0), .int .i64 ((rd_T29 t434 1).f1), .slice A468_2 ((rd_T29 t434 1).f2).length c468_2]] (by rfl) rfl rfl (by (try simp only [List.map_toArray, List.map_cons, List.map_nil]); first | done | rfl | (simp only [List.length_drop, List.length_take]; rfl)) ?_
                 with_reducible refine (laws_sameExpr.calls kj55 t457 t458 _ _ t459 ((rd_T29 t434 1).f0) ((rd_T29 t434 1).f1) _ _ ((rd_T29 t434 1).f2) true _ ?side1 ?side2 ?side3 ?side4 A133.out).mono ?_
                 (case side1 => repeat (first | exact (Kd.N_reads' HO_464002.out).2.2 | (with_reducible refine Kd.C_alloc ?_ _) | (with_reducible refine Kd.C_drewN ?_ _) | (with_reducible refine Kd.C_drew ?_)))
                 (case side2 => exact (Kd.N_reads' HO_464002.out).2.1)
                 (case side3 => repeat (first | exact (by repeat (first | (with_reducible exact HR468_2.out) | (with_reducible refine Kd.C_alloc ?_ _) | (with_reducible refine Kd.C_drewN ?_ _) | (with_reducible refine Kd.C_drew ?_) | exact HR468_2.out)) | (with_reducible refine Kd.C_alloc ?_ _) | (with_reducible refine Kd.C_drewN ?_ _) | (with_reducible refine Kd.C_drew ?_)))
                 (case side4 => exact HC468_2.out)
                 rintro e w137 ⟨rfl, hb⟩
                 have HS12_ := (hb.cell (X9 _ _ (hHeld.2.2.2.2.2.2.2.2.2.2.2.2.1))).trans (hHeld.2.2.2.2.2.2.2.2.2.2.2.2.1)
                 have HS13_ := (hb.cell (X9 _ _ (hHeld.2.2.2.2.2.2.2.2.2.2.2.2.2.1))).trans (hHeld.2.2.2.2.2.2.2.2.2.2.2.2.2.1)
                 have HS14_ := (hb.cell (X9 _ _ (hHeld.2.2.2.2.2.2.2.2.2.2.2.2.2.2.1))).trans (hHeld.2.2.2.2.2.2.2.2.2.2.2.2.2.2.1)
                 have HS15_ := (hb.cell (X9 _ _ (hHeld.2.2.2.2.2.2.2.2.2.2.2.2.2.2.2.1))).trans (hHeld.2.2.2.2.2.2.2.2.2.2.2.2.2.2.2.1)
                 have HS16_ := (hb.cell (X9 _ _ (hHeld.2.2.2.2.2.2.2.2.2.2.2.2.2.2.2.2.1))).trans (hHeld.2.2.2.2.2.2.2.2.2.2.2.2.2.2.2.2.1)
                 have HS17_ := (hb.cell (X9 _ _ (hHeld.2.2.2.2.2.2.2.2.2.2.2.2.2.2.2.2.2))).trans (hHeld.2.2.2.2.2.2.2.2.2.2.2.2.2.2.2.2.2)
                 refine ⟨_, rfl, ?_⟩
                 have n0_ := X1 (Kd.N_below (by (with_reducible repeat (first | apply Kd.N_alloc | apply Kd.N_drewN | apply Kd.N_drew)); exact HO_432002.out) hb)
                 have n1_ := X1 (Kd.N_below (by (with_reducible repeat (first | apply Kd.N_alloc | apply Kd.N_drewN | apply Kd.N_drew)); exact HO_439002.out) hb)
                 have n2_ := X1 (Kd.N_below (by (with_reducible repeat (first | apply Kd.N_alloc | apply Kd.N_drewN | apply Kd.N_drew)); exact HO_446002.out) hb)
                 have n3_ := X1 (Kd.N_below (by (with_reducible repeat (first | apply Kd.N_alloc | apply Kd.N_drewN | apply Kd.N_drew)); exact HO_456002.out) hb)
                 have n4_ := X1 (Kd.N_below (by (with_reducible repeat (first | apply Kd.N_alloc | apply Kd.N_drewN | apply Kd.N_drew)); exact HO_464002.out) hb)
                 have n5_ := X1 (Kd.V_below (by (with_reducible repeat (first | apply Kd.V_alloc | apply Kd.V_drewN | apply Kd.V_drew)); exact HL466_2.out) hb)
                 have n6_ := X1 (Kd.V_below (by (with_reducible repeat (first | apply Kd.V_alloc | apply Kd.V_drewN | apply Kd.V_drew)); exact HL468_2.out) hb)
                 have n7_ := X1 (blk_below (g := gb431) (o := .cells #[.int .i64 t426, .int .i64 t427, .slice (some ad448) t428.length co10] 29 (0, 0)) (by (with_reducible repeat (first | refine X7 ?_ _ | refine X8 ?_ | refine X6 ?_ _)); exact BK431.out) hb)
                 have n8_ := X1 (blk_below (g := gb438) (o := .cells #[.int .i64 t432, .int .i64 t433, .slice (some ad466) t434.length co15] 29 (0, 0)) (by (with_reducible repeat (first | refine X7 ?_ _ | refine X8 ?_ | refine X6 ?_ _)); exact BK438.out) hb)
                 have n9_ := X1 (blk_below (g := gb445) (o := .cells #[.int .i64 t439, .int .i64 t440, .slice Ao22 t441.length co22] 29 (0, 0)) (by (with_reducible repeat (first | refine X7 ?_ _ | refine X8 ?_ | refine X6 ?_ _)); exact BK445.out) hb)
                 have n10_ := X1 (blk_below (g := gb455) (o := .cells #[.int .i64 t449, .int .i64 t450, .slice Ao68 t451.length co68] 29 (0, 0)) (by (with_reducible repeat (first | refine X7 ?_ _ | refine X8 ?_ | refine X6 ?_ _)); exact BK455.out) hb)
                 have n11_ := X1 (blk_below (g := gb463) (o := .cells #[.int .i64 t457, .int .i64 t458, .slice Ao78 t459.length co78] 29 (0, 0)) (by (with_reducible repeat (first | refine X7 ?_ _ | refine X8 ?_ | refine X6 ?_ _)); exact BK463.out) hb)
                 have n12_ := X1 (Kd.C_below (by repeat (first | (with_reducible exact HR448_2.out) | (with_reducible refine Kd.C_alloc ?_ _) | (with_reducible refine Kd.C_drewN ?_ _) | (with_reducible refine Kd.C_drew ?_) | exact HR448_2.out)) hb)
                 have n13_ := X1 (Kd.C_below (by repeat (first | (with_reducible exact HR456_2.out) | (with_reducible refine Kd.C_alloc ?_ _) | (with_reducible refine Kd.C_drewN ?_ _) | (with_reducible refine Kd.C_drew ?_) | exact HR456_2.out)) hb)
                 have n14_ := X1 (Kd.C_below (by repeat (first | (with_reducible exact HR466_2.out) | (with_reducible refine Kd.C_alloc ?_ _) | (with_reducible refine Kd.C_drewN ?_ _) | (with_reducible refine Kd.C_drew ?_) | exact HR466_2.out)) hb)
                 have n15_ := X1 (Kd.C_below (by repeat (first | (with_reducible exact HR468_2.out) | (with_reducible refine Kd.C_alloc ?_ _) | (with_reducible refine Kd.C_drewN ?_ _) | (with_reducible refine Kd.C_drew ?_) | exact HR468_2.out)) hb)
                 have n16_ := X1 (below_step (by repeat (first | (with_reducible first | exact HB.out | apply X5 | apply X4 | apply X3 | refine X10 ?_ GE431.out | refine X10 ?_ GE438.out | refine X10 ?_ GE445.out | refine X10 ?_ GE455.out | refine X10 ?_ GE463.out) | exact HB.out)) hb)
                 clear HO_432002
                 clear HO_439002
                 clear HO_446002
                 clear HO_456002
                 clear HO_464002
                 clear HL466_2
                 clear HL468_2
                 clear BK431
                 clear BK438
                 clear BK445
                 clear BK455
                 clear BK463
                 clear HR448_2
                 clear HR456_2
                 clear HR466_2
                 clear HR468_2
                 clear HB
                 have HO_432002 := n0_
                 have HO_439002 := n1_
                 have HO_446002 := n2_
                 have HO_456002 := n3_
                 have HO_464002 := n4_
                 have HL466_2 := n5_
                 have HL468_2 := n6_
                 have BK431 := n7_
                 have BK438 := n8_
                 have BK445 := n9_
                 have BK455 := n10_
                 have BK463 := n11_
                 have HR448_2 := n12_
                 have HR456_2 := n13_
                 have HR466_2 := n14_
                 have HR468_2 := n15_
                 have HB := n16_
                 clear n0_ n1_ n2_ n3_ n4_ n5_ n6_ n7_ n8_ n9_ n10_ n11_ n12_ n13_ n14_ n15_ n16_
                 (try clear hb)
                 (try clear hb2)
                 (try clear hk)
                 (try clear hi)
                 refine hK.out _ _ ⟨(X11 BK438.out 0).trans rfl, (X11 BK438.out 1).trans rfl, (X11 BK438.out 2).trans rfl, (X11 BK431.out 0).trans rfl, (X11 BK431.out 1).trans rfl, (X11 BK431.out 2).trans rfl, (X11 BK455.out 0).trans rfl, (X11 BK455.out 1).trans rfl, (X11 BK455.out 2).trans rfl, (X11 BK463.out 0).trans rfl, (X11 BK463.out 1).trans rfl, (X11 BK463.out 2).trans rfl, HS12_, HS13_, HS14_, HS15_, HS16_, HS17_⟩ (fun hHeld => ?_)
                 clear hK K
                 refine norm_ (a' := ?_) ?_ ?_
                 rotate_left
                 ·show Act.put _ (some 125) _ = _
                  simp only [Act.put, List.setIfInBounds_toArray, List.set_cons_zero, List.set_cons_succ, i64_w, i32_w]
                  rfl
                 refine pure_ (i := 26) (N := some 126) (v := ?_) (a' := ?_) #[true, true, true, true, true, true, true, true, true, true, true, true, true, true, true, true, true, true, true, true, true, true, true, true, true, true, true, false, false, false, false, false] rfl rfl (any_of HT_.out (by kernel_rfl)) (fun _ _ _ h => h) (Or.inl ⟨by rfl, ?_⟩) ?_ ?_
                 rotate_left
                 ·intro w'
                  go_simp
                  with_reducible rfl
                 rotate_left
                 ·simp only [Act.put, List.setIfInBounds_toArray, List.set_cons_zero, List.set_cons_succ, i64_w, i32_w]
                  rfl
                 refine pure_ (i := 27) (N := some 127) (v := ?_) (a' := ?_) #[true, true, true, true, true, true, true, true, true, true, true, true, true, true, true, true, true, true, true, true, true, true, true, true, true, true, true, true, false, false, false, false] rfl rfl (any_of HT_.out (by kernel_rfl)) (fun _ _ _ h => h) (Or.inl ⟨by rfl, ?_⟩) ?_ ?_
                 rotate_left
                 ·intro w'
                  go_simp
                  with_reducible rfl
                 rotate_left
                 ·simp only [Act.put, List.setIfInBounds_toArray, List.set_cons_zero, List.set_cons_succ, i64_w, i32_w]
                  rfl
                 refine pure_ (i := 28) (N := some 128) (v := ?_) (a' := ?_) #[true, true, true, true, true, true, true, true, true, true, true, true, true, true, true, true, true, true, true, true, true, true, true, true, true, true, true, true, true, false, false, false] rfl rfl (any_of HT_.out (by kernel_rfl)) (fun _ _ _ h => h) (Or.inl ⟨by rfl, ?_⟩) ?_ ?_
                 rotate_left
                 ·intro w'
                  go_simp
                  with_reducible rfl
                 rotate_left
                 ·simp only [Act.put, List.setIfInBounds_toArray, List.set_cons_zero, List.set_cons_succ, i64_w, i32_w]
                  rfl
                 refine pure_ (i := 29) (N := some 129) (v := ?_) (a' := ?_) #[true, true, true, true, true, true, true, true, true, true, true, true, true, true, true, true, true, true, true, true, true, true, true, true, true, true, true, true, true, true, false, false] rfl rfl (any_of HT_.out (by kernel_rfl)) (fun _ _ _ h => h) (Or.inl ⟨by rfl, ?_⟩) ?_ ?_
                 rotate_left
                 ·intro w'
                  go_simp
                  with_reducible rfl
                 rotate_left
                 ·simp only [Act.put, List.setIfInBounds_toArray, List.set_cons_zero, List.set_cons_succ, i64_w, i32_w]
                  rfl
                 refine pure_ (i := 30) (N := some 130) (v := ?_) (a' := ?_) #[true, true, true, true, true, true, true, true, true, true, true, true, true, true, true, true, true, true, true, true, true, true, true, true, true, true, true, true, true, true, true, false] rfl rfl (any_of HT_.out (by kernel_rfl)) (fun _ _ _ h => h) (Or.inl ⟨by rfl, ?_⟩) ?_ ?_
                 rotate_left
                 ·intro w'
                  go_simp
                  with_reducible rfl
                 rotate_left
                 ·simp only [Act.put, List.setIfInBounds_toArray, List.set_cons_zero, List.set_cons_succ, i64_w, i32_w]
                  rfl
                 refine pure_ (i := 31) (N := some 2) (v := ?_) (a' := ?_) #[true, true, true, true, true, true, true, true, true, true, true, true, true, true, true, true, true, true, true, true, true, true, true, true, true, true, true, true, true, true, true, true] rfl rfl (any_of HT_.out (by kernel_rfl)) (fun _ _ _ h => h) (Or.inl ⟨by rfl, ?_⟩) ?_ ?_
                 rotate_left
                 ·intro w'
                  go_simp
                  with_reducible rfl
                 rotate_left
                 ·simp only [Act.put, List.setIfInBounds_toArray, List.set_cons_zero, List.set_cons_succ, i64_w, i32_w]
                  rfl
                 refine done_ (done_of HT_.out (by kernel_rfl)) ?_
                 try go_wp2
                 go_ret
                 exact ⟨by first | rfl | (simp [errW_none, errW_some] <;> rfl) | (simp [*, errW_none, errW_some] <;> rfl), by repeat (first | (with_reducible first | exact HB.out | apply X5 | apply X4 | apply X3 | refine X10 ?_ GE431.out | refine X10 ?_ GE438.out | refine X10 ?_ GE445.out | refine X10 ?_ GE455.out | refine X10 ?_ GE463.out) | exact HB.out)⟩
                ·replace c134 := Bool.eq_false_iff.mpr c134
                 subst c134
                 have H1 : (none) = some r := by rw [if_neg (show ¬ (false = true) by decide)] at H; exact H
                 clear H
                 have H := H1
                 clear H1
                 exact absurd H (by simp)
               ·rw [if_neg c132] at H
                exact absurd H (by simp)
              ·replace c131 := Bool.eq_false_iff.mpr c131
               subst c131
               have H1 : (none) = some r := by rw [if_neg (show ¬ (false = true) by decide)] at H; exact H
               clear H
               have H := H1
               clear H1
               exact absurd H (by simp)
             ·rw [if_neg c129] at H
              exact absurd H (by simp)
            ·rw [if_neg c128] at H
             have c128b0 : (t432 == t426) = false := beq_eq_false_iff_ne.mpr c128
             have c128b1 : (t432 != t426) = true := bne_iff_ne.mpr c128
             exact absurd H (by simp)
           ·replace c127 := Bool.eq_false_iff.mpr c127
            subst c127
            have H1 : (none) = some r := by rw [if_neg (show ¬ (false = true) by decide)] at H; exact H
            clear H
            have H := H1
            clear H1
            exact absurd H (by simp)
          ·replace c126 := Bool.eq_false_iff.mpr c126
           subst c126
           have H1 : (none) = some r := by rw [if_neg (show ¬ (false = true) by decide)] at H; exact H
           clear H
           have H := H1
           clear H1
           exact absurd H (by simp)
       ·rw [if_neg c53] at H
        exact absurd H (by simp)
      ·rw [if_neg c51] at H
       exact absurd H (by simp)

/-- THE ONE PURE STATEMENT of laws_FnFoldParts: yours. -/
def laws_FnFoldParts.Pure : Prop := ∀ (l0 : List Int), l0.length ≤ maxLen → l0.length * 1 ≤ 140737488351232 → (∀ x ∈ l0, (Lit.int .u8 x).wf = true) → ∃ k, laws_FnFoldParts.f k l0 = some true
theorem laws_FnFoldParts.walk (P : laws_FnFoldParts.Pure) (a0 : Option Addr) (len0 cap0 : Nat) (z0 : List Int) (w : World) (w0 : (a0 = none ∧ len0 = 0 ∧ cap0 = 0 ∧ z0 = []) ∨ ∃ x, a0 = some x ∧ len0 ≤ cap0 ∧ cap0 ≤ maxLen ∧ z0.length = cap0 ∧ (∀ i, i < z0.length → w.cell? (x.add i) = some (.int .u8 (z0.getD i 0))) ∧ ∀ n ∈ z0, (Lit.int .u8 n).wf = true) (y0 : len0 * 1 ≤ 140737488351232) :
  Calls Try.prog 10 #[.slice a0 len0 cap0] w fun e w' => e = .returned (.bool true) ∧ Below w.heap.size w w' := by
 obtain ⟨l0, rfl, hr0, hm0, hw0, hc0⟩ := ReadsInt.ofRowC w0
 obtain ⟨k, h⟩ := P l0 hm0 y0 hw0
 refine (laws_FnFoldParts.calls k _ _ l0 true w (Kd.C_of_reads (d := (0 : Int)) (h1 := fun _ => rfl) hr0) hc0 h).mono ?_
 rintro e w' ⟨rfl, hd⟩
 exact ⟨rfl, hd⟩

end Go.Proofs.Ytjohbglkocgdjaa.Q
