/- Written for this claim by the kit's print program, over contracts that are this seat's own (): not the print's own text. -/
import Derived.Test.YtjohbglkocgdjaaZQx0
import Derived.Test.YtjohbglkocgdjaaZQx9a
namespace Go.Proofs.Ytjohbglkocgdjaa.Q
open Go.RowKit Go.Proofs.YtjohbglkocgdjaaW.PrintWords Go.Proofs.YtjohbglkocgdjaaW.PrintLast Go.Proofs.YtjohbglkocgdjaaW.PrintMore
attribute [local go_sem] max2_int min2_int max_two min_two max_three min_three max_four min_four   -- for this text's walks alone
set_option linter.unusedVariables false
set_option linter.unusedSimpArgs false

/-! ### impl_exprFold: function 49 -/
set_option maxHeartbeats 8000000 in
set_option maxRecDepth 100000 in
theorem impl_exprFold.calls (k : Nat) : ∀ (a0_0 : Int) (a0_1 : Int) (A0_2 : Option Addr) (c0_2 : Nat) (l0_2 : List (S29)) (r1 : Int) (r2 : Int) (r3 : List (S29)) (w : World) (hr0_2 : Kd.C k29 w A0_2 l0_2.length l0_2) (hc0_2 : l0_2.length ≤ c0_2) (h : impl_exprFold.f k a0_0 a0_1 l0_2 = some (r1, r2, r3)),
  Calls Try.prog 49 #[.agg #[.int .i64 a0_0, .int .i64 a0_1, .slice A0_2 l0_2.length c0_2]] w fun e w' => ∃ v2_ : Value, e = .returned (.agg #[.int .i64 r1, .int .i64 r2, v2_]) ∧ Kd.N k29 29 w' w.heap.size (fun k_ => (w.heap.size ≤ k_)) v2_ r3 ∧ Below w.heap.size w w' := by
 induction k using Nat.strongRecOn with
 | _ k ih =>
 intro a0_0 a0_1 A0_2 c0_2 l0_2 r1 r2 r3 w hr0_2 hc0_2 h
 cases k with
 | zero => exact absurd h (by simp [impl_exprFold.f])
 | succ k =>
 simp only [impl_exprFold.f] at h
 have hu29 := Try.underlying29
 have HR0_2 := X1 hr0_2
 have HC0_2 := X1 hc0_2
 clear hr0_2 hc0_2
 have HB := X1 (Below.refl w.heap.size w)
 have H : (if (l0_2.length : Int) = 0 then (some (a0_0, a0_1, ([] : List (S29)))) else (if 0 < (l0_2.length : Int) then ((impl_exprFold.f k ((rd_T29 l0_2 0).f0) ((rd_T29 l0_2 0).f1) ((rd_T29 l0_2 0).f2)).bind fun bt440 => (if 1 < (l0_2.length : Int) then ((impl_exprFold.f k ((rd_T29 l0_2 1).f0) ((rd_T29 l0_2 1).f1) ((rd_T29 l0_2 1).f2)).bind fun bt446 => (if bt440.1 = 0 then (impl_exprFold.j0 k (bt446.1 == 0) a0_0 a0_1 l0_2 bt440.1 bt440.2.1 bt440.2.2 bt446.1 bt446.2.1 bt446.2.2) else (impl_exprFold.j0 k false a0_0 a0_1 l0_2 bt440.1 bt440.2.1 bt440.2.2 bt446.1 bt446.2.1 bt446.2.2))) else (none))) else (none))) = some (r1, r2, r3) := h
 clear h
 by_cases c2 : (l0_2.length : Int) = 0
 ·rw [if_pos c2] at H
  have c2b0 : ((l0_2.length : Int) == 0) = true := beq_iff_eq.mpr c2
  have c2b1 : ((l0_2.length : Int) != 0) = false := bne_eq_false_iff_eq.mpr c2
  clear c2
  simp only [Option.some.injEq, Prod.mk.injEq] at H
  obtain ⟨rfl, rfl, rfl⟩ := H
  go_enter Try.func49, Try.ntmps49
  go_wp2_with (first | ((with_reducible refine gate_dst (N := 1) rfl ?_); refine box_event ?hg (N := 1) ?hd (cs := #[.int .i64 a0_0, .int .i64 a0_1, .slice A0_2 l0_2.length c0_2]) (t := 29) ?hr ?_; (case hd => rfl); (case hg => rfl); (case hr => first | (go_simp; done) | (go_simp; rfl)); intro gb437 hg w3 hbox hb; have n0_ := X1 (below_step (by repeat (first | (with_reducible first | exact HB.out | apply X5 | apply X4 | apply X3) | exact HB.out)) hb); have n1_ := X1 (hbox); have n2_ := X1 ((by rw [hg]; exact (below_size (by repeat (first | (with_reducible first | exact HB.out | apply X5 | apply X4 | apply X3) | exact HB.out))) : w.heap.size ≤ gb437)); have n3_ := X1 ((by rw [hg]; exact (below_size (by repeat (first | (with_reducible first | exact HB.out | apply X5 | apply X4 | apply X3) | exact HB.out))) : w.heap.size ≤ gb437)); clear HB; have HB := n0_; have BK437 := n1_; have GW437 := n2_; have GE437 := n3_; clear n0_ n1_ n2_ n3_; clear hb hbox hg) | ((with_reducible refine gate_dst (N := 2) rfl ?_); refine box_event ?hg (N := 2) ?hd (cs := #[.int .i64 0, .int .i64 0, .slice none 0 0]) (t := 29) ?hr ?_; (case hd => rfl); (case hg => rfl); (case hr => first | (go_simp; done) | (go_simp; rfl)); intro gb438 hg w4 hbox hb; have n0_ := X1 (blk_below (g := gb437) (o := .cells #[.int .i64 a0_0, .int .i64 a0_1, .slice A0_2 l0_2.length c0_2] 29 (0, 0)) (by (with_reducible repeat (first | refine X7 ?_ _ | refine X8 ?_ | refine X6 ?_ _)); exact BK437.out) hb); have n1_ := X1 (below_step (by repeat (first | (with_reducible first | exact HB.out | apply X5 | apply X4 | apply X3 | refine X10 ?_ GE437.out) | exact HB.out)) hb); have n2_ := X1 (hbox); have n3_ := X1 ((by rw [hg]; exact (below_size (by repeat (first | (with_reducible first | exact HB.out | apply X5 | apply X4 | apply X3 | refine X10 ?_ GE437.out) | exact HB.out))) : w.heap.size ≤ gb438)); have n4_ := X1 ((by rw [hg]; exact (below_size (by repeat (first | (with_reducible first | exact HB.out | apply X5 | apply X4 | apply X3 | refine X10 ?_ GE437.out) | exact HB.out))) : w.heap.size ≤ gb438)); have n5_ := X1 ((by rw [hg]; exact Nat.ne_of_lt (blk_lt (g := gb437) (o := .cells #[.int .i64 a0_0, .int .i64 a0_1, .slice A0_2 l0_2.length c0_2] 29 (0, 0)) (by (with_reducible repeat (first | refine X7 ?_ _ | refine X8 ?_ | refine X6 ?_ _)); exact BK437.out)) : gb437 ≠ gb438)); have n6_ := X1 ((by rw [hg]; exact Nat.ne_of_gt (blk_lt (g := gb437) (o := .cells #[.int .i64 a0_0, .int .i64 a0_1, .slice A0_2 l0_2.length c0_2] 29 (0, 0)) (by (with_reducible repeat (first | refine X7 ?_ _ | refine X8 ?_ | refine X6 ?_ _)); exact BK437.out)) : gb438 ≠ gb437)); clear BK437; clear HB; have BK437 := n0_; have HB := n1_; have BK438 := n2_; have GW438 := n3_; have GE438 := n4_; have NB437_438 := n5_; have NB438_437 := n6_; clear n0_ n1_ n2_ n3_ n4_ n5_ n6_; clear hb hbox hg; have hnb5 := NB437_438.out; have hnc5 := NB438_437.out; have hcz6_0 : w4.cell? ⟨gb437, 0, none⟩ = some (.int .i64 a0_0) := (X11 BK437.out 0).trans rfl; have hcz6_1 : w4.cell? ⟨gb437, 1, none⟩ = some (.int .i64 a0_1) := (X11 BK437.out 1).trans rfl; have hcz6_2 : w4.cell? ⟨gb437, 2, none⟩ = some (.slice A0_2 l0_2.length c0_2) := (X11 BK437.out 2).trans rfl; have hfz6_0 := X12 BK437.out 0; have hfz6_1 := X12 BK437.out 1; have hfz6_2 := X12 BK437.out 2; have hcz7_0 : w4.cell? ⟨gb438, 0, none⟩ = some (.int .i64 0) := (X11 BK438.out 0).trans rfl; have hcz7_1 : w4.cell? ⟨gb438, 1, none⟩ = some (.int .i64 0) := (X11 BK438.out 1).trans rfl; have hcz7_2 : w4.cell? ⟨gb438, 2, none⟩ = some (.slice none 0 0) := (X11 BK438.out 2).trans rfl; have hfz7_0 := X12 BK438.out 0; have hfz7_1 := X12 BK438.out 1; have hfz7_2 := X12 BK438.out 2))
  refine bodyPost_ret (results_cell_row rfl _ _ gb438 29 #[.int .i64 a0_0, .int .i64 a0_1, .slice none 0 0] (0, 0) _ rfl (by (with_reducible repeat (first | refine X7 ?_ _ | refine X8 ?_ | refine X6 ?_ _)); refine blk_put (cs := #[.int .i64 a0_0, .int .i64 a0_1, .slice none 0 0]) ?_ 2 _ rfl; (with_reducible repeat (first | refine X7 ?_ _ | refine X8 ?_ | refine X6 ?_ _)); refine blk_put (cs := #[.int .i64 a0_0, .int .i64 0, .slice none 0 0]) ?_ 1 _ rfl; (with_reducible repeat (first | refine X7 ?_ _ | refine X8 ?_ | refine X6 ?_ _)); refine blk_put (cs := #[.int .i64 0, .int .i64 0, .slice none 0 0]) ?_ 0 _ rfl; (with_reducible repeat (first | refine X7 ?_ _ | refine X8 ?_ | refine X6 ?_ _)); exact BK438.out) Try.underlying29 rfl (by kernel_rfl)) rfl ?_
  exact ⟨_, by first | rfl | (simp [errW_none, errW_some] <;> rfl) | (simp [*, errW_none, errW_some] <;> rfl), by first | exact Kd.R_nil _ _ _ _ _ | exact Kd.N_nil _ _ _ _ _ | exact Kd.V_nil _ _ _ _ _ | exact Kd.Q_nil _ _ _ _ _ | exact Kd.S_nil _ _ _ _ _, by repeat (first | (with_reducible first | exact HB.out | apply X5 | apply X4 | apply X3 | refine X10 ?_ GE437.out | refine X10 ?_ GE438.out) | exact HB.out)⟩
 ·rw [if_neg c2] at H
  have c2b0 : ((l0_2.length : Int) == 0) = false := beq_eq_false_iff_ne.mpr c2
  have c2b1 : ((l0_2.length : Int) != 0) = true := bne_iff_ne.mpr c2
  have c2b2 : ¬ (l0_2 = []) := fun h_ => c2 (by rw [h_]; rfl)
  by_cases c8 : 0 < (l0_2.length : Int)
  ·rw [if_pos c8] at H
   have c8b0 : decide (0 < (l0_2.length : Int)) = true := decide_eq_true c8
   have c8b1 : decide (0 < l0_2.length) = true := decide_eq_true (by omega)
   clear c8
   replace H := X2 H
   obtain ⟨⟨t440, t441, t442⟩, A90, H⟩ := H
   replace H : (if 1 < (l0_2.length : Int) then ((impl_exprFold.f k ((rd_T29 l0_2 1).f0) ((rd_T29 l0_2 1).f1) ((rd_T29 l0_2 1).f2)).bind fun bt446 => (if t440 = 0 then (impl_exprFold.j0 k (bt446.1 == 0) a0_0 a0_1 l0_2 t440 t441 t442 bt446.1 bt446.2.1 bt446.2.2) else (impl_exprFold.j0 k false a0_0 a0_1 l0_2 t440 t441 t442 bt446.1 bt446.2.1 bt446.2.2))) else (none)) = some (r1, r2, r3) := H
   have A9 := X1 A90
   clear A90
   by_cases c10 : 1 < (l0_2.length : Int)
   ·rw [if_pos c10] at H
    have c10b0 : decide (1 < (l0_2.length : Int)) = true := decide_eq_true c10
    have c10b1 : decide (1 < l0_2.length) = true := decide_eq_true (by omega)
    clear c10
    replace H := X2 H
    obtain ⟨⟨t446, t447, t448⟩, A110, H⟩ := H
    replace H : (if t440 = 0 then (impl_exprFold.j0 k (t446 == 0) a0_0 a0_1 l0_2 t440 t441 t442 t446 t447 t448) else (impl_exprFold.j0 k false a0_0 a0_1 l0_2 t440 t441 t442 t446 t447 t448)) = some (r1, r2, r3) := H
    have A11 := X1 A110
    clear A110
    have HC12 := X1 H
    clear H
    go_enter Try.func49, Try.ntmps49
    try go_wp2_with (first | ((with_reducible refine gate_dst (N := 1) rfl ?_); refine box_event ?hg (N := 1) ?hd (cs := #[.int .i64 a0_0, .int .i64 a0_1, .slice A0_2 l0_2.length c0_2]) (t := 29) ?hr ?_; (case hd => rfl); (case hg => rfl); (case hr => first | (go_simp; done) | (go_simp; rfl)); intro gb437 hg w13 hbox hb; have n0_ := X1 (below_step (by repeat (first | (with_reducible first | exact HB.out | apply X5 | apply X4 | apply X3) | exact HB.out)) hb); have n1_ := X1 (hbox); have n2_ := X1 ((by rw [hg]; exact (below_size (by repeat (first | (with_reducible first | exact HB.out | apply X5 | apply X4 | apply X3) | exact HB.out))) : w.heap.size ≤ gb437)); have n3_ := X1 ((by rw [hg]; exact (below_size (by repeat (first | (with_reducible first | exact HB.out | apply X5 | apply X4 | apply X3) | exact HB.out))) : w.heap.size ≤ gb437)); clear HB; have HB := n0_; have BK437 := n1_; have GW437 := n2_; have GE437 := n3_; clear n0_ n1_ n2_ n3_; clear hb hbox hg) | ((with_reducible refine gate_dst (N := 2) rfl ?_); refine box_event ?hg (N := 2) ?hd (cs := #[.int .i64 0, .int .i64 0, .slice none 0 0]) (t := 29) ?hr ?_; (case hd => rfl); (case hg => rfl); (case hr => first | (go_simp; done) | (go_simp; rfl)); intro gb438 hg w14 hbox hb; have n0_ := X1 (blk_below (g := gb437) (o := .cells #[.int .i64 a0_0, .int .i64 a0_1, .slice A0_2 l0_2.length c0_2] 29 (0, 0)) (by (with_reducible repeat (first | refine X7 ?_ _ | refine X8 ?_ | refine X6 ?_ _)); exact BK437.out) hb); have n1_ := X1 (below_step (by repeat (first | (with_reducible first | exact HB.out | apply X5 | apply X4 | apply X3 | refine X10 ?_ GE437.out) | exact HB.out)) hb); have n2_ := X1 (hbox); have n3_ := X1 ((by rw [hg]; exact (below_size (by repeat (first | (with_reducible first | exact HB.out | apply X5 | apply X4 | apply X3 | refine X10 ?_ GE437.out) | exact HB.out))) : w.heap.size ≤ gb438)); have n4_ := X1 ((by rw [hg]; exact (below_size (by repeat (first | (with_reducible first | exact HB.out | apply X5 | apply X4 | apply X3 | refine X10 ?_ GE437.out) | exact HB.out))) : w.heap.size ≤ gb438)); have n5_ := X1 ((by rw [hg]; exact Nat.ne_of_lt (blk_lt (g := gb437) (o := .cells #[.int .i64 a0_0, .int .i64 a0_1, .slice A0_2 l0_2.length c0_2] 29 (0, 0)) (by (with_reducible repeat (first | refine X7 ?_ _ | refine X8 ?_ | refine X6 ?_ _)); exact BK437.out)) : gb437 ≠ gb438)); have n6_ := X1 ((by rw [hg]; exact Nat.ne_of_gt (blk_lt (g := gb437) (o := .cells #[.int .i64 a0_0, .int .i64 a0_1, .slice A0_2 l0_2.length c0_2] 29 (0, 0)) (by (with_reducible repeat (first | refine X7 ?_ _ | refine X8 ?_ | refine X6 ?_ _)); exact BK437.out)) : gb438 ≠ gb437)); clear BK437; clear HB; have BK437 := n0_; have HB := n1_; have BK438 := n2_; have GW438 := n3_; have GE438 := n4_; have NB437_438 := n5_; have NB438_437 := n6_; clear n0_ n1_ n2_ n3_ n4_ n5_ n6_; clear hb hbox hg; have hnb15 := NB437_438.out; have hnc15 := NB438_437.out; have hcz16_0 : w14.cell? ⟨gb437, 0, none⟩ = some (.int .i64 a0_0) := (X11 BK437.out 0).trans rfl; have hcz16_1 : w14.cell? ⟨gb437, 1, none⟩ = some (.int .i64 a0_1) := (X11 BK437.out 1).trans rfl; have hcz16_2 : w14.cell? ⟨gb437, 2, none⟩ = some (.slice A0_2 l0_2.length c0_2) := (X11 BK437.out 2).trans rfl; have hfz16_0 := X12 BK437.out 0; have hfz16_1 := X12 BK437.out 1; have hfz16_2 := X12 BK437.out 2))
    have n0_ := X1 (X8 BK437.out)
    have n1_ := X1 (X8 BK438.out)
    have n2_ := X1 (X3 HB.out)
    clear BK437
    clear BK438
    clear HB
    have BK437 := n0_
    have BK438 := n1_
    have HB := n2_
    clear n0_ n1_ n2_
    have p439 : 0 ≤ (0 : Int) := (by omega)
    have q439 : 0 < (l0_2.length : Int) := of_decide_eq_true (by first | (with_reducible assumption) | assumption)
    obtain ⟨ad439, A439_2, c439_2, e439, hx439_0, hx439_1, hx439_2, hl439_2, hi439_2⟩ := at_T29 HR0_2.out 0 p439 q439
    have hw439_2 := hx439_2
    (try rw [show ((0 : Int)).toNat = 0 from rfl] at hw439_2)
    (try rw [show 0 * 3 = 0 from rfl] at hw439_2)
    (try rw [Addr.add_zero'] at hw439_2)
    have hw439_1 := hx439_1
    (try rw [show ((0 : Int)).toNat = 0 from rfl] at hw439_1)
    (try rw [show 0 * 3 = 0 from rfl] at hw439_1)
    (try rw [Addr.add_zero'] at hw439_1)
    have hw439_0 := hx439_0
    (try rw [show ((0 : Int)).toNat = 0 from rfl] at hw439_0)
    (try rw [show 0 * 3 = 0 from rfl] at hw439_0)
    (try rw [Addr.add_zero'] at hw439_0)
    cases e439
    have qi439 : (0 < l0_2.length) = True := eq_true (by omega)
    (try rw [show ((0 : Int)).toNat = 0 from rfl] at hx439_0)
    (try rw [show 0 * 3 = 0 from rfl] at hx439_0)
    (try rw [Addr.add_zero'] at hx439_0)
    (try rw [show ((0 : Int)).toNat = 0 from rfl] at hx439_1)
    (try rw [show 0 * 3 = 0 from rfl] at hx439_1)
    (try rw [Addr.add_zero'] at hx439_1)
    (try rw [show ((0 : Int)).toNat = 0 from rfl] at hx439_2)
    (try rw [show 0 * 3 = 0 from rfl] at hx439_2)
    (try rw [Addr.add_zero'] at hx439_2)
    replace hx439_0 := (HB.out.cell (X9 w _ hx439_0)).trans hx439_0
    replace hx439_1 := (HB.out.cell (X9 w _ hx439_1)).trans hx439_1
    replace hx439_2 := (HB.out.cell (X9 w _ hx439_2)).trans hx439_2
    have HR439_2 := X1 hi439_2
    have HC439_2 := X1 hl439_2
    clear hi439_2 hl439_2
    replace p439 := eq_true p439
    replace q439 := eq_true q439
    have p445 : 0 ≤ (1 : Int) := (by omega)
    have q445 : 1 < (l0_2.length : Int) := of_decide_eq_true (by first | (with_reducible assumption) | assumption)
    obtain ⟨ad445, A445_2, c445_2, e445, hx445_0, hx445_1, hx445_2, hl445_2, hi445_2⟩ := at_T29 HR0_2.out 1 p445 q445
    have hw445_2 := hx445_2
    (try rw [show ((1 : Int)).toNat = 1 from rfl] at hw445_2)
    (try rw [show 1 * 3 = 3 from rfl] at hw445_2)
    (try simp only [Nat.reduceMul, Nat.reduceEqDiff, Go.Addr.add, ↓reduceIte] at hw445_2)
    have hw445_1 := hx445_1
    (try rw [show ((1 : Int)).toNat = 1 from rfl] at hw445_1)
    (try rw [show 1 * 3 = 3 from rfl] at hw445_1)
    (try simp only [Nat.reduceMul, Nat.reduceEqDiff, Go.Addr.add, ↓reduceIte] at hw445_1)
    have hw445_0 := hx445_0
    (try rw [show ((1 : Int)).toNat = 1 from rfl] at hw445_0)
    (try rw [show 1 * 3 = 3 from rfl] at hw445_0)
    (try simp only [Nat.reduceMul, Nat.reduceEqDiff, Go.Addr.add, ↓reduceIte] at hw445_0)
    obtain rfl : ad439 = ad445 := (by injection e445)
    (try simp only [show (1 : Int).toNat = 1 from rfl, Nat.reduceMul, Nat.reduceEqDiff, Go.Addr.add, ↓reduceIte] at hx445_0)
    (try simp only [show (1 : Int).toNat = 1 from rfl, Nat.reduceMul, Nat.reduceEqDiff, Go.Addr.add, ↓reduceIte] at hx445_1)
    (try simp only [show (1 : Int).toNat = 1 from rfl, Nat.reduceMul, Nat.reduceEqDiff, Go.Addr.add, ↓reduceIte] at hx445_2)
    have qi445 : (1 < l0_2.length) = True := eq_true (by omega)
    (try rw [show ((1 : Int)).toNat = 1 from rfl] at hx445_0)
    (try rw [show 1 * 3 = 3 from rfl] at hx445_0)
    (try rw [show ((1 : Int)).toNat = 1 from rfl] at hx445_1)
    (try rw [show 1 * 3 = 3 from rfl] at hx445_1)
    (try rw [show ((1 : Int)).toNat = 1 from rfl] at hx445_2)
    (try rw [show 1 * 3 = 3 from rfl] at hx445_2)
    replace hx445_0 := (HB.out.cell (X9 w _ hx445_0)).trans hx445_0
    replace hx445_1 := (HB.out.cell (X9 w _ hx445_1)).trans hx445_1
    replace hx445_2 := (HB.out.cell (X9 w _ hx445_2)).trans hx445_2
    have HR445_2 := X1 hi445_2
    have HC445_2 := X1 hl445_2
    clear hi445_2 hl445_2
    replace p445 := eq_true p445
    replace q445 := eq_true q445
    refine start_ (n := 14) (S := fun w' => w'.cell? ⟨gb437, 0, none⟩ = some (.int .i64 a0_0) ∧ w'.cell? ⟨gb437, 1, none⟩ = some (.int .i64 a0_1) ∧ w'.cell? ⟨gb437, 2, none⟩ = some (.slice (some ad439) l0_2.length c0_2) ∧ w'.cell? ad439 = some (.int .i64 ((rd_T29 l0_2 0).f0)) ∧ w'.cell? ⟨ad439.block, ad439.off + 1, none⟩ = some (.int .i64 ((rd_T29 l0_2 0).f1)) ∧ w'.cell? ⟨ad439.block, ad439.off + 2, none⟩ = some (.slice A439_2 ((rd_T29 l0_2 0).f2).length c439_2) ∧ w'.cell? ⟨ad439.block, ad439.off + 3, none⟩ = some (.int .i64 ((rd_T29 l0_2 1).f0)) ∧ w'.cell? ⟨ad439.block, ad439.off + 3 + 1, none⟩ = some (.int .i64 ((rd_T29 l0_2 1).f1)) ∧ w'.cell? ⟨ad439.block, ad439.off + 3 + 2, none⟩ = some (.slice A445_2 ((rd_T29 l0_2 1).f2).length c445_2)) (ds := []) #[false, false, false, false, false, false, false, false, false, false, false, false, false, false] (by kernel_rfl) rfl rfl ⟨(X11 BK437.out 0).trans rfl, (X11 BK437.out 1).trans rfl, (X11 BK437.out 2).trans rfl, ((HB.out.cell (X9 w _ hw439_0)).trans hw439_0), ((HB.out.cell (X9 w _ hw439_1)).trans hw439_1), ((HB.out.cell (X9 w _ hw439_2)).trans hw439_2), ((HB.out.cell (X9 w _ hw445_0)).trans hw445_0), ((HB.out.cell (X9 w _ hw445_1)).trans hw445_1), ((HB.out.cell (X9 w _ hw445_2)).trans hw445_2)⟩ (fun hHeld => ?_); refine with_tabW impl_exprFold.tab3 impl_exprFold.bits3 (fun HT_ HW_ => ?_)
    generalize w14.drew = w17 at BK437 BK438 HB HR439_2 HR445_2 hx439_0 hx439_1 hx439_2 hx445_0 hx445_1 hx445_2 hHeld ⊢
    refine pure_ (i := 0) (N := some 15) (v := ?_) (a' := ?_) #[true, false, false, false, false, false, false, false, false, false, false, false, false, false] rfl rfl (any_of HT_.out (by kernel_rfl)) (fun _ _ _ h => h) (Or.inl ⟨by rfl, ?_⟩) ?_ ?_
    rotate_left
    ·intro w'
     go_simp
     with_reducible rfl
    rotate_left
    ·simp only [Act.put, List.setIfInBounds_toArray, List.set_cons_zero, List.set_cons_succ, i64_w, i32_w]
     rfl
    refine pure_ (i := 5) (N := some 20) (v := ?_) (a' := ?_) #[true, false, false, false, false, true, false, false, false, false, false, false, false, false] rfl rfl (any_of HT_.out (by kernel_rfl)) (fun _ _ _ h => h) (Or.inl ⟨by rfl, ?_⟩) ?_ ?_
    rotate_left
    ·intro w'
     go_simp
     with_reducible rfl
    rotate_left
    ·simp only [Act.put, List.setIfInBounds_toArray, List.set_cons_zero, List.set_cons_succ, i64_w, i32_w]
     rfl
    refine take_ (i := 1) (N := some 16) (v := ?_) (a' := ?_) #[true, true, false, false, false, true, false, false, false, false, false, false, false, false] rfl rfl (take_ofW HT_.out HW_.out (by kernel_rfl)) (fun _ _ _ h => h) (Or.inl ⟨by rfl, ?_⟩) hHeld ?_ ?_
    rotate_left
    ·rintro w' ⟨s0, s1, s2, s3, s4, s5, s6, s7, s8⟩
     go_simp
     with_reducible rfl
    rotate_left
    ·simp only [Act.put, List.setIfInBounds_toArray, List.set_cons_zero, List.set_cons_succ, i64_w, i32_w]
     rfl
    refine pure_ (i := 2) (N := some 17) (v := ?_) (a' := ?_) #[true, true, true, false, false, true, false, false, false, false, false, false, false, false] rfl rfl (any_of HT_.out (by kernel_rfl)) (fun _ _ _ h => h) (Or.inl ⟨by rfl, ?_⟩) ?_ ?_
    rotate_left
    ·intro w'
     go_simp
     with_reducible rfl
    rotate_left
    ·simp only [Act.put, List.setIfInBounds_toArray, List.set_cons_zero, List.set_cons_succ, i64_w, i32_w]
     rfl
    refine take_ (i := 3) (N := some 18) (v := ?_) (a' := ?_) #[true, true, true, true, false, true, false, false, false, false, false, false, false, false] rfl rfl (take_ofW HT_.out HW_.out (by kernel_rfl)) (fun _ _ _ h => h) (Or.inl ⟨by rfl, ?_⟩) hHeld ?_ ?_
    rotate_left
    ·rintro w' ⟨s0, s1, s2, s3, s4, s5, s6, s7, s8⟩
     go_simp
     with_reducible rfl
    rotate_left
    ·simp only [Act.put, List.setIfInBounds_toArray, List.set_cons_zero, List.set_cons_succ, i64_w, i32_w]
     rfl
    refine take_ (i := 6) (N := some 21) (v := ?_) (a' := ?_) #[true, true, true, true, false, true, true, false, false, false, false, false, false, false] rfl rfl (take_ofW HT_.out HW_.out (by kernel_rfl)) (fun _ _ _ h => h) (Or.inl ⟨by rfl, ?_⟩) hHeld ?_ ?_
    rotate_left
    ·rintro w' ⟨s0, s1, s2, s3, s4, s5, s6, s7, s8⟩
     go_simp
     with_reducible rfl
    rotate_left
    ·simp only [Act.put, List.setIfInBounds_toArray, List.set_cons_zero, List.set_cons_succ, i64_w, i32_w]
     rfl
    refine pure_ (i := 7) (N := some 22) (v := ?_) (a' := ?_) #[true, true, true, true, false, true, true, true, false, false, false, false, false, false] rfl rfl (any_of HT_.out (by kernel_rfl)) (fun _ _ _ h => h) (Or.inl ⟨by rfl, ?_⟩) ?_ ?_
    rotate_left
    ·intro w'
     go_simp
     with_reducible rfl
    rotate_left
    ·simp only [Act.put, List.setIfInBounds_toArray, List.set_cons_zero, List.set_cons_succ, i64_w, i32_w]
     rfl
    refine take_ (i := 8) (N := some 23) (v := ?_) (a' := ?_) #[true, true, true, true, false, true, true, true, true, false, false, false, false, false] rfl rfl (take_ofW HT_.out HW_.out (by kernel_rfl)) (fun _ _ _ h => h) (Or.inl ⟨by rfl, ?_⟩) hHeld ?_ ?_
    rotate_left
    ·rintro w' ⟨s0, s1, s2, s3, s4, s5, s6, s7, s8⟩
     go_simp
     with_reducible rfl
    rotate_left
    ·simp only [Act.put, List.setIfInBounds_toArray, List.set_cons_zero, List.set_cons_succ, i64_w, i32_w]
     rfl
    refine join_ (σ := Value × Value × Nat × Nat) 2 #[true, true, true, true, true, true, true, true, true, true, true, true, false, false] (fun s_ => [(19, .agg #[.int .i64 t440, .int .i64 t441, s_.1]), (24, .agg #[.int .i64 t446, .int .i64 t447, s_.2.1]), (3, .pointer (some ⟨s_.2.2.1, 0, none⟩)), (4, .pointer (some ⟨s_.2.2.2, 0, none⟩))]) (fun s_ w' => (w'.cell? ⟨gb437, 0, none⟩ = some (.int .i64 a0_0) ∧ w'.cell? ⟨gb437, 1, none⟩ = some (.int .i64 a0_1) ∧ w'.cell? ⟨gb437, 2, none⟩ = some (.slice (some ad439) l0_2.length c0_2) ∧ w'.cell? ad439 = some (.int .i64 ((rd_T29 l0_2 0).f0)) ∧ w'.cell? ⟨ad439.block, ad439.off + 1, none⟩ = some (.int .i64 ((rd_T29 l0_2 0).f1)) ∧ w'.cell? ⟨ad439.block, ad439.off + 2, none⟩ = some (.slice A439_2 ((rd_T29 l0_2 0).f2).length c439_2) ∧ w'.cell? ⟨ad439.block, ad439.off + 3, none⟩ = some (.int .i64 ((rd_T29 l0_2 1).f0)) ∧ w'.cell? ⟨ad439.block, ad439.off + 3 + 1, none⟩ = some (.int .i64 ((rd_T29 l0_2 1).f1)) ∧ w'.cell? ⟨ad439.block, ad439.off + 3 + 2, none⟩ = some (.slice A445_2 ((rd_T29 l0_2 1).f2).length c445_2)) ∧ (Kd.N k29 29 w' w.heap.size (fun k_ => (w.heap.size ≤ k_) ∧ some k_ ≠ (s_.2.1 : Value).ownBlock ∧ k_ ≠ gb437 ∧ k_ ≠ gb438 ∧ k_ ≠ s_.2.2.1 ∧ k_ ≠ s_.2.2.2) s_.1 t442) ∧ (Kd.N k29 29 w' w.heap.size (fun k_ => (w.heap.size ≤ k_) ∧ some k_ ≠ (s_.1 : Value).ownBlock ∧ k_ ≠ gb437 ∧ k_ ≠ gb438 ∧ k_ ≠ s_.2.2.1 ∧ k_ ≠ s_.2.2.2) s_.2.1 t448) ∧ (w'.heap[gb437]? = some (.cells #[.int .i64 a0_0, .int .i64 a0_1, .slice (some ad439) l0_2.length c0_2] 29 (0, 0))) ∧ (w'.heap[gb438]? = some (.cells #[.int .i64 0, .int .i64 0, .slice none 0 0] 29 (0, 0))) ∧ (w'.heap[s_.2.2.1]? = some (.cells #[.int .i64 0, .int .i64 0, .slice none 0 0] 29 (0, 0))) ∧ (w'.heap[s_.2.2.2]? = some (.cells #[.int .i64 0, .int .i64 0, .slice none 0 0] 29 (0, 0))) ∧ (w.heap.size ≤ s_.2.2.1) ∧ (w.heap.size ≤ s_.2.2.1) ∧ (gb437 ≠ s_.2.2.1) ∧ (s_.2.2.1 ≠ gb437) ∧ (gb438 ≠ s_.2.2.1) ∧ (s_.2.2.1 ≠ gb438) ∧ (s_.2.2.2 ≠ s_.2.2.1) ∧ (s_.2.2.1 ≠ s_.2.2.2) ∧ (w.heap.size ≤ s_.2.2.2) ∧ (w.heap.size ≤ s_.2.2.2) ∧ (gb437 ≠ s_.2.2.2) ∧ (s_.2.2.2 ≠ gb437) ∧ (gb438 ≠ s_.2.2.2) ∧ (s_.2.2.2 ≠ gb438) ∧ (Below w.heap.size w w')) ?_ ?_
    rotate_left
    ·intro hJ4_9_10_11
     refine join_ (σ := Value × Value × Nat) 3 #[true, true, true, true, true, true, true, true, true, true, true, false, false, false] (fun s_ => [(19, .agg #[.int .i64 t440, .int .i64 t441, s_.1]), (24, .agg #[.int .i64 t446, .int .i64 t447, s_.2.1]), (3, .pointer (some ⟨s_.2.2, 0, none⟩))]) (fun s_ w' => (w'.cell? ⟨gb437, 0, none⟩ = some (.int .i64 a0_0) ∧ w'.cell? ⟨gb437, 1, none⟩ = some (.int .i64 a0_1) ∧ w'.cell? ⟨gb437, 2, none⟩ = some (.slice (some ad439) l0_2.length c0_2) ∧ w'.cell? ad439 = some (.int .i64 ((rd_T29 l0_2 0).f0)) ∧ w'.cell? ⟨ad439.block, ad439.off + 1, none⟩ = some (.int .i64 ((rd_T29 l0_2 0).f1)) ∧ w'.cell? ⟨ad439.block, ad439.off + 2, none⟩ = some (.slice A439_2 ((rd_T29 l0_2 0).f2).length c439_2) ∧ w'.cell? ⟨ad439.block, ad439.off + 3, none⟩ = some (.int .i64 ((rd_T29 l0_2 1).f0)) ∧ w'.cell? ⟨ad439.block, ad439.off + 3 + 1, none⟩ = some (.int .i64 ((rd_T29 l0_2 1).f1)) ∧ w'.cell? ⟨ad439.block, ad439.off + 3 + 2, none⟩ = some (.slice A445_2 ((rd_T29 l0_2 1).f2).length c445_2)) ∧ (Kd.N k29 29 w' w.heap.size (fun k_ => (w.heap.size ≤ k_) ∧ some k_ ≠ (s_.2.1 : Value).ownBlock ∧ k_ ≠ gb437 ∧ k_ ≠ gb438 ∧ k_ ≠ s_.2.2) s_.1 t442) ∧ (Kd.N k29 29 w' w.heap.size (fun k_ => (w.heap.size ≤ k_) ∧ some k_ ≠ (s_.1 : Value).ownBlock ∧ k_ ≠ gb437 ∧ k_ ≠ gb438 ∧ k_ ≠ s_.2.2) s_.2.1 t448) ∧ (w'.heap[gb437]? = some (.cells #[.int .i64 a0_0, .int .i64 a0_1, .slice (some ad439) l0_2.length c0_2] 29 (0, 0))) ∧ (w'.heap[gb438]? = some (.cells #[.int .i64 0, .int .i64 0, .slice none 0 0] 29 (0, 0))) ∧ (w'.heap[s_.2.2]? = some (.cells #[.int .i64 0, .int .i64 0, .slice none 0 0] 29 (0, 0))) ∧ (w.heap.size ≤ s_.2.2) ∧ (w.heap.size ≤ s_.2.2) ∧ (gb437 ≠ s_.2.2) ∧ (s_.2.2 ≠ gb437) ∧ (gb438 ≠ s_.2.2) ∧ (s_.2.2 ≠ gb438) ∧ (Below w.heap.size w w')) ?_ ?_
     rotate_left
     ·intro hJ4_9_10
      refine join_ (σ := Value × Value × Nat) 3 #[true, true, true, true, true, true, true, true, true, true, false, true, false, false] (fun s_ => [(19, .agg #[.int .i64 t440, .int .i64 t441, s_.1]), (24, .agg #[.int .i64 t446, .int .i64 t447, s_.2.1]), (4, .pointer (some ⟨s_.2.2, 0, none⟩))]) (fun s_ w' => (w'.cell? ⟨gb437, 0, none⟩ = some (.int .i64 a0_0) ∧ w'.cell? ⟨gb437, 1, none⟩ = some (.int .i64 a0_1) ∧ w'.cell? ⟨gb437, 2, none⟩ = some (.slice (some ad439) l0_2.length c0_2) ∧ w'.cell? ad439 = some (.int .i64 ((rd_T29 l0_2 0).f0)) ∧ w'.cell? ⟨ad439.block, ad439.off + 1, none⟩ = some (.int .i64 ((rd_T29 l0_2 0).f1)) ∧ w'.cell? ⟨ad439.block, ad439.off + 2, none⟩ = some (.slice A439_2 ((rd_T29 l0_2 0).f2).length c439_2) ∧ w'.cell? ⟨ad439.block, ad439.off + 3, none⟩ = some (.int .i64 ((rd_T29 l0_2 1).f0)) ∧ w'.cell? ⟨ad439.block, ad439.off + 3 + 1, none⟩ = some (.int .i64 ((rd_T29 l0_2 1).f1)) ∧ w'.cell? ⟨ad439.block, ad439.off + 3 + 2, none⟩ = some (.slice A445_2 ((rd_T29 l0_2 1).f2).length c445_2)) ∧ (Kd.N k29 29 w' w.heap.size (fun k_ => (w.heap.size ≤ k_) ∧ some k_ ≠ (s_.2.1 : Value).ownBlock ∧ k_ ≠ gb437 ∧ k_ ≠ gb438 ∧ k_ ≠ s_.2.2) s_.1 t442) ∧ (Kd.N k29 29 w' w.heap.size (fun k_ => (w.heap.size ≤ k_) ∧ some k_ ≠ (s_.1 : Value).ownBlock ∧ k_ ≠ gb437 ∧ k_ ≠ gb438 ∧ k_ ≠ s_.2.2) s_.2.1 t448) ∧ (w'.heap[gb437]? = some (.cells #[.int .i64 a0_0, .int .i64 a0_1, .slice (some ad439) l0_2.length c0_2] 29 (0, 0))) ∧ (w'.heap[gb438]? = some (.cells #[.int .i64 0, .int .i64 0, .slice none 0 0] 29 (0, 0))) ∧ (w'.heap[s_.2.2]? = some (.cells #[.int .i64 0, .int .i64 0, .slice none 0 0] 29 (0, 0))) ∧ (w.heap.size ≤ s_.2.2) ∧ (w.heap.size ≤ s_.2.2) ∧ (gb437 ≠ s_.2.2) ∧ (s_.2.2 ≠ gb437) ∧ (gb438 ≠ s_.2.2) ∧ (s_.2.2 ≠ gb438) ∧ (Below w.heap.size w w')) ?_ ?_
      rotate_left
      ·intro hJ4_9_11
       refine join_ (σ := Value × Nat × Nat) 3 #[true, true, true, true, true, true, true, true, true, false, true, true, false, false] (fun s_ => [(19, .agg #[.int .i64 t440, .int .i64 t441, s_.1]), (3, .pointer (some ⟨s_.2.1, 0, none⟩)), (4, .pointer (some ⟨s_.2.2, 0, none⟩))]) (fun s_ w' => (w'.cell? ⟨gb437, 0, none⟩ = some (.int .i64 a0_0) ∧ w'.cell? ⟨gb437, 1, none⟩ = some (.int .i64 a0_1) ∧ w'.cell? ⟨gb437, 2, none⟩ = some (.slice (some ad439) l0_2.length c0_2) ∧ w'.cell? ad439 = some (.int .i64 ((rd_T29 l0_2 0).f0)) ∧ w'.cell? ⟨ad439.block, ad439.off + 1, none⟩ = some (.int .i64 ((rd_T29 l0_2 0).f1)) ∧ w'.cell? ⟨ad439.block, ad439.off + 2, none⟩ = some (.slice A439_2 ((rd_T29 l0_2 0).f2).length c439_2) ∧ w'.cell? ⟨ad439.block, ad439.off + 3, none⟩ = some (.int .i64 ((rd_T29 l0_2 1).f0)) ∧ w'.cell? ⟨ad439.block, ad439.off + 3 + 1, none⟩ = some (.int .i64 ((rd_T29 l0_2 1).f1)) ∧ w'.cell? ⟨ad439.block, ad439.off + 3 + 2, none⟩ = some (.slice A445_2 ((rd_T29 l0_2 1).f2).length c445_2)) ∧ (Kd.N k29 29 w' w.heap.size (fun k_ => (w.heap.size ≤ k_) ∧ k_ ≠ gb437 ∧ k_ ≠ gb438 ∧ k_ ≠ s_.2.1 ∧ k_ ≠ s_.2.2) s_.1 t442) ∧ (w'.heap[gb437]? = some (.cells #[.int .i64 a0_0, .int .i64 a0_1, .slice (some ad439) l0_2.length c0_2] 29 (0, 0))) ∧ (w'.heap[gb438]? = some (.cells #[.int .i64 0, .int .i64 0, .slice none 0 0] 29 (0, 0))) ∧ (w'.heap[s_.2.1]? = some (.cells #[.int .i64 0, .int .i64 0, .slice none 0 0] 29 (0, 0))) ∧ (w'.heap[s_.2.2]? = some (.cells #[.int .i64 0, .int .i64 0, .slice none 0 0] 29 (0, 0))) ∧ (w.heap.size ≤ s_.2.1) ∧ (w.heap.size ≤ s_.2.1) ∧ (gb437 ≠ s_.2.1) ∧ (s_.2.1 ≠ gb437) ∧ (gb438 ≠ s_.2.1) ∧ (s_.2.1 ≠ gb438) ∧ (s_.2.2 ≠ s_.2.1) ∧ (s_.2.1 ≠ s_.2.2) ∧ (w.heap.size ≤ s_.2.2) ∧ (w.heap.size ≤ s_.2.2) ∧ (gb437 ≠ s_.2.2) ∧ (s_.2.2 ≠ gb437) ∧ (gb438 ≠ s_.2.2) ∧ (s_.2.2 ≠ gb438) ∧ (Below w.heap.size w w')) ?_ ?_
       rotate_left
       ·intro hJ4_10_11
        refine join_ (σ := Value × Value) 4 #[true, true, true, true, true, true, true, true, true, true, false, false, false, false] (fun s_ => [(19, .agg #[.int .i64 t440, .int .i64 t441, s_.1]), (24, .agg #[.int .i64 t446, .int .i64 t447, s_.2])]) (fun s_ w' => (w'.cell? ⟨gb437, 0, none⟩ = some (.int .i64 a0_0) ∧ w'.cell? ⟨gb437, 1, none⟩ = some (.int .i64 a0_1) ∧ w'.cell? ⟨gb437, 2, none⟩ = some (.slice (some ad439) l0_2.length c0_2) ∧ w'.cell? ad439 = some (.int .i64 ((rd_T29 l0_2 0).f0)) ∧ w'.cell? ⟨ad439.block, ad439.off + 1, none⟩ = some (.int .i64 ((rd_T29 l0_2 0).f1)) ∧ w'.cell? ⟨ad439.block, ad439.off + 2, none⟩ = some (.slice A439_2 ((rd_T29 l0_2 0).f2).length c439_2) ∧ w'.cell? ⟨ad439.block, ad439.off + 3, none⟩ = some (.int .i64 ((rd_T29 l0_2 1).f0)) ∧ w'.cell? ⟨ad439.block, ad439.off + 3 + 1, none⟩ = some (.int .i64 ((rd_T29 l0_2 1).f1)) ∧ w'.cell? ⟨ad439.block, ad439.off + 3 + 2, none⟩ = some (.slice A445_2 ((rd_T29 l0_2 1).f2).length c445_2)) ∧ (Kd.N k29 29 w' w.heap.size (fun k_ => (w.heap.size ≤ k_) ∧ some k_ ≠ (s_.2 : Value).ownBlock ∧ k_ ≠ gb437 ∧ k_ ≠ gb438) s_.1 t442) ∧ (Kd.N k29 29 w' w.heap.size (fun k_ => (w.heap.size ≤ k_) ∧ some k_ ≠ (s_.1 : Value).ownBlock ∧ k_ ≠ gb437 ∧ k_ ≠ gb438) s_.2 t448) ∧ (w'.heap[gb437]? = some (.cells #[.int .i64 a0_0, .int .i64 a0_1, .slice (some ad439) l0_2.length c0_2] 29 (0, 0))) ∧ (w'.heap[gb438]? = some (.cells #[.int .i64 0, .int .i64 0, .slice none 0 0] 29 (0, 0))) ∧ (Below w.heap.size w w')) ?_ ?_
        rotate_left
        ·intro hJ4_9
         refine join_ (σ := Value × Nat) 4 #[true, true, true, true, true, true, true, true, true, false, true, false, false, false] (fun s_ => [(19, .agg #[.int .i64 t440, .int .i64 t441, s_.1]), (3, .pointer (some ⟨s_.2, 0, none⟩))]) (fun s_ w' => (w'.cell? ⟨gb437, 0, none⟩ = some (.int .i64 a0_0) ∧ w'.cell? ⟨gb437, 1, none⟩ = some (.int .i64 a0_1) ∧ w'.cell? ⟨gb437, 2, none⟩ = some (.slice (some ad439) l0_2.length c0_2) ∧ w'.cell? ad439 = some (.int .i64 ((rd_T29 l0_2 0).f0)) ∧ w'.cell? ⟨ad439.block, ad439.off + 1, none⟩ = some (.int .i64 ((rd_T29 l0_2 0).f1)) ∧ w'.cell? ⟨ad439.block, ad439.off + 2, none⟩ = some (.slice A439_2 ((rd_T29 l0_2 0).f2).length c439_2) ∧ w'.cell? ⟨ad439.block, ad439.off + 3, none⟩ = some (.int .i64 ((rd_T29 l0_2 1).f0)) ∧ w'.cell? ⟨ad439.block, ad439.off + 3 + 1, none⟩ = some (.int .i64 ((rd_T29 l0_2 1).f1)) ∧ w'.cell? ⟨ad439.block, ad439.off + 3 + 2, none⟩ = some (.slice A445_2 ((rd_T29 l0_2 1).f2).length c445_2)) ∧ (Kd.N k29 29 w' w.heap.size (fun k_ => (w.heap.size ≤ k_) ∧ k_ ≠ gb437 ∧ k_ ≠ gb438 ∧ k_ ≠ s_.2) s_.1 t442) ∧ (w'.heap[gb437]? = some (.cells #[.int .i64 a0_0, .int .i64 a0_1, .slice (some ad439) l0_2.length c0_2] 29 (0, 0))) ∧ (w'.heap[gb438]? = some (.cells #[.int .i64 0, .int .i64 0, .slice none 0 0] 29 (0, 0))) ∧ (w'.heap[s_.2]? = some (.cells #[.int .i64 0, .int .i64 0, .slice none 0 0] 29 (0, 0))) ∧ (w.heap.size ≤ s_.2) ∧ (w.heap.size ≤ s_.2) ∧ (gb437 ≠ s_.2) ∧ (s_.2 ≠ gb437) ∧ (gb438 ≠ s_.2) ∧ (s_.2 ≠ gb438) ∧ (Below w.heap.size w w')) ?_ ?_
         rotate_left
         ·intro hJ4_10
          refine join_ (σ := Value × Nat) 4 #[true, true, true, true, true, true, true, true, true, false, false, true, false, false] (fun s_ => [(19, .agg #[.int .i64 t440, .int .i64 t441, s_.1]), (4, .pointer (some ⟨s_.2, 0, none⟩))]) (fun s_ w' => (w'.cell? ⟨gb437, 0, none⟩ = some (.int .i64 a0_0) ∧ w'.cell? ⟨gb437, 1, none⟩ = some (.int .i64 a0_1) ∧ w'.cell? ⟨gb437, 2, none⟩ = some (.slice (some ad439) l0_2.length c0_2) ∧ w'.cell? ad439 = some (.int .i64 ((rd_T29 l0_2 0).f0)) ∧ w'.cell? ⟨ad439.block, ad439.off + 1, none⟩ = some (.int .i64 ((rd_T29 l0_2 0).f1)) ∧ w'.cell? ⟨ad439.block, ad439.off + 2, none⟩ = some (.slice A439_2 ((rd_T29 l0_2 0).f2).length c439_2) ∧ w'.cell? ⟨ad439.block, ad439.off + 3, none⟩ = some (.int .i64 ((rd_T29 l0_2 1).f0)) ∧ w'.cell? ⟨ad439.block, ad439.off + 3 + 1, none⟩ = some (.int .i64 ((rd_T29 l0_2 1).f1)) ∧ w'.cell? ⟨ad439.block, ad439.off + 3 + 2, none⟩ = some (.slice A445_2 ((rd_T29 l0_2 1).f2).length c445_2)) ∧ (Kd.N k29 29 w' w.heap.size (fun k_ => (w.heap.size ≤ k_) ∧ k_ ≠ gb437 ∧ k_ ≠ gb438 ∧ k_ ≠ s_.2) s_.1 t442) ∧ (w'.heap[gb437]? = some (.cells #[.int .i64 a0_0, .int .i64 a0_1, .slice (some ad439) l0_2.length c0_2] 29 (0, 0))) ∧ (w'.heap[gb438]? = some (.cells #[.int .i64 0, .int .i64 0, .slice none 0 0] 29 (0, 0))) ∧ (w'.heap[s_.2]? = some (.cells #[.int .i64 0, .int .i64 0, .slice none 0 0] 29 (0, 0))) ∧ (w.heap.size ≤ s_.2) ∧ (w.heap.size ≤ s_.2) ∧ (gb437 ≠ s_.2) ∧ (s_.2 ≠ gb437) ∧ (gb438 ≠ s_.2) ∧ (s_.2 ≠ gb438) ∧ (Below w.heap.size w w')) ?_ ?_
          rotate_left
          ·intro hJ4_11
           refine join_ (σ := Nat × Nat) 4 #[true, true, true, true, false, true, true, true, true, false, true, true, false, false] (fun s_ => [(3, .pointer (some ⟨s_.1, 0, none⟩)), (4, .pointer (some ⟨s_.2, 0, none⟩))]) (fun s_ w' => (w'.cell? ⟨gb437, 0, none⟩ = some (.int .i64 a0_0) ∧ w'.cell? ⟨gb437, 1, none⟩ = some (.int .i64 a0_1) ∧ w'.cell? ⟨gb437, 2, none⟩ = some (.slice (some ad439) l0_2.length c0_2) ∧ w'.cell? ad439 = some (.int .i64 ((rd_T29 l0_2 0).f0)) ∧ w'.cell? ⟨ad439.block, ad439.off + 1, none⟩ = some (.int .i64 ((rd_T29 l0_2 0).f1)) ∧ w'.cell? ⟨ad439.block, ad439.off + 2, none⟩ = some (.slice A439_2 ((rd_T29 l0_2 0).f2).length c439_2) ∧ w'.cell? ⟨ad439.block, ad439.off + 3, none⟩ = some (.int .i64 ((rd_T29 l0_2 1).f0)) ∧ w'.cell? ⟨ad439.block, ad439.off + 3 + 1, none⟩ = some (.int .i64 ((rd_T29 l0_2 1).f1)) ∧ w'.cell? ⟨ad439.block, ad439.off + 3 + 2, none⟩ = some (.slice A445_2 ((rd_T29 l0_2 1).f2).length c445_2)) ∧ (w'.heap[gb437]? = some (.cells #[.int .i64 a0_0, .int .i64 a0_1, .slice (some ad439) l0_2.length c0_2] 29 (0, 0))) ∧ (w'.heap[gb438]? = some (.cells #[.int .i64 0, .int .i64 0, .slice none 0 0] 29 (0, 0))) ∧ (w'.heap[s_.1]? = some (.cells #[.int .i64 0, .int .i64 0, .slice none 0 0] 29 (0, 0))) ∧ (w'.heap[s_.2]? = some (.cells #[.int .i64 0, .int .i64 0, .slice none 0 0] 29 (0, 0))) ∧ (w.heap.size ≤ s_.1) ∧ (w.heap.size ≤ s_.1) ∧ (gb437 ≠ s_.1) ∧ (s_.1 ≠ gb437) ∧ (gb438 ≠ s_.1) ∧ (s_.1 ≠ gb438) ∧ (s_.2 ≠ s_.1) ∧ (s_.1 ≠ s_.2) ∧ (w.heap.size ≤ s_.2) ∧ (w.heap.size ≤ s_.2) ∧ (gb437 ≠ s_.2) ∧ (s_.2 ≠ gb437) ∧ (gb438 ≠ s_.2) ∧ (s_.2 ≠ gb438) ∧ (Below w.heap.size w w')) ?_ ?_
           rotate_left
           ·intro hJ10_11
            refine join_ (σ := Value) 5 #[true, true, true, true, true, true, true, true, true, false, false, false, false, false] (fun s_ => [(19, .agg #[.int .i64 t440, .int .i64 t441, s_])]) (fun s_ w' => (w'.cell? ⟨gb437, 0, none⟩ = some (.int .i64 a0_0) ∧ w'.cell? ⟨gb437, 1, none⟩ = some (.int .i64 a0_1) ∧ w'.cell? ⟨gb437, 2, none⟩ = some (.slice (some ad439) l0_2.length c0_2) ∧ w'.cell? ad439 = some (.int .i64 ((rd_T29 l0_2 0).f0)) ∧ w'.cell? ⟨ad439.block, ad439.off + 1, none⟩ = some (.int .i64 ((rd_T29 l0_2 0).f1)) ∧ w'.cell? ⟨ad439.block, ad439.off + 2, none⟩ = some (.slice A439_2 ((rd_T29 l0_2 0).f2).length c439_2) ∧ w'.cell? ⟨ad439.block, ad439.off + 3, none⟩ = some (.int .i64 ((rd_T29 l0_2 1).f0)) ∧ w'.cell? ⟨ad439.block, ad439.off + 3 + 1, none⟩ = some (.int .i64 ((rd_T29 l0_2 1).f1)) ∧ w'.cell? ⟨ad439.block, ad439.off + 3 + 2, none⟩ = some (.slice A445_2 ((rd_T29 l0_2 1).f2).length c445_2)) ∧ (Kd.N k29 29 w' w.heap.size (fun k_ => (w.heap.size ≤ k_) ∧ k_ ≠ gb437 ∧ k_ ≠ gb438) s_ t442) ∧ (w'.heap[gb437]? = some (.cells #[.int .i64 a0_0, .int .i64 a0_1, .slice (some ad439) l0_2.length c0_2] 29 (0, 0))) ∧ (w'.heap[gb438]? = some (.cells #[.int .i64 0, .int .i64 0, .slice none 0 0] 29 (0, 0))) ∧ (Below w.heap.size w w')) ?_ ?_
            rotate_left
            ·intro hJ4
             refine join_ (σ := Nat) 5 #[true, true, true, true, false, true, true, true, true, false, true, false, false, false] (fun s_ => [(3, .pointer (some ⟨s_, 0, none⟩))]) (fun s_ w' => (w'.cell? ⟨gb437, 0, none⟩ = some (.int .i64 a0_0) ∧ w'.cell? ⟨gb437, 1, none⟩ = some (.int .i64 a0_1) ∧ w'.cell? ⟨gb437, 2, none⟩ = some (.slice (some ad439) l0_2.length c0_2) ∧ w'.cell? ad439 = some (.int .i64 ((rd_T29 l0_2 0).f0)) ∧ w'.cell? ⟨ad439.block, ad439.off + 1, none⟩ = some (.int .i64 ((rd_T29 l0_2 0).f1)) ∧ w'.cell? ⟨ad439.block, ad439.off + 2, none⟩ = some (.slice A439_2 ((rd_T29 l0_2 0).f2).length c439_2) ∧ w'.cell? ⟨ad439.block, ad439.off + 3, none⟩ = some (.int .i64 ((rd_T29 l0_2 1).f0)) ∧ w'.cell? ⟨ad439.block, ad439.off + 3 + 1, none⟩ = some (.int .i64 ((rd_T29 l0_2 1).f1)) ∧ w'.cell? ⟨ad439.block, ad439.off + 3 + 2, none⟩ = some (.slice A445_2 ((rd_T29 l0_2 1).f2).length c445_2)) ∧ (w'.heap[gb437]? = some (.cells #[.int .i64 a0_0, .int .i64 a0_1, .slice (some ad439) l0_2.length c0_2] 29 (0, 0))) ∧ (w'.heap[gb438]? = some (.cells #[.int .i64 0, .int .i64 0, .slice none 0 0] 29 (0, 0))) ∧ (w'.heap[s_]? = some (.cells #[.int .i64 0, .int .i64 0, .slice none 0 0] 29 (0, 0))) ∧ (w.heap.size ≤ s_) ∧ (w.heap.size ≤ s_) ∧ (gb437 ≠ s_) ∧ (s_ ≠ gb437) ∧ (gb438 ≠ s_) ∧ (s_ ≠ gb438) ∧ (Below w.heap.size w w')) ?_ ?_
             rotate_left
             ·intro hJ10
              refine join_ (σ := Nat) 5 #[true, true, true, true, false, true, true, true, true, false, false, true, false, false] (fun s_ => [(4, .pointer (some ⟨s_, 0, none⟩))]) (fun s_ w' => (w'.cell? ⟨gb437, 0, none⟩ = some (.int .i64 a0_0) ∧ w'.cell? ⟨gb437, 1, none⟩ = some (.int .i64 a0_1) ∧ w'.cell? ⟨gb437, 2, none⟩ = some (.slice (some ad439) l0_2.length c0_2) ∧ w'.cell? ad439 = some (.int .i64 ((rd_T29 l0_2 0).f0)) ∧ w'.cell? ⟨ad439.block, ad439.off + 1, none⟩ = some (.int .i64 ((rd_T29 l0_2 0).f1)) ∧ w'.cell? ⟨ad439.block, ad439.off + 2, none⟩ = some (.slice A439_2 ((rd_T29 l0_2 0).f2).length c439_2) ∧ w'.cell? ⟨ad439.block, ad439.off + 3, none⟩ = some (.int .i64 ((rd_T29 l0_2 1).f0)) ∧ w'.cell? ⟨ad439.block, ad439.off + 3 + 1, none⟩ = some (.int .i64 ((rd_T29 l0_2 1).f1)) ∧ w'.cell? ⟨ad439.block, ad439.off + 3 + 2, none⟩ = some (.slice A445_2 ((rd_T29 l0_2 1).f2).length c445_2)) ∧ (w'.heap[gb437]? = some (.cells #[.int .i64 a0_0, .int .i64 a0_1, .slice (some ad439) l0_2.length c0_2] 29 (0, 0))) ∧ (w'.heap[gb438]? = some (.cells #[.int .i64 0, .int .i64 0, .slice none 0 0] 29 (0, 0))) ∧ (w'.heap[s_]? = some (.cells #[.int .i64 0, .int .i64 0, .slice none 0 0] 29 (0, 0))) ∧ (w.heap.size ≤ s_) ∧ (w.heap.size ≤ s_) ∧ (gb437 ≠ s_) ∧ (s_ ≠ gb437) ∧ (gb438 ≠ s_) ∧ (s_ ≠ gb438) ∧ (Below w.heap.size w w')) ?_ ?_
              rotate_left
              ·intro hJ11
               refine three_ (i := 4) (j := 10) (k := 11) (Ni := some 19) (Nj := some 3) (Nk := some 4) #[true, true, true, true, true, true, true, true, true, false, false, false, false, false] #[true, true, true, true, false, true, true, true, true, false, true, false, false, false] #[true, true, true, true, false, true, true, true, true, false, false, true, false, false] rfl rfl rfl rfl rfl rfl (three_of HT_.out (by kernel_rfl)) (by decide) (by decide) (by decide) (fun K hK => ?_) (fun K hK => ?_) (fun K hK => ?_)
               ·skip
                refine goes_ Try.func49 (by kernel_rfl) rfl #[.agg #[.int .i64 ((rd_T29 l0_2 0).f0), .int .i64 ((rd_T29 l0_2 0).f1), .slice A439_2 ((rd_T29 l0_2 0).f2).length c439_2]] (by rfl) rfl rfl (by (try simp only [List.map_toArray, List.map_cons, List.map_nil]); first | done | rfl | (simp only [List.length_drop, List.length_take]; rfl)) ?_
                with_reducible refine (ih k (by omega) ((rd_T29 l0_2 0).f0) ((rd_T29 l0_2 0).f1) _ _ ((rd_T29 l0_2 0).f2) t440 t441 t442 _ ?side1 ?side2 A9.out).mono ?_
                (case side1 => repeat (first | exact (Kd.C_below HR439_2.out HB.out) | (with_reducible refine Kd.C_alloc ?_ _) | (with_reducible refine Kd.C_drewN ?_ _) | (with_reducible refine Kd.C_drew ?_)))
                (case side2 => exact HC439_2.out)
                rintro e w18 ⟨v443, rfl, ho0, hb⟩
                refine ⟨_, rfl, ?_⟩
                have n0_ := X1 (Kd.N_lower (Kd.N_mono (ok' := fun k_ => (w.heap.size ≤ k_) ∧ k_ ≠ gb437 ∧ k_ ≠ gb438) ho0 (fun k_ hk_ => ⟨(Nat.le_trans (below_size (by repeat (first | (with_reducible first | exact HB.out | apply X5 | apply X4 | apply X3 | refine X10 ?_ GE437.out | refine X10 ?_ GE438.out) | exact HB.out))) hk_), (Kd.freshB (g := gb437) (o := .cells #[.int .i64 a0_0, .int .i64 a0_1, .slice (some ad439) l0_2.length c0_2] 29 (0, 0)) (by (with_reducible repeat (first | refine X7 ?_ _ | refine X8 ?_ | refine X6 ?_ _)); exact BK437.out) k_ hk_), (Kd.freshB (g := gb438) (o := .cells #[.int .i64 0, .int .i64 0, .slice none 0 0] 29 (0, 0)) (by (with_reducible repeat (first | refine X7 ?_ _ | refine X8 ?_ | refine X6 ?_ _)); exact BK438.out) k_ hk_)⟩)) (below_size (by repeat (first | (with_reducible first | exact HB.out | apply X5 | apply X4 | apply X3 | refine X10 ?_ GE437.out | refine X10 ?_ GE438.out) | exact HB.out))))
                have n1_ := X1 (blk_below (g := gb437) (o := .cells #[.int .i64 a0_0, .int .i64 a0_1, .slice (some ad439) l0_2.length c0_2] 29 (0, 0)) (by (with_reducible repeat (first | refine X7 ?_ _ | refine X8 ?_ | refine X6 ?_ _)); exact BK437.out) hb)
                have n2_ := X1 (blk_below (g := gb438) (o := .cells #[.int .i64 0, .int .i64 0, .slice none 0 0] 29 (0, 0)) (by (with_reducible repeat (first | refine X7 ?_ _ | refine X8 ?_ | refine X6 ?_ _)); exact BK438.out) hb)
                have n3_ := X1 (below_step (by repeat (first | (with_reducible first | exact HB.out | apply X5 | apply X4 | apply X3 | refine X10 ?_ GE437.out | refine X10 ?_ GE438.out) | exact HB.out)) hb)
                clear BK437
                clear BK438
                clear HB
                have HO444 := n0_
                have BK437 := n1_
                have BK438 := n2_
                have HB := n3_
                clear n0_ n1_ n2_ n3_
                (try clear hb)
                (try clear hb2)
                (try clear hk)
                (try clear hi)
                (try clear ho0)
                refine hK.out _ _ ⟨(X11 BK437.out 0).trans rfl, (X11 BK437.out 1).trans rfl, (X11 BK437.out 2).trans rfl, ((HB.out.cell (X9 w _ hw439_0)).trans hw439_0), ((HB.out.cell (X9 w _ hw439_1)).trans hw439_1), ((HB.out.cell (X9 w _ hw439_2)).trans hw439_2), ((HB.out.cell (X9 w _ hw445_0)).trans hw445_0), ((HB.out.cell (X9 w _ hw445_1)).trans hw445_1), ((HB.out.cell (X9 w _ hw445_2)).trans hw445_2)⟩ (fun hHeld => ?_)
                clear hK K
                refine norm_ (a' := ?_) ?_ ?_
                rotate_left
                ·show Act.put _ (some 19) _ = _
                 simp only [Act.put, List.setIfInBounds_toArray, List.set_cons_zero, List.set_cons_succ, i64_w, i32_w]
                 rfl
                exact norm_ (by first | (simp only [putAll, Act.put, List.setIfInBounds_toArray, List.set_cons_zero, List.set_cons_succ]; done) | (simp only [putAll, Act.put, List.setIfInBounds_toArray, List.set_cons_zero, List.set_cons_succ]; rfl)) (hJ4 (v443) _ ⟨hHeld, (by (with_reducible repeat (first | apply Kd.N_alloc | apply Kd.N_drewN | apply Kd.N_drew)); exact HO444.out), (by (with_reducible repeat (first | refine X7 ?_ _ | refine X8 ?_ | refine X6 ?_ _)); exact BK437.out), (by (with_reducible repeat (first | refine X7 ?_ _ | refine X8 ?_ | refine X6 ?_ _)); exact BK438.out), (by repeat (first | (with_reducible first | exact HB.out | apply X5 | apply X4 | apply X3 | refine X10 ?_ GE437.out | refine X10 ?_ GE438.out) | exact HB.out))⟩)
               ·skip
                refine box_step ?hg (N := 3) ?hd (cs := #[.int .i64 0, .int .i64 0, .slice none 0 0]) (t := 29) ?hr ?_; (case hd => rfl); (case hg => rfl); (case hr => first | (go_simp; done) | (go_simp; rfl))
                intro gb451 hg w18 hbox hb
                have n0_ := X1 (blk_below (g := gb437) (o := .cells #[.int .i64 a0_0, .int .i64 a0_1, .slice (some ad439) l0_2.length c0_2] 29 (0, 0)) (by (with_reducible repeat (first | refine X7 ?_ _ | refine X8 ?_ | refine X6 ?_ _)); exact BK437.out) hb)
                have n1_ := X1 (blk_below (g := gb438) (o := .cells #[.int .i64 0, .int .i64 0, .slice none 0 0] 29 (0, 0)) (by (with_reducible repeat (first | refine X7 ?_ _ | refine X8 ?_ | refine X6 ?_ _)); exact BK438.out) hb)
                have n2_ := X1 (below_step (by repeat (first | (with_reducible first | exact HB.out | apply X5 | apply X4 | apply X3 | refine X10 ?_ GE437.out | refine X10 ?_ GE438.out) | exact HB.out)) hb)
                have n3_ := X1 (hbox)
                have n4_ := X1 ((by rw [hg]; exact (below_size (by repeat (first | (with_reducible first | exact HB.out | apply X5 | apply X4 | apply X3 | refine X10 ?_ GE437.out | refine X10 ?_ GE438.out) | exact HB.out))) : w.heap.size ≤ gb451))
                have n5_ := X1 ((by rw [hg]; exact (below_size (by repeat (first | (with_reducible first | exact HB.out | apply X5 | apply X4 | apply X3 | refine X10 ?_ GE437.out | refine X10 ?_ GE438.out) | exact HB.out))) : w.heap.size ≤ gb451))
                have n6_ := X1 ((by rw [hg]; exact Nat.ne_of_lt (blk_lt (g := gb437) (o := .cells #[.int .i64 a0_0, .int .i64 a0_1, .slice (some ad439) l0_2.length c0_2] 29 (0, 0)) (by (with_reducible repeat (first | refine X7 ?_ _ | refine X8 ?_ | refine X6 ?_ _)); exact BK437.out)) : gb437 ≠ gb451))
                have n7_ := X1 ((by rw [hg]; exact Nat.ne_of_gt (blk_lt (g := gb437) (o := .cells #[.int .i64 a0_0, .int .i64 a0_1, .slice (some ad439) l0_2.length c0_2] 29 (0, 0)) (by (with_reducible repeat (first | refine X7 ?_ _ | refine X8 ?_ | refine X6 ?_ _)); exact BK437.out)) : gb451 ≠ gb437))
                have n8_ := X1 ((by rw [hg]; exact Nat.ne_of_lt (blk_lt (g := gb438) (o := .cells #[.int .i64 0, .int .i64 0, .slice none 0 0] 29 (0, 0)) (by (with_reducible repeat (first | refine X7 ?_ _ | refine X8 ?_ | refine X6 ?_ _)); exact BK438.out)) : gb438 ≠ gb451))
                have n9_ := X1 ((by rw [hg]; exact Nat.ne_of_gt (blk_lt (g := gb438) (o := .cells #[.int .i64 0, .int .i64 0, .slice none 0 0] 29 (0, 0)) (by (with_reducible repeat (first | refine X7 ?_ _ | refine X8 ?_ | refine X6 ?_ _)); exact BK438.out)) : gb451 ≠ gb438))
                clear BK437
                clear BK438
                clear HB
                have BK437 := n0_
                have BK438 := n1_
                have HB := n2_
                have BK451 := n3_
                have GW451 := n4_
                have GE451 := n5_
                have NB437_451 := n6_
                have NB451_437 := n7_
                have NB438_451 := n8_
                have NB451_438 := n9_
                clear n0_ n1_ n2_ n3_ n4_ n5_ n6_ n7_ n8_ n9_
                clear hb hbox hg
                refine hK.out _ _ ⟨(X11 BK437.out 0).trans rfl, (X11 BK437.out 1).trans rfl, (X11 BK437.out 2).trans rfl, ((HB.out.cell (X9 w _ hw439_0)).trans hw439_0), ((HB.out.cell (X9 w _ hw439_1)).trans hw439_1), ((HB.out.cell (X9 w _ hw439_2)).trans hw439_2), ((HB.out.cell (X9 w _ hw445_0)).trans hw445_0), ((HB.out.cell (X9 w _ hw445_1)).trans hw445_1), ((HB.out.cell (X9 w _ hw445_2)).trans hw445_2)⟩ (fun hHeld => ?_)
                clear hK K
                refine norm_ (a' := ?_) ?_ ?_
                rotate_left
                ·show Act.put _ (some 3) _ = _
                 simp only [Act.put, List.setIfInBounds_toArray, List.set_cons_zero, List.set_cons_succ, i64_w, i32_w]
                 rfl
                exact norm_ (by first | (simp only [putAll, Act.put, List.setIfInBounds_toArray, List.set_cons_zero, List.set_cons_succ]; done) | (simp only [putAll, Act.put, List.setIfInBounds_toArray, List.set_cons_zero, List.set_cons_succ]; rfl)) (hJ10 (gb451) _ ⟨hHeld, (by (with_reducible repeat (first | refine X7 ?_ _ | refine X8 ?_ | refine X6 ?_ _)); exact BK437.out), (by (with_reducible repeat (first | refine X7 ?_ _ | refine X8 ?_ | refine X6 ?_ _)); exact BK438.out), (by (with_reducible repeat (first | refine X7 ?_ _ | refine X8 ?_ | refine X6 ?_ _)); exact BK451.out), GW451.out, GE451.out, NB437_451.out, NB451_437.out, NB438_451.out, NB451_438.out, (by repeat (first | (with_reducible first | exact HB.out | apply X5 | apply X4 | apply X3 | refine X10 ?_ GE437.out | refine X10 ?_ GE438.out | refine X10 ?_ GE451.out) | exact HB.out))⟩)
               ·skip
                refine box_step ?hg (N := 4) ?hd (cs := #[.int .i64 0, .int .i64 0, .slice none 0 0]) (t := 29) ?hr ?_; (case hd => rfl); (case hg => rfl); (case hr => first | (go_simp; done) | (go_simp; rfl))
                intro gb452 hg w18 hbox hb
                have n0_ := X1 (blk_below (g := gb437) (o := .cells #[.int .i64 a0_0, .int .i64 a0_1, .slice (some ad439) l0_2.length c0_2] 29 (0, 0)) (by (with_reducible repeat (first | refine X7 ?_ _ | refine X8 ?_ | refine X6 ?_ _)); exact BK437.out) hb)
                have n1_ := X1 (blk_below (g := gb438) (o := .cells #[.int .i64 0, .int .i64 0, .slice none 0 0] 29 (0, 0)) (by (with_reducible repeat (first | refine X7 ?_ _ | refine X8 ?_ | refine X6 ?_ _)); exact BK438.out) hb)
                have n2_ := X1 (below_step (by repeat (first | (with_reducible first | exact HB.out | apply X5 | apply X4 | apply X3 | refine X10 ?_ GE437.out | refine X10 ?_ GE438.out) | exact HB.out)) hb)
                have n3_ := X1 (hbox)
                have n4_ := X1 ((by rw [hg]; exact (below_size (by repeat (first | (with_reducible first | exact HB.out | apply X5 | apply X4 | apply X3 | refine X10 ?_ GE437.out | refine X10 ?_ GE438.out) | exact HB.out))) : w.heap.size ≤ gb452))
                have n5_ := X1 ((by rw [hg]; exact (below_size (by repeat (first | (with_reducible first | exact HB.out | apply X5 | apply X4 | apply X3 | refine X10 ?_ GE437.out | refine X10 ?_ GE438.out) | exact HB.out))) : w.heap.size ≤ gb452))
                have n6_ := X1 ((by rw [hg]; exact Nat.ne_of_lt (blk_lt (g := gb437) (o := .cells #[.int .i64 a0_0, .int .i64 a0_1, .slice (some ad439) l0_2.length c0_2] 29 (0, 0)) (by (with_reducible repeat (first | refine X7 ?_ _ | refine X8 ?_ | refine X6 ?_ _)); exact BK437.out)) : gb437 ≠ gb452))
                have n7_ := X1 ((by rw [hg]; exact Nat.ne_of_gt (blk_lt (g := gb437) (o := .cells #[.int .i64 a0_0, .int .i64 a0_1, .slice (some ad439) l0_2.length c0_2] 29 (0, 0)) (by (with_reducible repeat (first | refine X7 ?_ _ | refine X8 ?_ | refine X6 ?_ _)); exact BK437.out)) : gb452 ≠ gb437))
                have n8_ := X1 ((by rw [hg]; exact Nat.ne_of_lt (blk_lt (g := gb438) (o := .cells #[.int .i64 0, .int .i64 0, .slice none 0 0] 29 (0, 0)) (by (with_reducible repeat (first | refine X7 ?_ _ | refine X8 ?_ | refine X6 ?_ _)); exact BK438.out)) : gb438 ≠ gb452))
                have n9_ := X1 ((by rw [hg]; exact Nat.ne_of_gt (blk_lt (g := gb438) (o := .cells #[.int .i64 0, .int .i64 0, .slice none 0 0] 29 (0, 0)) (by (with_reducible repeat (first | refine X7 ?_ _ | refine X8 ?_ | refine X6 ?_ _)); exact BK438.out)) : gb452 ≠ gb438))
                clear BK437
                clear BK438
                clear HB
                have BK437 := n0_
                have BK438 := n1_
                have HB := n2_
                have BK452 := n3_
                have GW452 := n4_
                have GE452 := n5_
                have NB437_452 := n6_
                have NB452_437 := n7_
                have NB438_452 := n8_
                have NB452_438 := n9_
                clear n0_ n1_ n2_ n3_ n4_ n5_ n6_ n7_ n8_ n9_
                clear hb hbox hg
                refine hK.out _ _ ⟨(X11 BK437.out 0).trans rfl, (X11 BK437.out 1).trans rfl, (X11 BK437.out 2).trans rfl, ((HB.out.cell (X9 w _ hw439_0)).trans hw439_0), ((HB.out.cell (X9 w _ hw439_1)).trans hw439_1), ((HB.out.cell (X9 w _ hw439_2)).trans hw439_2), ((HB.out.cell (X9 w _ hw445_0)).trans hw445_0), ((HB.out.cell (X9 w _ hw445_1)).trans hw445_1), ((HB.out.cell (X9 w _ hw445_2)).trans hw445_2)⟩ (fun hHeld => ?_)
                clear hK K
                refine norm_ (a' := ?_) ?_ ?_
                rotate_left
                ·show Act.put _ (some 4) _ = _
                 simp only [Act.put, List.setIfInBounds_toArray, List.set_cons_zero, List.set_cons_succ, i64_w, i32_w]
                 rfl
                exact norm_ (by first | (simp only [putAll, Act.put, List.setIfInBounds_toArray, List.set_cons_zero, List.set_cons_succ]; done) | (simp only [putAll, Act.put, List.setIfInBounds_toArray, List.set_cons_zero, List.set_cons_succ]; rfl)) (hJ11 (gb452) _ ⟨hHeld, (by (with_reducible repeat (first | refine X7 ?_ _ | refine X8 ?_ | refine X6 ?_ _)); exact BK437.out), (by (with_reducible repeat (first | refine X7 ?_ _ | refine X8 ?_ | refine X6 ?_ _)); exact BK438.out), (by (with_reducible repeat (first | refine X7 ?_ _ | refine X8 ?_ | refine X6 ?_ _)); exact BK452.out), GW452.out, GE452.out, NB437_452.out, NB452_437.out, NB438_452.out, NB452_438.out, (by repeat (first | (with_reducible first | exact HB.out | apply X5 | apply X4 | apply X3 | refine X10 ?_ GE437.out | refine X10 ?_ GE438.out | refine X10 ?_ GE452.out) | exact HB.out))⟩)
              ·skip
               rintro gb452 w19 ⟨hS_, h0_, h1_, h2_, h3_, h4_, h5_, h6_, h7_, h8_, h9_⟩
               have n0_ : Aside0 (w19.heap[gb437]? = some (.cells #[.int .i64 a0_0, .int .i64 a0_1, .slice (some ad439) l0_2.length c0_2] 29 (0, 0))) := ⟨h0_⟩
               have n1_ : Aside0 (w19.heap[gb438]? = some (.cells #[.int .i64 0, .int .i64 0, .slice none 0 0] 29 (0, 0))) := ⟨h1_⟩
               have n2_ : Aside0 (w19.heap[gb452]? = some (.cells #[.int .i64 0, .int .i64 0, .slice none 0 0] 29 (0, 0))) := ⟨h2_⟩
               have n3_ : Aside0 (w.heap.size ≤ gb452) := ⟨h3_⟩
               have n4_ : Aside0 (w.heap.size ≤ gb452) := ⟨h4_⟩
               have n5_ : Aside0 (gb437 ≠ gb452) := ⟨h5_⟩
               have n6_ : Aside0 (gb452 ≠ gb437) := ⟨h6_⟩
               have n7_ : Aside0 (gb438 ≠ gb452) := ⟨h7_⟩
               have n8_ : Aside0 (gb452 ≠ gb438) := ⟨h8_⟩
               have n9_ : Aside0 (Below w.heap.size w w19) := ⟨h9_⟩
               clear BK437
               clear BK438
               clear HB
               clear h0_ h1_ h2_ h3_ h4_ h5_ h6_ h7_ h8_ h9_
               have BK437 := n0_
               have BK438 := n1_
               have BK452 := n2_
               have GW452 := n3_
               have GE452 := n4_
               have NB437_452 := n5_
               have NB452_437 := n6_
               have NB438_452 := n7_
               have NB452_438 := n8_
               have HB := n9_
               clear n0_ n1_ n2_ n3_ n4_ n5_ n6_ n7_ n8_ n9_
               have hHeld : w19.cell? ⟨gb437, 0, none⟩ = some (.int .i64 a0_0) ∧ w19.cell? ⟨gb437, 1, none⟩ = some (.int .i64 a0_1) ∧ w19.cell? ⟨gb437, 2, none⟩ = some (.slice (some ad439) l0_2.length c0_2) ∧ w19.cell? ad439 = some (.int .i64 ((rd_T29 l0_2 0).f0)) ∧ w19.cell? ⟨ad439.block, ad439.off + 1, none⟩ = some (.int .i64 ((rd_T29 l0_2 0).f1)) ∧ w19.cell? ⟨ad439.block, ad439.off + 2, none⟩ = some (.slice A439_2 ((rd_T29 l0_2 0).f2).length c439_2) ∧ w19.cell? ⟨ad439.block, ad439.off + 3, none⟩ = some (.int .i64 ((rd_T29 l0_2 1).f0)) ∧ w19.cell? ⟨ad439.block, ad439.off + 3 + 1, none⟩ = some (.int .i64 ((rd_T29 l0_2 1).f1)) ∧ w19.cell? ⟨ad439.block, ad439.off + 3 + 2, none⟩ = some (.slice A445_2 ((rd_T29 l0_2 1).f2).length c445_2) := hS_
               refine norm_ (a' := ?_) ?_ ?_
               rotate_left
               ·simp only [putAll, Act.put, List.setIfInBounds_toArray, List.set_cons_zero, List.set_cons_succ]
                rfl
               refine two_ (i := 4) (j := 10) (Ni := some 19) (Nj := some 3) #[true, true, true, true, true, true, true, true, true, false, false, true, false, false] #[true, true, true, true, false, true, true, true, true, false, true, true, false, false] rfl rfl rfl rfl (two_of HT_.out (by kernel_rfl)) (by decide) (by decide) (fun K hK => ?_) (fun K hK => ?_)
               ·skip
                refine goes_ Try.func49 (by kernel_rfl) rfl #[.agg #[.int .i64 ((rd_T29 l0_2 0).f0), .int .i64 ((rd_T29 l0_2 0).f1), .slice A439_2 ((rd_T29 l0_2 0).f2).length c439_2]] (by rfl) rfl rfl (by (try simp only [List.map_toArray, List.map_cons, List.map_nil]); first | done | rfl | (simp only [List.length_drop, List.length_take]; rfl)) ?_
                with_reducible refine (ih k (by omega) ((rd_T29 l0_2 0).f0) ((rd_T29 l0_2 0).f1) _ _ ((rd_T29 l0_2 0).f2) t440 t441 t442 _ ?side1 ?side2 A9.out).mono ?_
                (case side1 => repeat (first | exact (Kd.C_below HR439_2.out HB.out) | (with_reducible refine Kd.C_alloc ?_ _) | (with_reducible refine Kd.C_drewN ?_ _) | (with_reducible refine Kd.C_drew ?_)))
                (case side2 => exact HC439_2.out)
                rintro e w20 ⟨v443, rfl, ho0, hb⟩
                refine ⟨_, rfl, ?_⟩
                have n0_ := X1 (Kd.N_lower (Kd.N_mono (ok' := fun k_ => (w.heap.size ≤ k_) ∧ k_ ≠ gb437 ∧ k_ ≠ gb438 ∧ k_ ≠ gb452) ho0 (fun k_ hk_ => ⟨(Nat.le_trans (below_size (by repeat (first | (with_reducible first | exact HB.out | apply X5 | apply X4 | apply X3 | refine X10 ?_ GE437.out | refine X10 ?_ GE438.out | refine X10 ?_ GE452.out) | exact HB.out))) hk_), (Kd.freshB (g := gb437) (o := .cells #[.int .i64 a0_0, .int .i64 a0_1, .slice (some ad439) l0_2.length c0_2] 29 (0, 0)) (by (with_reducible repeat (first | refine X7 ?_ _ | refine X8 ?_ | refine X6 ?_ _)); exact BK437.out) k_ hk_), (Kd.freshB (g := gb438) (o := .cells #[.int .i64 0, .int .i64 0, .slice none 0 0] 29 (0, 0)) (by (with_reducible repeat (first | refine X7 ?_ _ | refine X8 ?_ | refine X6 ?_ _)); exact BK438.out) k_ hk_), (Kd.freshB (g := gb452) (o := .cells #[.int .i64 0, .int .i64 0, .slice none 0 0] 29 (0, 0)) (by (with_reducible repeat (first | refine X7 ?_ _ | refine X8 ?_ | refine X6 ?_ _)); exact BK452.out) k_ hk_)⟩)) (below_size (by repeat (first | (with_reducible first | exact HB.out | apply X5 | apply X4 | apply X3 | refine X10 ?_ GE437.out | refine X10 ?_ GE438.out | refine X10 ?_ GE452.out) | exact HB.out))))
                have n1_ := X1 (blk_below (g := gb437) (o := .cells #[.int .i64 a0_0, .int .i64 a0_1, .slice (some ad439) l0_2.length c0_2] 29 (0, 0)) (by (with_reducible repeat (first | refine X7 ?_ _ | refine X8 ?_ | refine X6 ?_ _)); exact BK437.out) hb)
                have n2_ := X1 (blk_below (g := gb438) (o := .cells #[.int .i64 0, .int .i64 0, .slice none 0 0] 29 (0, 0)) (by (with_reducible repeat (first | refine X7 ?_ _ | refine X8 ?_ | refine X6 ?_ _)); exact BK438.out) hb)
                have n3_ := X1 (blk_below (g := gb452) (o := .cells #[.int .i64 0, .int .i64 0, .slice none 0 0] 29 (0, 0)) (by (with_reducible repeat (first | refine X7 ?_ _ | refine X8 ?_ | refine X6 ?_ _)); exact BK452.out) hb)
                have n4_ := X1 (below_step (by repeat (first | (with_reducible first | exact HB.out | apply X5 | apply X4 | apply X3 | refine X10 ?_ GE437.out | refine X10 ?_ GE438.out | refine X10 ?_ GE452.out) | exact HB.out)) hb)
                clear BK437
                clear BK438
                clear BK452
                clear HB
                have HO444 := n0_
                have BK437 := n1_
                have BK438 := n2_
                have BK452 := n3_
                have HB := n4_
                clear n0_ n1_ n2_ n3_ n4_
                (try clear hb)
                (try clear hb2)
                (try clear hk)
                (try clear hi)
                (try clear ho0)
                refine hK.out _ _ ⟨(X11 BK437.out 0).trans rfl, (X11 BK437.out 1).trans rfl, (X11 BK437.out 2).trans rfl, ((HB.out.cell (X9 w _ hw439_0)).trans hw439_0), ((HB.out.cell (X9 w _ hw439_1)).trans hw439_1), ((HB.out.cell (X9 w _ hw439_2)).trans hw439_2), ((HB.out.cell (X9 w _ hw445_0)).trans hw445_0), ((HB.out.cell (X9 w _ hw445_1)).trans hw445_1), ((HB.out.cell (X9 w _ hw445_2)).trans hw445_2)⟩ (fun hHeld => ?_)
                clear hK K
                refine norm_ (a' := ?_) ?_ ?_
                rotate_left
                ·show Act.put _ (some 19) _ = _
                 simp only [Act.put, List.setIfInBounds_toArray, List.set_cons_zero, List.set_cons_succ, i64_w, i32_w]
                 rfl
                exact norm_ (by first | (simp only [putAll, Act.put, List.setIfInBounds_toArray, List.set_cons_zero, List.set_cons_succ]; done) | (simp only [putAll, Act.put, List.setIfInBounds_toArray, List.set_cons_zero, List.set_cons_succ]; rfl)) (hJ4_11 (v443, gb452) _ ⟨hHeld, (by (with_reducible repeat (first | apply Kd.N_alloc | apply Kd.N_drewN | apply Kd.N_drew)); exact HO444.out), (by (with_reducible repeat (first | refine X7 ?_ _ | refine X8 ?_ | refine X6 ?_ _)); exact BK437.out), (by (with_reducible repeat (first | refine X7 ?_ _ | refine X8 ?_ | refine X6 ?_ _)); exact BK438.out), (by (with_reducible repeat (first | refine X7 ?_ _ | refine X8 ?_ | refine X6 ?_ _)); exact BK452.out), GW452.out, GE452.out, NB437_452.out, NB452_437.out, NB438_452.out, NB452_438.out, (by repeat (first | (with_reducible first | exact HB.out | apply X5 | apply X4 | apply X3 | refine X10 ?_ GE437.out | refine X10 ?_ GE438.out | refine X10 ?_ GE452.out) | exact HB.out))⟩)
               ·skip
                refine box_step ?hg (N := 3) ?hd (cs := #[.int .i64 0, .int .i64 0, .slice none 0 0]) (t := 29) ?hr ?_; (case hd => rfl); (case hg => rfl); (case hr => first | (go_simp; done) | (go_simp; rfl))
                intro gb451 hg w20 hbox hb
                have n0_ := X1 (blk_below (g := gb437) (o := .cells #[.int .i64 a0_0, .int .i64 a0_1, .slice (some ad439) l0_2.length c0_2] 29 (0, 0)) (by (with_reducible repeat (first | refine X7 ?_ _ | refine X8 ?_ | refine X6 ?_ _)); exact BK437.out) hb)
                have n1_ := X1 (blk_below (g := gb438) (o := .cells #[.int .i64 0, .int .i64 0, .slice none 0 0] 29 (0, 0)) (by (with_reducible repeat (first | refine X7 ?_ _ | refine X8 ?_ | refine X6 ?_ _)); exact BK438.out) hb)
                have n2_ := X1 (blk_below (g := gb452) (o := .cells #[.int .i64 0, .int .i64 0, .slice none 0 0] 29 (0, 0)) (by (with_reducible repeat (first | refine X7 ?_ _ | refine X8 ?_ | refine X6 ?_ _)); exact BK452.out) hb)
                have n3_ := X1 (below_step (by repeat (first | (with_reducible first | exact HB.out | apply X5 | apply X4 | apply X3 | refine X10 ?_ GE437.out | refine X10 ?_ GE438.out | refine X10 ?_ GE452.out) | exact HB.out)) hb)
                have n4_ := X1 (hbox)
                have n5_ := X1 ((by rw [hg]; exact (below_size (by repeat (first | (with_reducible first | exact HB.out | apply X5 | apply X4 | apply X3 | refine X10 ?_ GE437.out | refine X10 ?_ GE438.out | refine X10 ?_ GE452.out) | exact HB.out))) : w.heap.size ≤ gb451))
                have n6_ := X1 ((by rw [hg]; exact (below_size (by repeat (first | (with_reducible first | exact HB.out | apply X5 | apply X4 | apply X3 | refine X10 ?_ GE437.out | refine X10 ?_ GE438.out | refine X10 ?_ GE452.out) | exact HB.out))) : w.heap.size ≤ gb451))
                have n7_ := X1 ((by rw [hg]; exact Nat.ne_of_lt (blk_lt (g := gb437) (o := .cells #[.int .i64 a0_0, .int .i64 a0_1, .slice (some ad439) l0_2.length c0_2] 29 (0, 0)) (by (with_reducible repeat (first | refine X7 ?_ _ | refine X8 ?_ | refine X6 ?_ _)); exact BK437.out)) : gb437 ≠ gb451))
                have n8_ := X1 ((by rw [hg]; exact Nat.ne_of_gt (blk_lt (g := gb437) (o := .cells #[.int .i64 a0_0, .int .i64 a0_1, .slice (some ad439) l0_2.length c0_2] 29 (0, 0)) (by (with_reducible repeat (first | refine X7 ?_ _ | refine X8 ?_ | refine X6 ?_ _)); exact BK437.out)) : gb451 ≠ gb437))
                have n9_ := X1 ((by rw [hg]; exact Nat.ne_of_lt (blk_lt (g := gb438) (o := .cells #[.int .i64 0, .int .i64 0, .slice none 0 0] 29 (0, 0)) (by (with_reducible repeat (first | refine X7 ?_ _ | refine X8 ?_ | refine X6 ?_ _)); exact BK438.out)) : gb438 ≠ gb451))
                have n10_ := X1 ((by rw [hg]; exact Nat.ne_of_gt (blk_lt (g := gb438) (o := .cells #[.int .i64 0, .int .i64 0, .slice none 0 0] 29 (0, 0)) (by (with_reducible repeat (first | refine X7 ?_ _ | refine X8 ?_ | refine X6 ?_ _)); exact BK438.out)) : gb451 ≠ gb438))
                have n11_ := X1 ((by rw [hg]; exact Nat.ne_of_lt (blk_lt (g := gb452) (o := .cells #[.int .i64 0, .int .i64 0, .slice none 0 0] 29 (0, 0)) (by (with_reducible repeat (first | refine X7 ?_ _ | refine X8 ?_ | refine X6 ?_ _)); exact BK452.out)) : gb452 ≠ gb451))
                have n12_ := X1 ((by rw [hg]; exact Nat.ne_of_gt (blk_lt (g := gb452) (o := .cells #[.int .i64 0, .int .i64 0, .slice none 0 0] 29 (0, 0)) (by (with_reducible repeat (first | refine X7 ?_ _ | refine X8 ?_ | refine X6 ?_ _)); exact BK452.out)) : gb451 ≠ gb452))
                clear BK437
                clear BK438
                clear BK452
                clear HB
                have BK437 := n0_
                have BK438 := n1_
                have BK452 := n2_
                have HB := n3_
                have BK451 := n4_
                have GW451 := n5_
                have GE451 := n6_
                have NB437_451 := n7_
                have NB451_437 := n8_
                have NB438_451 := n9_
                have NB451_438 := n10_
                have NB452_451 := n11_
                have NB451_452 := n12_
                clear n0_ n1_ n2_ n3_ n4_ n5_ n6_ n7_ n8_ n9_ n10_ n11_ n12_
                clear hb hbox hg
                refine hK.out _ _ ⟨(X11 BK437.out 0).trans rfl, (X11 BK437.out 1).trans rfl, (X11 BK437.out 2).trans rfl, ((HB.out.cell (X9 w _ hw439_0)).trans hw439_0), ((HB.out.cell (X9 w _ hw439_1)).trans hw439_1), ((HB.out.cell (X9 w _ hw439_2)).trans hw439_2), ((HB.out.cell (X9 w _ hw445_0)).trans hw445_0), ((HB.out.cell (X9 w _ hw445_1)).trans hw445_1), ((HB.out.cell (X9 w _ hw445_2)).trans hw445_2)⟩ (fun hHeld => ?_)
                clear hK K
                refine norm_ (a' := ?_) ?_ ?_
                rotate_left
                ·show Act.put _ (some 3) _ = _
                 simp only [Act.put, List.setIfInBounds_toArray, List.set_cons_zero, List.set_cons_succ, i64_w, i32_w]
                 rfl
                exact norm_ (by first | (simp only [putAll, Act.put, List.setIfInBounds_toArray, List.set_cons_zero, List.set_cons_succ]; done) | (simp only [putAll, Act.put, List.setIfInBounds_toArray, List.set_cons_zero, List.set_cons_succ]; rfl)) (hJ10_11 (gb451, gb452) _ ⟨hHeld, (by (with_reducible repeat (first | refine X7 ?_ _ | refine X8 ?_ | refine X6 ?_ _)); exact BK437.out), (by (with_reducible repeat (first | refine X7 ?_ _ | refine X8 ?_ | refine X6 ?_ _)); exact BK438.out), (by (with_reducible repeat (first | refine X7 ?_ _ | refine X8 ?_ | refine X6 ?_ _)); exact BK451.out), (by (with_reducible repeat (first | refine X7 ?_ _ | refine X8 ?_ | refine X6 ?_ _)); exact BK452.out), GW451.out, GE451.out, NB437_451.out, NB451_437.out, NB438_451.out, NB451_438.out, NB452_451.out, NB451_452.out, GW452.out, GE452.out, NB437_452.out, NB452_437.out, NB438_452.out, NB452_438.out, (by repeat (first | (with_reducible first | exact HB.out | apply X5 | apply X4 | apply X3 | refine X10 ?_ GE437.out | refine X10 ?_ GE438.out | refine X10 ?_ GE452.out | refine X10 ?_ GE451.out) | exact HB.out))⟩)
             ·skip
              rintro gb451 w19 ⟨hS_, h0_, h1_, h2_, h3_, h4_, h5_, h6_, h7_, h8_, h9_⟩
              have n0_ : Aside0 (w19.heap[gb437]? = some (.cells #[.int .i64 a0_0, .int .i64 a0_1, .slice (some ad439) l0_2.length c0_2] 29 (0, 0))) := ⟨h0_⟩
              have n1_ : Aside0 (w19.heap[gb438]? = some (.cells #[.int .i64 0, .int .i64 0, .slice none 0 0] 29 (0, 0))) := ⟨h1_⟩
              have n2_ : Aside0 (w19.heap[gb451]? = some (.cells #[.int .i64 0, .int .i64 0, .slice none 0 0] 29 (0, 0))) := ⟨h2_⟩
              have n3_ : Aside0 (w.heap.size ≤ gb451) := ⟨h3_⟩
              have n4_ : Aside0 (w.heap.size ≤ gb451) := ⟨h4_⟩
              have n5_ : Aside0 (gb437 ≠ gb451) := ⟨h5_⟩
              have n6_ : Aside0 (gb451 ≠ gb437) := ⟨h6_⟩
              have n7_ : Aside0 (gb438 ≠ gb451) := ⟨h7_⟩
              have n8_ : Aside0 (gb451 ≠ gb438) := ⟨h8_⟩
              have n9_ : Aside0 (Below w.heap.size w w19) := ⟨h9_⟩
              clear BK437
              clear BK438
              clear HB
              clear h0_ h1_ h2_ h3_ h4_ h5_ h6_ h7_ h8_ h9_
              have BK437 := n0_
              have BK438 := n1_
              have BK451 := n2_
              have GW451 := n3_
              have GE451 := n4_
              have NB437_451 := n5_
              have NB451_437 := n6_
              have NB438_451 := n7_
              have NB451_438 := n8_
              have HB := n9_
              clear n0_ n1_ n2_ n3_ n4_ n5_ n6_ n7_ n8_ n9_
              have hHeld : w19.cell? ⟨gb437, 0, none⟩ = some (.int .i64 a0_0) ∧ w19.cell? ⟨gb437, 1, none⟩ = some (.int .i64 a0_1) ∧ w19.cell? ⟨gb437, 2, none⟩ = some (.slice (some ad439) l0_2.length c0_2) ∧ w19.cell? ad439 = some (.int .i64 ((rd_T29 l0_2 0).f0)) ∧ w19.cell? ⟨ad439.block, ad439.off + 1, none⟩ = some (.int .i64 ((rd_T29 l0_2 0).f1)) ∧ w19.cell? ⟨ad439.block, ad439.off + 2, none⟩ = some (.slice A439_2 ((rd_T29 l0_2 0).f2).length c439_2) ∧ w19.cell? ⟨ad439.block, ad439.off + 3, none⟩ = some (.int .i64 ((rd_T29 l0_2 1).f0)) ∧ w19.cell? ⟨ad439.block, ad439.off + 3 + 1, none⟩ = some (.int .i64 ((rd_T29 l0_2 1).f1)) ∧ w19.cell? ⟨ad439.block, ad439.off + 3 + 2, none⟩ = some (.slice A445_2 ((rd_T29 l0_2 1).f2).length c445_2) := hS_
              refine norm_ (a' := ?_) ?_ ?_
              rotate_left
              ·simp only [putAll, Act.put, List.setIfInBounds_toArray, List.set_cons_zero, List.set_cons_succ]
               rfl
              refine two_ (i := 4) (j := 11) (Ni := some 19) (Nj := some 4) #[true, true, true, true, true, true, true, true, true, false, true, false, false, false] #[true, true, true, true, false, true, true, true, true, false, true, true, false, false] rfl rfl rfl rfl (two_of HT_.out (by kernel_rfl)) (by decide) (by decide) (fun K hK => ?_) (fun K hK => ?_)
              ·skip
               refine goes_ Try.func49 (by kernel_rfl) rfl #[.agg #[.int .i64 ((rd_T29 l0_2 0).f0), .int .i64 ((rd_T29 l0_2 0).f1), .slice A439_2 ((rd_T29 l0_2 0).f2).length c439_2]] (by rfl) rfl rfl (by (try simp only [List.map_toArray, List.map_cons, List.map_nil]); first | done | rfl | (simp only [List.length_drop, List.length_take]; rfl)) ?_
               with_reducible refine (ih k (by omega) ((rd_T29 l0_2 0).f0) ((rd_T29 l0_2 0).f1) _ _ ((rd_T29 l0_2 0).f2) t440 t441 t442 _ ?side1 ?side2 A9.out).mono ?_
               (case side1 => repeat (first | exact (Kd.C_below HR439_2.out HB.out) | (with_reducible refine Kd.C_alloc ?_ _) | (with_reducible refine Kd.C_drewN ?_ _) | (with_reducible refine Kd.C_drew ?_)))
               (case side2 => exact HC439_2.out)
               rintro e w20 ⟨v443, rfl, ho0, hb⟩
               refine ⟨_, rfl, ?_⟩
               have n0_ := X1 (Kd.N_lower (Kd.N_mono (ok' := fun k_ => (w.heap.size ≤ k_) ∧ k_ ≠ gb437 ∧ k_ ≠ gb438 ∧ k_ ≠ gb451) ho0 (fun k_ hk_ => ⟨(Nat.le_trans (below_size (by repeat (first | (with_reducible first | exact HB.out | apply X5 | apply X4 | apply X3 | refine X10 ?_ GE437.out | refine X10 ?_ GE438.out | refine X10 ?_ GE451.out) | exact HB.out))) hk_), (Kd.freshB (g := gb437) (o := .cells #[.int .i64 a0_0, .int .i64 a0_1, .slice (some ad439) l0_2.length c0_2] 29 (0, 0)) (by (with_reducible repeat (first | refine X7 ?_ _ | refine X8 ?_ | refine X6 ?_ _)); exact BK437.out) k_ hk_), (Kd.freshB (g := gb438) (o := .cells #[.int .i64 0, .int .i64 0, .slice none 0 0] 29 (0, 0)) (by (with_reducible repeat (first | refine X7 ?_ _ | refine X8 ?_ | refine X6 ?_ _)); exact BK438.out) k_ hk_), (Kd.freshB (g := gb451) (o := .cells #[.int .i64 0, .int .i64 0, .slice none 0 0] 29 (0, 0)) (by (with_reducible repeat (first | refine X7 ?_ _ | refine X8 ?_ | refine X6 ?_ _)); exact BK451.out) k_ hk_)⟩)) (below_size (by repeat (first | (with_reducible first | exact HB.out | apply X5 | apply X4 | apply X3 | refine X10 ?_ GE437.out | refine X10 ?_ GE438.out | refine X10 ?_ GE451.out) | exact HB.out))))
               have n1_ := X1 (blk_below (g := gb437) (o := .cells #[.int .i64 a0_0, .int .i64 a0_1, .slice (some ad439) l0_2.length c0_2] 29 (0, 0)) (by (with_reducible repeat (first | refine X7 ?_ _ | refine X8 ?_ | refine X6 ?_ _)); exact BK437.out) hb)
               have n2_ := X1 (blk_below (g := gb438) (o := .cells #[.int .i64 0, .int .i64 0, .slice none 0 0] 29 (0, 0)) (by (with_reducible repeat (first | refine X7 ?_ _ | refine X8 ?_ | refine X6 ?_ _)); exact BK438.out) hb)
               have n3_ := X1 (blk_below (g := gb451) (o := .cells #[.int .i64 0, .int .i64 0, .slice none 0 0] 29 (0, 0)) (by (with_reducible repeat (first | refine X7 ?_ _ | refine X8 ?_ | refine X6 ?_ _)); exact BK451.out) hb)
               have n4_ := X1 (below_step (by repeat (first | (with_reducible first | exact HB.out | apply X5 | apply X4 | apply X3 | refine X10 ?_ GE437.out | refine X10 ?_ GE438.out | refine X10 ?_ GE451.out) | exact HB.out)) hb)
               clear BK437
               clear BK438
               clear BK451
               clear HB
               have HO444 := n0_
               have BK437 := n1_
               have BK438 := n2_
               have BK451 := n3_
               have HB := n4_
               clear n0_ n1_ n2_ n3_ n4_
               (try clear hb)
               (try clear hb2)
               (try clear hk)
               (try clear hi)
               (try clear ho0)
               refine hK.out _ _ ⟨(X11 BK437.out 0).trans rfl, (X11 BK437.out 1).trans rfl, (X11 BK437.out 2).trans rfl, ((HB.out.cell (X9 w _ hw439_0)).trans hw439_0), ((HB.out.cell (X9 w _ hw439_1)).trans hw439_1), ((HB.out.cell (X9 w _ hw439_2)).trans hw439_2), ((HB.out.cell (X9 w _ hw445_0)).trans hw445_0), ((HB.out.cell (X9 w _ hw445_1)).trans hw445_1), ((HB.out.cell (X9 w _ hw445_2)).trans hw445_2)⟩ (fun hHeld => ?_)
               clear hK K
               refine norm_ (a' := ?_) ?_ ?_
               rotate_left
               ·show Act.put _ (some 19) _ = _
                simp only [Act.put, List.setIfInBounds_toArray, List.set_cons_zero, List.set_cons_succ, i64_w, i32_w]
                rfl
               exact norm_ (by first | (simp only [putAll, Act.put, List.setIfInBounds_toArray, List.set_cons_zero, List.set_cons_succ]; done) | (simp only [putAll, Act.put, List.setIfInBounds_toArray, List.set_cons_zero, List.set_cons_succ]; rfl)) (hJ4_10 (v443, gb451) _ ⟨hHeld, (by (with_reducible repeat (first | apply Kd.N_alloc | apply Kd.N_drewN | apply Kd.N_drew)); exact HO444.out), (by (with_reducible repeat (first | refine X7 ?_ _ | refine X8 ?_ | refine X6 ?_ _)); exact BK437.out), (by (with_reducible repeat (first | refine X7 ?_ _ | refine X8 ?_ | refine X6 ?_ _)); exact BK438.out), (by (with_reducible repeat (first | refine X7 ?_ _ | refine X8 ?_ | refine X6 ?_ _)); exact BK451.out), GW451.out, GE451.out, NB437_451.out, NB451_437.out, NB438_451.out, NB451_438.out, (by repeat (first | (with_reducible first | exact HB.out | apply X5 | apply X4 | apply X3 | refine X10 ?_ GE437.out | refine X10 ?_ GE438.out | refine X10 ?_ GE451.out) | exact HB.out))⟩)
              ·skip
               refine box_step ?hg (N := 4) ?hd (cs := #[.int .i64 0, .int .i64 0, .slice none 0 0]) (t := 29) ?hr ?_; (case hd => rfl); (case hg => rfl); (case hr => first | (go_simp; done) | (go_simp; rfl))
               intro gb452 hg w20 hbox hb
               have n0_ := X1 (blk_below (g := gb437) (o := .cells #[.int .i64 a0_0, .int .i64 a0_1, .slice (some ad439) l0_2.length c0_2] 29 (0, 0)) (by (with_reducible repeat (first | refine X7 ?_ _ | refine X8 ?_ | refine X6 ?_ _)); exact BK437.out) hb)
               have n1_ := X1 (blk_below (g := gb438) (o := .cells #[.int .i64 0, .int .i64 0, .slice none 0 0] 29 (0, 0)) (by (with_reducible repeat (first | refine X7 ?_ _ | refine X8 ?_ | refine X6 ?_ _)); exact BK438.out) hb)
               have n2_ := X1 (blk_below (g := gb451) (o := .cells #[.int .i64 0, .int .i64 0, .slice none 0 0] 29 (0, 0)) (by (with_reducible repeat (first | refine X7 ?_ _ | refine X8 ?_ | refine X6 ?_ _)); exact BK451.out) hb)
               have n3_ := X1 (below_step (by repeat (first | (with_reducible first | exact HB.out | apply X5 | apply X4 | apply X3 | refine X10 ?_ GE437.out | refine X10 ?_ GE438.out | refine X10 ?_ GE451.out) | exact HB.out)) hb)
               have n4_ := X1 (hbox)
               have n5_ := X1 ((by rw [hg]; exact (below_size (by repeat (first | (with_reducible first | exact HB.out | apply X5 | apply X4 | apply X3 | refine X10 ?_ GE437.out | refine X10 ?_ GE438.out | refine X10 ?_ GE451.out) | exact HB.out))) : w.heap.size ≤ gb452))
               have n6_ := X1 ((by rw [hg]; exact (below_size (by repeat (first | (with_reducible first | exact HB.out | apply X5 | apply X4 | apply X3 | refine X10 ?_ GE437.out | refine X10 ?_ GE438.out | refine X10 ?_ GE451.out) | exact HB.out))) : w.heap.size ≤ gb452))
               have n7_ := X1 ((by rw [hg]; exact Nat.ne_of_lt (blk_lt (g := gb437) (o := .cells #[.int .i64 a0_0, .int .i64 a0_1, .slice (some ad439) l0_2.length c0_2] 29 (0, 0)) (by (with_reducible repeat (first | refine X7 ?_ _ | refine X8 ?_ | refine X6 ?_ _)); exact BK437.out)) : gb437 ≠ gb452))
               have n8_ := X1 ((by rw [hg]; exact Nat.ne_of_gt (blk_lt (g := gb437) (o := .cells #[.int .i64 a0_0, .int .i64 a0_1, .slice (some ad439) l0_2.length c0_2] 29 (0, 0)) (by (with_reducible repeat (first | refine X7 ?_ _ | refine X8 ?_ | refine X6 ?_ _)); exact BK437.out)) : gb452 ≠ gb437))
               have n9_ := X1 ((by rw [hg]; exact Nat.ne_of_lt (blk_lt (g := gb438) (o := .cells #[.int .i64 0, .int .i64 0, .slice none 0 0] 29 (0, 0)) (by (with_reducible repeat (first | refine X7 ?_ _ | refine X8 ?_ | refine X6 ?_ _)); exact BK438.out)) : gb438 ≠ gb452))
               have n10_ := X1 ((by rw [hg]; exact Nat.ne_of_gt (blk_lt (g := gb438) (o := .cells #[.int .i64 0, .int .i64 0, .slice none 0 0] 29 (0, 0)) (by (with_reducible repeat (first | refine X7 ?_ _ | refine X8 ?_ | refine X6 ?_ _)); exact BK438.out)) : gb452 ≠ gb438))
               have n11_ := X1 ((by rw [hg]; exact Nat.ne_of_lt (blk_lt (g := gb451) (o := .cells #[.int .i64 0, .int .i64 0, .slice none 0 0] 29 (0, 0)) (by (with_reducible repeat (first | refine X7 ?_ _ | refine X8 ?_ | refine X6 ?_ _)); exact BK451.out)) : gb451 ≠ gb452))
               have n12_ := X1 ((by rw [hg]; exact Nat.ne_of_gt (blk_lt (g := gb451) (o := .cells #[.int .i64 0, .int .i64 0, .slice none 0 0] 29 (0, 0)) (by (with_reducible repeat (first | refine X7 ?_ _ | refine X8 ?_ | refine X6 ?_ _)); exact BK451.out)) : gb452 ≠ gb451))
               clear BK437
               clear BK438
               clear BK451
               clear HB
               have BK437 := n0_
               have BK438 := n1_
               have BK451 := n2_
               have HB := n3_
               have BK452 := n4_
               have GW452 := n5_
               have GE452 := n6_
               have NB437_452 := n7_
               have NB452_437 := n8_
               have NB438_452 := n9_
               have NB452_438 := n10_
               have NB451_452 := n11_
               have NB452_451 := n12_
               clear n0_ n1_ n2_ n3_ n4_ n5_ n6_ n7_ n8_ n9_ n10_ n11_ n12_
               clear hb hbox hg
               refine hK.out _ _ ⟨(X11 BK437.out 0).trans rfl, (X11 BK437.out 1).trans rfl, (X11 BK437.out 2).trans rfl, ((HB.out.cell (X9 w _ hw439_0)).trans hw439_0), ((HB.out.cell (X9 w _ hw439_1)).trans hw439_1), ((HB.out.cell (X9 w _ hw439_2)).trans hw439_2), ((HB.out.cell (X9 w _ hw445_0)).trans hw445_0), ((HB.out.cell (X9 w _ hw445_1)).trans hw445_1), ((HB.out.cell (X9 w _ hw445_2)).trans hw445_2)⟩ (fun hHeld => ?_)
               clear hK K
               refine norm_ (a' := ?_) ?_ ?_
               rotate_left
               ·show Act.put _ (some 4) _ = _
                simp only [Act.put, List.setIfInBounds_toArray, List.set_cons_zero, List.set_cons_succ, i64_w, i32_w]
                rfl
               exact norm_ (by first | (simp only [putAll, Act.put, List.setIfInBounds_toArray, List.set_cons_zero, List.set_cons_succ]; done) | (simp only [putAll, Act.put, List.setIfInBounds_toArray, List.set_cons_zero, List.set_cons_succ]; rfl)) (hJ10_11 (gb451, gb452) _ ⟨hHeld, (by (with_reducible repeat (first | refine X7 ?_ _ | refine X8 ?_ | refine X6 ?_ _)); exact BK437.out), (by (with_reducible repeat (first | refine X7 ?_ _ | refine X8 ?_ | refine X6 ?_ _)); exact BK438.out), (by (with_reducible repeat (first | refine X7 ?_ _ | refine X8 ?_ | refine X6 ?_ _)); exact BK451.out), (by (with_reducible repeat (first | refine X7 ?_ _ | refine X8 ?_ | refine X6 ?_ _)); exact BK452.out), GW451.out, GE451.out, NB437_451.out, NB451_437.out, NB438_451.out, NB451_438.out, NB452_451.out, NB451_452.out, GW452.out, GE452.out, NB437_452.out, NB452_437.out, NB438_452.out, NB452_438.out, (by repeat (first | (with_reducible first | exact HB.out | apply X5 | apply X4 | apply X3 | refine X10 ?_ GE437.out | refine X10 ?_ GE438.out | refine X10 ?_ GE451.out | refine X10 ?_ GE452.out) | exact HB.out))⟩)
            ·skip
             rintro v443 w19 ⟨hS_, h0_, h1_, h2_, h3_⟩
             have n0_ : Aside0 (Kd.N k29 29 w19 w.heap.size (fun k_ => (w.heap.size ≤ k_) ∧ k_ ≠ gb437 ∧ k_ ≠ gb438) v443 t442) := ⟨h0_⟩
             have n1_ : Aside0 (w19.heap[gb437]? = some (.cells #[.int .i64 a0_0, .int .i64 a0_1, .slice (some ad439) l0_2.length c0_2] 29 (0, 0))) := ⟨h1_⟩
             have n2_ : Aside0 (w19.heap[gb438]? = some (.cells #[.int .i64 0, .int .i64 0, .slice none 0 0] 29 (0, 0))) := ⟨h2_⟩
             have n3_ : Aside0 (Below w.heap.size w w19) := ⟨h3_⟩
             clear BK437
             clear BK438
             clear HB
             clear h0_ h1_ h2_ h3_
             have HO444 := n0_
             have BK437 := n1_
             have BK438 := n2_
             have HB := n3_
             clear n0_ n1_ n2_ n3_
             have hHeld : w19.cell? ⟨gb437, 0, none⟩ = some (.int .i64 a0_0) ∧ w19.cell? ⟨gb437, 1, none⟩ = some (.int .i64 a0_1) ∧ w19.cell? ⟨gb437, 2, none⟩ = some (.slice (some ad439) l0_2.length c0_2) ∧ w19.cell? ad439 = some (.int .i64 ((rd_T29 l0_2 0).f0)) ∧ w19.cell? ⟨ad439.block, ad439.off + 1, none⟩ = some (.int .i64 ((rd_T29 l0_2 0).f1)) ∧ w19.cell? ⟨ad439.block, ad439.off + 2, none⟩ = some (.slice A439_2 ((rd_T29 l0_2 0).f2).length c439_2) ∧ w19.cell? ⟨ad439.block, ad439.off + 3, none⟩ = some (.int .i64 ((rd_T29 l0_2 1).f0)) ∧ w19.cell? ⟨ad439.block, ad439.off + 3 + 1, none⟩ = some (.int .i64 ((rd_T29 l0_2 1).f1)) ∧ w19.cell? ⟨ad439.block, ad439.off + 3 + 2, none⟩ = some (.slice A445_2 ((rd_T29 l0_2 1).f2).length c445_2) := hS_
             refine norm_ (a' := ?_) ?_ ?_
             rotate_left
             ·simp only [putAll, Act.put, List.setIfInBounds_toArray, List.set_cons_zero, List.set_cons_succ]
              rfl
             refine three_ (i := 9) (j := 10) (k := 11) (Ni := some 24) (Nj := some 3) (Nk := some 4) #[true, true, true, true, true, true, true, true, true, true, false, false, false, false] #[true, true, true, true, true, true, true, true, true, false, true, false, false, false] #[true, true, true, true, true, true, true, true, true, false, false, true, false, false] rfl rfl rfl rfl rfl rfl (three_of HT_.out (by kernel_rfl)) (by decide) (by decide) (by decide) (fun K hK => ?_) (fun K hK => ?_) (fun K hK => ?_)
             ·skip
              refine goes_ Try.func49 (by kernel_rfl) rfl #[.agg #[.int .i64 ((rd_T29 l0_2 1).f0), .int .i64 ((rd_T29 l0_2 1).f1), .slice A445_2 ((rd_T29 l0_2 1).f2).length c445_2]] (by rfl) rfl rfl (by (try simp only [List.map_toArray, List.map_cons, List.map_nil]); first | done | rfl | (simp only [List.length_drop, List.length_take]; rfl)) ?_
              with_reducible refine (ih k (by omega) ((rd_T29 l0_2 1).f0) ((rd_T29 l0_2 1).f1) _ _ ((rd_T29 l0_2 1).f2) t446 t447 t448 _ ?side1 ?side2 A11.out).mono ?_
              (case side1 => repeat (first | exact (Kd.C_below HR445_2.out HB.out) | (with_reducible refine Kd.C_alloc ?_ _) | (with_reducible refine Kd.C_drewN ?_ _) | (with_reducible refine Kd.C_drew ?_)))
              (case side2 => exact HC445_2.out)
              rintro e w20 ⟨v449, rfl, ho0, hb⟩
              refine ⟨_, rfl, ?_⟩
              have n0_ := X1 (Kd.N_elder' (by (with_reducible repeat (first | apply Kd.N_alloc | apply Kd.N_drewN | apply Kd.N_drew)); exact HO444.out) (by first | exact Kd.N_base ho0 | exact Kd.R_base ho0) hb)
              have n1_ := X1 (Kd.N_lower (Kd.N_mono (ok' := fun k_ => (w.heap.size ≤ k_) ∧ some k_ ≠ (v443 : Value).ownBlock ∧ k_ ≠ gb437 ∧ k_ ≠ gb438) ho0 (fun k_ hk_ => ⟨(Nat.le_trans (below_size (by repeat (first | (with_reducible first | exact HB.out | apply X5 | apply X4 | apply X3 | refine X10 ?_ GE437.out | refine X10 ?_ GE438.out) | exact HB.out))) hk_), (Kd.fresh' (Kd.N_lt (by (with_reducible repeat (first | apply Kd.N_alloc | apply Kd.N_drewN | apply Kd.N_drew)); exact HO444.out)) k_ hk_), (Kd.freshB (g := gb437) (o := .cells #[.int .i64 a0_0, .int .i64 a0_1, .slice (some ad439) l0_2.length c0_2] 29 (0, 0)) (by (with_reducible repeat (first | refine X7 ?_ _ | refine X8 ?_ | refine X6 ?_ _)); exact BK437.out) k_ hk_), (Kd.freshB (g := gb438) (o := .cells #[.int .i64 0, .int .i64 0, .slice none 0 0] 29 (0, 0)) (by (with_reducible repeat (first | refine X7 ?_ _ | refine X8 ?_ | refine X6 ?_ _)); exact BK438.out) k_ hk_)⟩)) (below_size (by repeat (first | (with_reducible first | exact HB.out | apply X5 | apply X4 | apply X3 | refine X10 ?_ GE437.out | refine X10 ?_ GE438.out) | exact HB.out))))
              have n2_ := X1 (blk_below (g := gb437) (o := .cells #[.int .i64 a0_0, .int .i64 a0_1, .slice (some ad439) l0_2.length c0_2] 29 (0, 0)) (by (with_reducible repeat (first | refine X7 ?_ _ | refine X8 ?_ | refine X6 ?_ _)); exact BK437.out) hb)
              have n3_ := X1 (blk_below (g := gb438) (o := .cells #[.int .i64 0, .int .i64 0, .slice none 0 0] 29 (0, 0)) (by (with_reducible repeat (first | refine X7 ?_ _ | refine X8 ?_ | refine X6 ?_ _)); exact BK438.out) hb)
              have n4_ := X1 (below_step (by repeat (first | (with_reducible first | exact HB.out | apply X5 | apply X4 | apply X3 | refine X10 ?_ GE437.out | refine X10 ?_ GE438.out) | exact HB.out)) hb)
              clear HO444
              clear BK437
              clear BK438
              clear HB
              have HO444 := n0_
              have HO450 := n1_
              have BK437 := n2_
              have BK438 := n3_
              have HB := n4_
              clear n0_ n1_ n2_ n3_ n4_
              (try clear hb)
              (try clear hb2)
              (try clear hk)
              (try clear hi)
              (try clear ho0)
              refine hK.out _ _ ⟨(X11 BK437.out 0).trans rfl, (X11 BK437.out 1).trans rfl, (X11 BK437.out 2).trans rfl, ((HB.out.cell (X9 w _ hw439_0)).trans hw439_0), ((HB.out.cell (X9 w _ hw439_1)).trans hw439_1), ((HB.out.cell (X9 w _ hw439_2)).trans hw439_2), ((HB.out.cell (X9 w _ hw445_0)).trans hw445_0), ((HB.out.cell (X9 w _ hw445_1)).trans hw445_1), ((HB.out.cell (X9 w _ hw445_2)).trans hw445_2)⟩ (fun hHeld => ?_)
              clear hK K
              refine norm_ (a' := ?_) ?_ ?_
              rotate_left
              ·show Act.put _ (some 24) _ = _
               simp only [Act.put, List.setIfInBounds_toArray, List.set_cons_zero, List.set_cons_succ, i64_w, i32_w]
               rfl
              exact norm_ (by first | (simp only [putAll, Act.put, List.setIfInBounds_toArray, List.set_cons_zero, List.set_cons_succ]; done) | (simp only [putAll, Act.put, List.setIfInBounds_toArray, List.set_cons_zero, List.set_cons_succ]; rfl)) (hJ4_9 (v443, v449) _ ⟨hHeld, (by (with_reducible repeat (first | apply Kd.N_alloc | apply Kd.N_drewN | apply Kd.N_drew)); exact Kd.N_mono HO444.out (fun _ hk => ⟨hk.1.1, ⟨hk.2, ⟨hk.1.2.1, hk.1.2.2⟩⟩⟩)), (by (with_reducible repeat (first | apply Kd.N_alloc | apply Kd.N_drewN | apply Kd.N_drew)); exact HO450.out), (by (with_reducible repeat (first | refine X7 ?_ _ | refine X8 ?_ | refine X6 ?_ _)); exact BK437.out), (by (with_reducible repeat (first | refine X7 ?_ _ | refine X8 ?_ | refine X6 ?_ _)); exact BK438.out), (by repeat (first | (with_reducible first | exact HB.out | apply X5 | apply X4 | apply X3 | refine X10 ?_ GE437.out | refine X10 ?_ GE438.out) | exact HB.out))⟩)
             ·skip
              refine box_step ?hg (N := 3) ?hd (cs := #[.int .i64 0, .int .i64 0, .slice none 0 0]) (t := 29) ?hr ?_; (case hd => rfl); (case hg => rfl); (case hr => first | (go_simp; done) | (go_simp; rfl))
              intro gb451 hg w20 hbox hb
              have n0_ := X1 (Kd.N_below (Kd.N_elderB (by (with_reducible repeat (first | apply Kd.N_alloc | apply Kd.N_drewN | apply Kd.N_drew)); exact HO444.out) gb451 (Nat.le_of_eq hg.symm)) hb)
              have n1_ := X1 (blk_below (g := gb437) (o := .cells #[.int .i64 a0_0, .int .i64 a0_1, .slice (some ad439) l0_2.length c0_2] 29 (0, 0)) (by (with_reducible repeat (first | refine X7 ?_ _ | refine X8 ?_ | refine X6 ?_ _)); exact BK437.out) hb)
              have n2_ := X1 (blk_below (g := gb438) (o := .cells #[.int .i64 0, .int .i64 0, .slice none 0 0] 29 (0, 0)) (by (with_reducible repeat (first | refine X7 ?_ _ | refine X8 ?_ | refine X6 ?_ _)); exact BK438.out) hb)
              have n3_ := X1 (below_step (by repeat (first | (with_reducible first | exact HB.out | apply X5 | apply X4 | apply X3 | refine X10 ?_ GE437.out | refine X10 ?_ GE438.out) | exact HB.out)) hb)
              have n4_ := X1 (hbox)
              have n5_ := X1 ((by rw [hg]; exact (below_size (by repeat (first | (with_reducible first | exact HB.out | apply X5 | apply X4 | apply X3 | refine X10 ?_ GE437.out | refine X10 ?_ GE438.out) | exact HB.out))) : w.heap.size ≤ gb451))
              have n6_ := X1 ((by rw [hg]; exact (below_size (by repeat (first | (with_reducible first | exact HB.out | apply X5 | apply X4 | apply X3 | refine X10 ?_ GE437.out | refine X10 ?_ GE438.out) | exact HB.out))) : w.heap.size ≤ gb451))
              have n7_ := X1 ((by rw [hg]; exact Nat.ne_of_lt (blk_lt (g := gb437) (o := .cells #[.int .i64 a0_0, .int .i64 a0_1, .slice (some ad439) l0_2.length c0_2] 29 (0, 0)) (by (with_reducible repeat (first | refine X7 ?_ _ | refine X8 ?_ | refine X6 ?_ _)); exact BK437.out)) : gb437 ≠ gb451))
              have n8_ := X1 ((by rw [hg]; exact Nat.ne_of_gt (blk_lt (g := gb437) (o := .cells #[.int .i64 a0_0, .int .i64 a0_1, .slice (some ad439) l0_2.length c0_2] 29 (0, 0)) (by (with_reducible repeat (first | refine X7 ?_ _ | refine X8 ?_ | refine X6 ?_ _)); exact BK437.out)) : gb451 ≠ gb437))
              have n9_ := X1 ((by rw [hg]; exact Nat.ne_of_lt (blk_lt (g := gb438) (o := .cells #[.int .i64 0, .int .i64 0, .slice none 0 0] 29 (0, 0)) (by (with_reducible repeat (first | refine X7 ?_ _ | refine X8 ?_ | refine X6 ?_ _)); exact BK438.out)) : gb438 ≠ gb451))
              have n10_ := X1 ((by rw [hg]; exact Nat.ne_of_gt (blk_lt (g := gb438) (o := .cells #[.int .i64 0, .int .i64 0, .slice none 0 0] 29 (0, 0)) (by (with_reducible repeat (first | refine X7 ?_ _ | refine X8 ?_ | refine X6 ?_ _)); exact BK438.out)) : gb451 ≠ gb438))
              clear HO444
              clear BK437
              clear BK438
              clear HB
              have HO444 := n0_
              have BK437 := n1_
              have BK438 := n2_
              have HB := n3_
              have BK451 := n4_
              have GW451 := n5_
              have GE451 := n6_
              have NB437_451 := n7_
              have NB451_437 := n8_
              have NB438_451 := n9_
              have NB451_438 := n10_
              clear n0_ n1_ n2_ n3_ n4_ n5_ n6_ n7_ n8_ n9_ n10_
              clear hb hbox hg
              refine hK.out _ _ ⟨(X11 BK437.out 0).trans rfl, (X11 BK437.out 1).trans rfl, (X11 BK437.out 2).trans rfl, ((HB.out.cell (X9 w _ hw439_0)).trans hw439_0), ((HB.out.cell (X9 w _ hw439_1)).trans hw439_1), ((HB.out.cell (X9 w _ hw439_2)).trans hw439_2), ((HB.out.cell (X9 w _ hw445_0)).trans hw445_0), ((HB.out.cell (X9 w _ hw445_1)).trans hw445_1), ((HB.out.cell (X9 w _ hw445_2)).trans hw445_2)⟩ (fun hHeld => ?_)
              clear hK K
              refine norm_ (a' := ?_) ?_ ?_
              rotate_left
              ·show Act.put _ (some 3) _ = _
               simp only [Act.put, List.setIfInBounds_toArray, List.set_cons_zero, List.set_cons_succ, i64_w, i32_w]
               rfl
              exact norm_ (by first | (simp only [putAll, Act.put, List.setIfInBounds_toArray, List.set_cons_zero, List.set_cons_succ]; done) | (simp only [putAll, Act.put, List.setIfInBounds_toArray, List.set_cons_zero, List.set_cons_succ]; rfl)) (hJ4_10 (v443, gb451) _ ⟨hHeld, (by (with_reducible repeat (first | apply Kd.N_alloc | apply Kd.N_drewN | apply Kd.N_drew)); exact Kd.N_mono HO444.out (fun _ hk => ⟨hk.1.1, ⟨hk.1.2.1, ⟨hk.1.2.2, hk.2⟩⟩⟩)), (by (with_reducible repeat (first | refine X7 ?_ _ | refine X8 ?_ | refine X6 ?_ _)); exact BK437.out), (by (with_reducible repeat (first | refine X7 ?_ _ | refine X8 ?_ | refine X6 ?_ _)); exact BK438.out), (by (with_reducible repeat (first | refine X7 ?_ _ | refine X8 ?_ | refine X6 ?_ _)); exact BK451.out), GW451.out, GE451.out, NB437_451.out, NB451_437.out, NB438_451.out, NB451_438.out, (by repeat (first | (with_reducible first | exact HB.out | apply X5 | apply X4 | apply X3 | refine X10 ?_ GE437.out | refine X10 ?_ GE438.out | refine X10 ?_ GE451.out) | exact HB.out))⟩)
             ·skip
              refine box_step ?hg (N := 4) ?hd (cs := #[.int .i64 0, .int .i64 0, .slice none 0 0]) (t := 29) ?hr ?_; (case hd => rfl); (case hg => rfl); (case hr => first | (go_simp; done) | (go_simp; rfl))
              intro gb452 hg w20 hbox hb
              have n0_ := X1 (Kd.N_below (Kd.N_elderB (by (with_reducible repeat (first | apply Kd.N_alloc | apply Kd.N_drewN | apply Kd.N_drew)); exact HO444.out) gb452 (Nat.le_of_eq hg.symm)) hb)
              have n1_ := X1 (blk_below (g := gb437) (o := .cells #[.int .i64 a0_0, .int .i64 a0_1, .slice (some ad439) l0_2.length c0_2] 29 (0, 0)) (by (with_reducible repeat (first | refine X7 ?_ _ | refine X8 ?_ | refine X6 ?_ _)); exact BK437.out) hb)
              have n2_ := X1 (blk_below (g := gb438) (o := .cells #[.int .i64 0, .int .i64 0, .slice none 0 0] 29 (0, 0)) (by (with_reducible repeat (first | refine X7 ?_ _ | refine X8 ?_ | refine X6 ?_ _)); exact BK438.out) hb)
              have n3_ := X1 (below_step (by repeat (first | (with_reducible first | exact HB.out | apply X5 | apply X4 | apply X3 | refine X10 ?_ GE437.out | refine X10 ?_ GE438.out) | exact HB.out)) hb)
              have n4_ := X1 (hbox)
              have n5_ := X1 ((by rw [hg]; exact (below_size (by repeat (first | (with_reducible first | exact HB.out | apply X5 | apply X4 | apply X3 | refine X10 ?_ GE437.out | refine X10 ?_ GE438.out) | exact HB.out))) : w.heap.size ≤ gb452))
              have n6_ := X1 ((by rw [hg]; exact (below_size (by repeat (first | (with_reducible first | exact HB.out | apply X5 | apply X4 | apply X3 | refine X10 ?_ GE437.out | refine X10 ?_ GE438.out) | exact HB.out))) : w.heap.size ≤ gb452))
              have n7_ := X1 ((by rw [hg]; exact Nat.ne_of_lt (blk_lt (g := gb437) (o := .cells #[.int .i64 a0_0, .int .i64 a0_1, .slice (some ad439) l0_2.length c0_2] 29 (0, 0)) (by (with_reducible repeat (first | refine X7 ?_ _ | refine X8 ?_ | refine X6 ?_ _)); exact BK437.out)) : gb437 ≠ gb452))
              have n8_ := X1 ((by rw [hg]; exact Nat.ne_of_gt (blk_lt (g := gb437) (o := .cells #[.int .i64 a0_0, .int .i64 a0_1, .slice (some ad439) l0_2.length c0_2] 29 (0, 0)) (by (with_reducible repeat (first | refine X7 ?_ _ | refine X8 ?_ | refine X6 ?_ _)); exact BK437.out)) : gb452 ≠ gb437))
              have n9_ := X1 ((by rw [hg]; exact Nat.ne_of_lt (blk_lt (g := gb438) (o := .cells #[.int .i64 0, .int .i64 0, .slice none 0 0] 29 (0, 0)) (by (with_reducible repeat (first | refine X7 ?_ _ | refine X8 ?_ | refine X6 ?_ _)); exact BK438.out)) : gb438 ≠ gb452))
              have n10_ := X1 ((by rw [hg]; exact Nat.ne_of_gt (blk_lt (g := gb438) (o := .cells #[.int .i64 0, .int .i64 0, .slice none 0 0] 29 (0, 0)) (by (with_reducible repeat (first | refine X7 ?_ _ | refine X8 ?_ | refine X6 ?_ _)); exact BK438.out)) : gb452 ≠ gb438))
              clear HO444
              clear BK437
              clear BK438
              clear HB
              have HO444 := n0_
              have BK437 := n1_
              have BK438 := n2_
              have HB := n3_
              have BK452 := n4_
              have GW452 := n5_
              have GE452 := n6_
              have NB437_452 := n7_
              have NB452_437 := n8_
              have NB438_452 := n9_
              have NB452_438 := n10_
              clear n0_ n1_ n2_ n3_ n4_ n5_ n6_ n7_ n8_ n9_ n10_
              clear hb hbox hg
              refine hK.out _ _ ⟨(X11 BK437.out 0).trans rfl, (X11 BK437.out 1).trans rfl, (X11 BK437.out 2).trans rfl, ((HB.out.cell (X9 w _ hw439_0)).trans hw439_0), ((HB.out.cell (X9 w _ hw439_1)).trans hw439_1), ((HB.out.cell (X9 w _ hw439_2)).trans hw439_2), ((HB.out.cell (X9 w _ hw445_0)).trans hw445_0), ((HB.out.cell (X9 w _ hw445_1)).trans hw445_1), ((HB.out.cell (X9 w _ hw445_2)).trans hw445_2)⟩ (fun hHeld => ?_)
              clear hK K
              refine norm_ (a' := ?_) ?_ ?_
              rotate_left
              ·show Act.put _ (some 4) _ = _
               simp only [Act.put, List.setIfInBounds_toArray, List.set_cons_zero, List.set_cons_succ, i64_w, i32_w]
               rfl
              exact norm_ (by first | (simp only [putAll, Act.put, List.setIfInBounds_toArray, List.set_cons_zero, List.set_cons_succ]; done) | (simp only [putAll, Act.put, List.setIfInBounds_toArray, List.set_cons_zero, List.set_cons_succ]; rfl)) (hJ4_11 (v443, gb452) _ ⟨hHeld, (by (with_reducible repeat (first | apply Kd.N_alloc | apply Kd.N_drewN | apply Kd.N_drew)); exact Kd.N_mono HO444.out (fun _ hk => ⟨hk.1.1, ⟨hk.1.2.1, ⟨hk.1.2.2, hk.2⟩⟩⟩)), (by (with_reducible repeat (first | refine X7 ?_ _ | refine X8 ?_ | refine X6 ?_ _)); exact BK437.out), (by (with_reducible repeat (first | refine X7 ?_ _ | refine X8 ?_ | refine X6 ?_ _)); exact BK438.out), (by (with_reducible repeat (first | refine X7 ?_ _ | refine X8 ?_ | refine X6 ?_ _)); exact BK452.out), GW452.out, GE452.out, NB437_452.out, NB452_437.out, NB438_452.out, NB452_438.out, (by repeat (first | (with_reducible first | exact HB.out | apply X5 | apply X4 | apply X3 | refine X10 ?_ GE437.out | refine X10 ?_ GE438.out | refine X10 ?_ GE452.out) | exact HB.out))⟩)
           ·skip
            rintro ⟨gb451, gb452⟩ w20 ⟨hS_, h0_, h1_, h2_, h3_, h4_, h5_, h6_, h7_, h8_, h9_, h10_, h11_, h12_, h13_, h14_, h15_, h16_, h17_, h18_⟩
            have n0_ : Aside0 (w20.heap[gb437]? = some (.cells #[.int .i64 a0_0, .int .i64 a0_1, .slice (some ad439) l0_2.length c0_2] 29 (0, 0))) := ⟨h0_⟩
            have n1_ : Aside0 (w20.heap[gb438]? = some (.cells #[.int .i64 0, .int .i64 0, .slice none 0 0] 29 (0, 0))) := ⟨h1_⟩
            have n2_ : Aside0 (w20.heap[gb451]? = some (.cells #[.int .i64 0, .int .i64 0, .slice none 0 0] 29 (0, 0))) := ⟨h2_⟩
            have n3_ : Aside0 (w20.heap[gb452]? = some (.cells #[.int .i64 0, .int .i64 0, .slice none 0 0] 29 (0, 0))) := ⟨h3_⟩
            have n4_ : Aside0 (w.heap.size ≤ gb451) := ⟨h4_⟩
            have n5_ : Aside0 (w.heap.size ≤ gb451) := ⟨h5_⟩
            have n6_ : Aside0 (gb437 ≠ gb451) := ⟨h6_⟩
            have n7_ : Aside0 (gb451 ≠ gb437) := ⟨h7_⟩
            have n8_ : Aside0 (gb438 ≠ gb451) := ⟨h8_⟩
            have n9_ : Aside0 (gb451 ≠ gb438) := ⟨h9_⟩
            have n10_ : Aside0 (gb452 ≠ gb451) := ⟨h10_⟩
            have n11_ : Aside0 (gb451 ≠ gb452) := ⟨h11_⟩
            have n12_ : Aside0 (w.heap.size ≤ gb452) := ⟨h12_⟩
            have n13_ : Aside0 (w.heap.size ≤ gb452) := ⟨h13_⟩
            have n14_ : Aside0 (gb437 ≠ gb452) := ⟨h14_⟩
            have n15_ : Aside0 (gb452 ≠ gb437) := ⟨h15_⟩
            have n16_ : Aside0 (gb438 ≠ gb452) := ⟨h16_⟩
            have n17_ : Aside0 (gb452 ≠ gb438) := ⟨h17_⟩
            have n18_ : Aside0 (Below w.heap.size w w20) := ⟨h18_⟩
            clear BK437
            clear BK438
            clear HB
            clear h0_ h1_ h2_ h3_ h4_ h5_ h6_ h7_ h8_ h9_ h10_ h11_ h12_ h13_ h14_ h15_ h16_ h17_ h18_
            have BK437 := n0_
            have BK438 := n1_
            have BK451 := n2_
            have BK452 := n3_
            have GW451 := n4_
            have GE451 := n5_
            have NB437_451 := n6_
            have NB451_437 := n7_
            have NB438_451 := n8_
            have NB451_438 := n9_
            have NB452_451 := n10_
            have NB451_452 := n11_
            have GW452 := n12_
            have GE452 := n13_
            have NB437_452 := n14_
            have NB452_437 := n15_
            have NB438_452 := n16_
            have NB452_438 := n17_
            have HB := n18_
            clear n0_ n1_ n2_ n3_ n4_ n5_ n6_ n7_ n8_ n9_ n10_ n11_ n12_ n13_ n14_ n15_ n16_ n17_ n18_
            have hHeld : w20.cell? ⟨gb437, 0, none⟩ = some (.int .i64 a0_0) ∧ w20.cell? ⟨gb437, 1, none⟩ = some (.int .i64 a0_1) ∧ w20.cell? ⟨gb437, 2, none⟩ = some (.slice (some ad439) l0_2.length c0_2) ∧ w20.cell? ad439 = some (.int .i64 ((rd_T29 l0_2 0).f0)) ∧ w20.cell? ⟨ad439.block, ad439.off + 1, none⟩ = some (.int .i64 ((rd_T29 l0_2 0).f1)) ∧ w20.cell? ⟨ad439.block, ad439.off + 2, none⟩ = some (.slice A439_2 ((rd_T29 l0_2 0).f2).length c439_2) ∧ w20.cell? ⟨ad439.block, ad439.off + 3, none⟩ = some (.int .i64 ((rd_T29 l0_2 1).f0)) ∧ w20.cell? ⟨ad439.block, ad439.off + 3 + 1, none⟩ = some (.int .i64 ((rd_T29 l0_2 1).f1)) ∧ w20.cell? ⟨ad439.block, ad439.off + 3 + 2, none⟩ = some (.slice A445_2 ((rd_T29 l0_2 1).f2).length c445_2) := hS_
            refine norm_ (a' := ?_) ?_ ?_
            rotate_left
            ·simp only [putAll, Act.put, List.setIfInBounds_toArray, List.set_cons_zero, List.set_cons_succ]
             rfl
            refine one_ (i := 4) (N := some 19) #[true, true, true, true, true, true, true, true, true, false, true, true, false, false] rfl rfl (one_of HT_.out (by kernel_rfl)) (by decide) (fun K hK => ?_)
            refine goes_ Try.func49 (by kernel_rfl) rfl #[.agg #[.int .i64 ((rd_T29 l0_2 0).f0), .int .i64 ((rd_T29 l0_2 0).f1), .slice A439_2 ((rd_T29 l0_2 0).f2).length c439_2]] (by rfl) rfl rfl (by (try simp only [List.map_toArray, List.map_cons, List.map_nil]); first | done | rfl | (simp only [List.length_drop, List.length_take]; rfl)) ?_
            with_reducible refine (ih k (by omega) ((rd_T29 l0_2 0).f0) ((rd_T29 l0_2 0).f1) _ _ ((rd_T29 l0_2 0).f2) t440 t441 t442 _ ?side1 ?side2 A9.out).mono ?_
            (case side1 => repeat (first | exact (Kd.C_below HR439_2.out HB.out) | (with_reducible refine Kd.C_alloc ?_ _) | (with_reducible refine Kd.C_drewN ?_ _) | (with_reducible refine Kd.C_drew ?_)))
            (case side2 => exact HC439_2.out)
            rintro e w21 ⟨v443, rfl, ho0, hb⟩
            refine ⟨_, rfl, ?_⟩
            have n0_ := X1 (Kd.N_lower (Kd.N_mono (ok' := fun k_ => (w.heap.size ≤ k_) ∧ k_ ≠ gb437 ∧ k_ ≠ gb438 ∧ k_ ≠ gb451 ∧ k_ ≠ gb452) ho0 (fun k_ hk_ => ⟨(Nat.le_trans (below_size (by repeat (first | (with_reducible first | exact HB.out | apply X5 | apply X4 | apply X3 | refine X10 ?_ GE437.out | refine X10 ?_ GE438.out | refine X10 ?_ GE451.out | refine X10 ?_ GE452.out) | exact HB.out))) hk_), (Kd.freshB (g := gb437) (o := .cells #[.int .i64 a0_0, .int .i64 a0_1, .slice (some ad439) l0_2.length c0_2] 29 (0, 0)) (by (with_reducible repeat (first | refine X7 ?_ _ | refine X8 ?_ | refine X6 ?_ _)); exact BK437.out) k_ hk_), (Kd.freshB (g := gb438) (o := .cells #[.int .i64 0, .int .i64 0, .slice none 0 0] 29 (0, 0)) (by (with_reducible repeat (first | refine X7 ?_ _ | refine X8 ?_ | refine X6 ?_ _)); exact BK438.out) k_ hk_), (Kd.freshB (g := gb451) (o := .cells #[.int .i64 0, .int .i64 0, .slice none 0 0] 29 (0, 0)) (by (with_reducible repeat (first | refine X7 ?_ _ | refine X8 ?_ | refine X6 ?_ _)); exact BK451.out) k_ hk_), (Kd.freshB (g := gb452) (o := .cells #[.int .i64 0, .int .i64 0, .slice none 0 0] 29 (0, 0)) (by (with_reducible repeat (first | refine X7 ?_ _ | refine X8 ?_ | refine X6 ?_ _)); exact BK452.out) k_ hk_)⟩)) (below_size (by repeat (first | (with_reducible first | exact HB.out | apply X5 | apply X4 | apply X3 | refine X10 ?_ GE437.out | refine X10 ?_ GE438.out | refine X10 ?_ GE451.out | refine X10 ?_ GE452.out) | exact HB.out))))
            have n1_ := X1 (blk_below (g := gb437) (o := .cells #[.int .i64 a0_0, .int .i64 a0_1, .slice (some ad439) l0_2.length c0_2] 29 (0, 0)) (by (with_reducible repeat (first | refine X7 ?_ _ | refine X8 ?_ | refine X6 ?_ _)); exact BK437.out) hb)
            have n2_ := X1 (blk_below (g := gb438) (o := .cells #[.int .i64 0, .int .i64 0, .slice none 0 0] 29 (0, 0)) (by (with_reducible repeat (first | refine X7 ?_ _ | refine X8 ?_ | refine X6 ?_ _)); exact BK438.out) hb)
            have n3_ := X1 (blk_below (g := gb451) (o := .cells #[.int .i64 0, .int .i64 0, .slice none 0 0] 29 (0, 0)) (by (with_reducible repeat (first | refine X7 ?_ _ | refine X8 ?_ | refine X6 ?_ _)); exact BK451.out) hb)
            have n4_ := X1 (blk_below (g := gb452) (o := .cells #[.int .i64 0, .int .i64 0, .slice none 0 0] 29 (0, 0)) (by (with_reducible repeat (first | refine X7 ?_ _ | refine X8 ?_ | refine X6 ?_ _)); exact BK452.out) hb)
            have n5_ := X1 (below_step (by repeat (first | (with_reducible first | exact HB.out | apply X5 | apply X4 | apply X3 | refine X10 ?_ GE437.out | refine X10 ?_ GE438.out | refine X10 ?_ GE451.out | refine X10 ?_ GE452.out) | exact HB.out)) hb)
            clear BK437
            clear BK438
            clear BK451
            clear BK452
            clear HB
            have HO444 := n0_
            have BK437 := n1_
            have BK438 := n2_
            have BK451 := n3_
            have BK452 := n4_
            have HB := n5_
            clear n0_ n1_ n2_ n3_ n4_ n5_
            (try clear hb)
            (try clear hb2)
            (try clear hk)
            (try clear hi)
            (try clear ho0)
            refine hK.out _ _ ⟨(X11 BK437.out 0).trans rfl, (X11 BK437.out 1).trans rfl, (X11 BK437.out 2).trans rfl, ((HB.out.cell (X9 w _ hw439_0)).trans hw439_0), ((HB.out.cell (X9 w _ hw439_1)).trans hw439_1), ((HB.out.cell (X9 w _ hw439_2)).trans hw439_2), ((HB.out.cell (X9 w _ hw445_0)).trans hw445_0), ((HB.out.cell (X9 w _ hw445_1)).trans hw445_1), ((HB.out.cell (X9 w _ hw445_2)).trans hw445_2)⟩ (fun hHeld => ?_)
            clear hK K
            refine norm_ (a' := ?_) ?_ ?_
            rotate_left
            ·show Act.put _ (some 19) _ = _
             simp only [Act.put, List.setIfInBounds_toArray, List.set_cons_zero, List.set_cons_succ, i64_w, i32_w]
             rfl
            exact norm_ (by first | (simp only [putAll, Act.put, List.setIfInBounds_toArray, List.set_cons_zero, List.set_cons_succ]; done) | (simp only [putAll, Act.put, List.setIfInBounds_toArray, List.set_cons_zero, List.set_cons_succ]; rfl)) (hJ4_10_11 (v443, gb451, gb452) _ ⟨hHeld, (by (with_reducible repeat (first | apply Kd.N_alloc | apply Kd.N_drewN | apply Kd.N_drew)); exact HO444.out), (by (with_reducible repeat (first | refine X7 ?_ _ | refine X8 ?_ | refine X6 ?_ _)); exact BK437.out), (by (with_reducible repeat (first | refine X7 ?_ _ | refine X8 ?_ | refine X6 ?_ _)); exact BK438.out), (by (with_reducible repeat (first | refine X7 ?_ _ | refine X8 ?_ | refine X6 ?_ _)); exact BK451.out), (by (with_reducible repeat (first | refine X7 ?_ _ | refine X8 ?_ | refine X6 ?_ _)); exact BK452.out), GW451.out, GE451.out, NB437_451.out, NB451_437.out, NB438_451.out, NB451_438.out, NB452_451.out, NB451_452.out, GW452.out, GE452.out, NB437_452.out, NB452_437.out, NB438_452.out, NB452_438.out, (by repeat (first | (with_reducible first | exact HB.out | apply X5 | apply X4 | apply X3 | refine X10 ?_ GE437.out | refine X10 ?_ GE438.out | refine X10 ?_ GE451.out | refine X10 ?_ GE452.out) | exact HB.out))⟩)
          ·skip
           rintro ⟨v443, gb452⟩ w20 ⟨hS_, h0_, h1_, h2_, h3_, h4_, h5_, h6_, h7_, h8_, h9_, h10_⟩
           have n0_ : Aside0 (Kd.N k29 29 w20 w.heap.size (fun k_ => (w.heap.size ≤ k_) ∧ k_ ≠ gb437 ∧ k_ ≠ gb438 ∧ k_ ≠ gb452) v443 t442) := ⟨h0_⟩
           have n1_ : Aside0 (w20.heap[gb437]? = some (.cells #[.int .i64 a0_0, .int .i64 a0_1, .slice (some ad439) l0_2.length c0_2] 29 (0, 0))) := ⟨h1_⟩
           have n2_ : Aside0 (w20.heap[gb438]? = some (.cells #[.int .i64 0, .int .i64 0, .slice none 0 0] 29 (0, 0))) := ⟨h2_⟩
           have n3_ : Aside0 (w20.heap[gb452]? = some (.cells #[.int .i64 0, .int .i64 0, .slice none 0 0] 29 (0, 0))) := ⟨h3_⟩
           have n4_ : Aside0 (w.heap.size ≤ gb452) := ⟨h4_⟩
           have n5_ : Aside0 (w.heap.size ≤ gb452) := ⟨h5_⟩
           have n6_ : Aside0 (gb437 ≠ gb452) := ⟨h6_⟩
           have n7_ : Aside0 (gb452 ≠ gb437) := ⟨h7_⟩
           have n8_ : Aside0 (gb438 ≠ gb452) := ⟨h8_⟩
           have n9_ : Aside0 (gb452 ≠ gb438) := ⟨h9_⟩
           have n10_ : Aside0 (Below w.heap.size w w20) := ⟨h10_⟩
           clear BK437
           clear BK438
           clear HB
           clear h0_ h1_ h2_ h3_ h4_ h5_ h6_ h7_ h8_ h9_ h10_
           have HO444 := n0_
           have BK437 := n1_
           have BK438 := n2_
           have BK452 := n3_
           have GW452 := n4_
           have GE452 := n5_
           have NB437_452 := n6_
           have NB452_437 := n7_
           have NB438_452 := n8_
           have NB452_438 := n9_
           have HB := n10_
           clear n0_ n1_ n2_ n3_ n4_ n5_ n6_ n7_ n8_ n9_ n10_
           have hHeld : w20.cell? ⟨gb437, 0, none⟩ = some (.int .i64 a0_0) ∧ w20.cell? ⟨gb437, 1, none⟩ = some (.int .i64 a0_1) ∧ w20.cell? ⟨gb437, 2, none⟩ = some (.slice (some ad439) l0_2.length c0_2) ∧ w20.cell? ad439 = some (.int .i64 ((rd_T29 l0_2 0).f0)) ∧ w20.cell? ⟨ad439.block, ad439.off + 1, none⟩ = some (.int .i64 ((rd_T29 l0_2 0).f1)) ∧ w20.cell? ⟨ad439.block, ad439.off + 2, none⟩ = some (.slice A439_2 ((rd_T29 l0_2 0).f2).length c439_2) ∧ w20.cell? ⟨ad439.block, ad439.off + 3, none⟩ = some (.int .i64 ((rd_T29 l0_2 1).f0)) ∧ w20.cell? ⟨ad439.block, ad439.off + 3 + 1, none⟩ = some (.int .i64 ((rd_T29 l0_2 1).f1)) ∧ w20.cell? ⟨ad439.block, ad439.off + 3 + 2, none⟩ = some (.slice A445_2 ((rd_T29 l0_2 1).f2).length c445_2) := hS_
           refine norm_ (a' := ?_) ?_ ?_
           rotate_left
           ·simp only [putAll, Act.put, List.setIfInBounds_toArray, List.set_cons_zero, List.set_cons_succ]
            rfl
           refine two_ (i := 9) (j := 10) (Ni := some 24) (Nj := some 3) #[true, true, true, true, true, true, true, true, true, true, false, true, false, false] #[true, true, true, true, true, true, true, true, true, false, true, true, false, false] rfl rfl rfl rfl (two_of HT_.out (by kernel_rfl)) (by decide) (by decide) (fun K hK => ?_) (fun K hK => ?_)
           ·skip
            refine goes_ Try.func49 (by kernel_rfl) rfl #[.agg #[.int .i64 ((rd_T29 l0_2 1).f0), .int .i64 ((rd_T29 l0_2 1).f1), .slice A445_2 ((rd_T29 l0_2 1).f2).length c445_2]] (by rfl) rfl rfl (by (try simp only [List.map_toArray, List.map_cons, List.map_nil]); first | done | rfl | (simp only [List.length_drop, List.length_take]; rfl)) ?_
            with_reducible refine (ih k (by omega) ((rd_T29 l0_2 1).f0) ((rd_T29 l0_2 1).f1) _ _ ((rd_T29 l0_2 1).f2) t446 t447 t448 _ ?side1 ?side2 A11.out).mono ?_
            (case side1 => repeat (first | exact (Kd.C_below HR445_2.out HB.out) | (with_reducible refine Kd.C_alloc ?_ _) | (with_reducible refine Kd.C_drewN ?_ _) | (with_reducible refine Kd.C_drew ?_)))
            (case side2 => exact HC445_2.out)
            rintro e w21 ⟨v449, rfl, ho0, hb⟩
            refine ⟨_, rfl, ?_⟩
            have n0_ := X1 (Kd.N_elder' (by (with_reducible repeat (first | apply Kd.N_alloc | apply Kd.N_drewN | apply Kd.N_drew)); exact HO444.out) (by first | exact Kd.N_base ho0 | exact Kd.R_base ho0) hb)
            have n1_ := X1 (Kd.N_lower (Kd.N_mono (ok' := fun k_ => (w.heap.size ≤ k_) ∧ some k_ ≠ (v443 : Value).ownBlock ∧ k_ ≠ gb437 ∧ k_ ≠ gb438 ∧ k_ ≠ gb452) ho0 (fun k_ hk_ => ⟨(Nat.le_trans (below_size (by repeat (first | (with_reducible first | exact HB.out | apply X5 | apply X4 | apply X3 | refine X10 ?_ GE437.out | refine X10 ?_ GE438.out | refine X10 ?_ GE452.out) | exact HB.out))) hk_), (Kd.fresh' (Kd.N_lt (by (with_reducible repeat (first | apply Kd.N_alloc | apply Kd.N_drewN | apply Kd.N_drew)); exact HO444.out)) k_ hk_), (Kd.freshB (g := gb437) (o := .cells #[.int .i64 a0_0, .int .i64 a0_1, .slice (some ad439) l0_2.length c0_2] 29 (0, 0)) (by (with_reducible repeat (first | refine X7 ?_ _ | refine X8 ?_ | refine X6 ?_ _)); exact BK437.out) k_ hk_), (Kd.freshB (g := gb438) (o := .cells #[.int .i64 0, .int .i64 0, .slice none 0 0] 29 (0, 0)) (by (with_reducible repeat (first | refine X7 ?_ _ | refine X8 ?_ | refine X6 ?_ _)); exact BK438.out) k_ hk_), (Kd.freshB (g := gb452) (o := .cells #[.int .i64 0, .int .i64 0, .slice none 0 0] 29 (0, 0)) (by (with_reducible repeat (first | refine X7 ?_ _ | refine X8 ?_ | refine X6 ?_ _)); exact BK452.out) k_ hk_)⟩)) (below_size (by repeat (first | (with_reducible first | exact HB.out | apply X5 | apply X4 | apply X3 | refine X10 ?_ GE437.out | refine X10 ?_ GE438.out | refine X10 ?_ GE452.out) | exact HB.out))))
            have n2_ := X1 (blk_below (g := gb437) (o := .cells #[.int .i64 a0_0, .int .i64 a0_1, .slice (some ad439) l0_2.length c0_2] 29 (0, 0)) (by (with_reducible repeat (first | refine X7 ?_ _ | refine X8 ?_ | refine X6 ?_ _)); exact BK437.out) hb)
            have n3_ := X1 (blk_below (g := gb438) (o := .cells #[.int .i64 0, .int .i64 0, .slice none 0 0] 29 (0, 0)) (by (with_reducible repeat (first | refine X7 ?_ _ | refine X8 ?_ | refine X6 ?_ _)); exact BK438.out) hb)
            have n4_ := X1 (blk_below (g := gb452) (o := .cells #[.int .i64 0, .int .i64 0, .slice none 0 0] 29 (0, 0)) (by (with_reducible repeat (first | refine X7 ?_ _ | refine X8 ?_ | refine X6 ?_ _)); exact BK452.out) hb)
            have n5_ := X1 (below_step (by repeat (first | (with_reducible first | exact HB.out | apply X5 | apply X4 | apply X3 | refine X10 ?_ GE437.out | refine X10 ?_ GE438.out | refine X10 ?_ GE452.out) | exact HB.out)) hb)
            clear HO444
            clear BK437
            clear BK438
            clear BK452
            clear HB
            have HO444 := n0_
            have HO450 := n1_
            have BK437 := n2_
            have BK438 := n3_
            have BK452 := n4_
            have HB := n5_
            clear n0_ n1_ n2_ n3_ n4_ n5_
            (try clear hb)
            (try clear hb2)
            (try clear hk)
            (try clear hi)
            (try clear ho0)
            refine hK.out _ _ ⟨(X11 BK437.out 0).trans rfl, (X11 BK437.out 1).trans rfl, (X11 BK437.out 2).trans rfl, ((HB.out.cell (X9 w _ hw439_0)).trans hw439_0), ((HB.out.cell (X9 w _ hw439_1)).trans hw439_1), ((HB.out.cell (X9 w _ hw439_2)).trans hw439_2), ((HB.out.cell (X9 w _ hw445_0)).trans hw445_0), ((HB.out.cell (X9 w _ hw445_1)).trans hw445_1), ((HB.out.cell (X9 w _ hw445_2)).trans hw445_2)⟩ (fun hHeld => ?_)
            clear hK K
            refine norm_ (a' := ?_) ?_ ?_
            rotate_left
            ·show Act.put _ (some 24) _ = _
             simp only [Act.put, List.setIfInBounds_toArray, List.set_cons_zero, List.set_cons_succ, i64_w, i32_w]
             rfl
            exact norm_ (by first | (simp only [putAll, Act.put, List.setIfInBounds_toArray, List.set_cons_zero, List.set_cons_succ]; done) | (simp only [putAll, Act.put, List.setIfInBounds_toArray, List.set_cons_zero, List.set_cons_succ]; rfl)) (hJ4_9_11 (v443, v449, gb452) _ ⟨hHeld, (by (with_reducible repeat (first | apply Kd.N_alloc | apply Kd.N_drewN | apply Kd.N_drew)); exact Kd.N_mono HO444.out (fun _ hk => ⟨hk.1.1, ⟨hk.2, ⟨hk.1.2.1, ⟨hk.1.2.2.1, hk.1.2.2.2⟩⟩⟩⟩)), (by (with_reducible repeat (first | apply Kd.N_alloc | apply Kd.N_drewN | apply Kd.N_drew)); exact HO450.out), (by (with_reducible repeat (first | refine X7 ?_ _ | refine X8 ?_ | refine X6 ?_ _)); exact BK437.out), (by (with_reducible repeat (first | refine X7 ?_ _ | refine X8 ?_ | refine X6 ?_ _)); exact BK438.out), (by (with_reducible repeat (first | refine X7 ?_ _ | refine X8 ?_ | refine X6 ?_ _)); exact BK452.out), GW452.out, GE452.out, NB437_452.out, NB452_437.out, NB438_452.out, NB452_438.out, (by repeat (first | (with_reducible first | exact HB.out | apply X5 | apply X4 | apply X3 | refine X10 ?_ GE437.out | refine X10 ?_ GE438.out | refine X10 ?_ GE452.out) | exact HB.out))⟩)
           ·skip
            refine box_step ?hg (N := 3) ?hd (cs := #[.int .i64 0, .int .i64 0, .slice none 0 0]) (t := 29) ?hr ?_; (case hd => rfl); (case hg => rfl); (case hr => first | (go_simp; done) | (go_simp; rfl))
            intro gb451 hg w21 hbox hb
            have n0_ := X1 (Kd.N_below (Kd.N_elderB (by (with_reducible repeat (first | apply Kd.N_alloc | apply Kd.N_drewN | apply Kd.N_drew)); exact HO444.out) gb451 (Nat.le_of_eq hg.symm)) hb)
            have n1_ := X1 (blk_below (g := gb437) (o := .cells #[.int .i64 a0_0, .int .i64 a0_1, .slice (some ad439) l0_2.length c0_2] 29 (0, 0)) (by (with_reducible repeat (first | refine X7 ?_ _ | refine X8 ?_ | refine X6 ?_ _)); exact BK437.out) hb)
            have n2_ := X1 (blk_below (g := gb438) (o := .cells #[.int .i64 0, .int .i64 0, .slice none 0 0] 29 (0, 0)) (by (with_reducible repeat (first | refine X7 ?_ _ | refine X8 ?_ | refine X6 ?_ _)); exact BK438.out) hb)
            have n3_ := X1 (blk_below (g := gb452) (o := .cells #[.int .i64 0, .int .i64 0, .slice none 0 0] 29 (0, 0)) (by (with_reducible repeat (first | refine X7 ?_ _ | refine X8 ?_ | refine X6 ?_ _)); exact BK452.out) hb)
            have n4_ := X1 (below_step (by repeat (first | (with_reducible first | exact HB.out | apply X5 | apply X4 | apply X3 | refine X10 ?_ GE437.out | refine X10 ?_ GE438.out | refine X10 ?_ GE452.out) | exact HB.out)) hb)
            have n5_ := X1 (hbox)
            have n6_ := X1 ((by rw [hg]; exact (below_size (by repeat (first | (with_reducible first | exact HB.out | apply X5 | apply X4 | apply X3 | refine X10 ?_ GE437.out | refine X10 ?_ GE438.out | refine X10 ?_ GE452.out) | exact HB.out))) : w.heap.size ≤ gb451))
            have n7_ := X1 ((by rw [hg]; exact (below_size (by repeat (first | (with_reducible first | exact HB.out | apply X5 | apply X4 | apply X3 | refine X10 ?_ GE437.out | refine X10 ?_ GE438.out | refine X10 ?_ GE452.out) | exact HB.out))) : w.heap.size ≤ gb451))
            have n8_ := X1 ((by rw [hg]; exact Nat.ne_of_lt (blk_lt (g := gb437) (o := .cells #[.int .i64 a0_0, .int .i64 a0_1, .slice (some ad439) l0_2.length c0_2] 29 (0, 0)) (by (with_reducible repeat (first | refine X7 ?_ _ | refine X8 ?_ | refine X6 ?_ _)); exact BK437.out)) : gb437 ≠ gb451))
            have n9_ := X1 ((by rw [hg]; exact Nat.ne_of_gt (blk_lt (g := gb437) (o := .cells #[.int .i64 a0_0, .int .i64 a0_1, .slice (some ad439) l0_2.length c0_2] 29 (0, 0)) (by (with_reducible repeat (first | refine X7 ?_ _ | refine X8 ?_ | refine X6 ?_ _)); exact BK437.out)) : gb451 ≠ gb437))
            have n10_ := X1 ((by rw [hg]; exact Nat.ne_of_lt (blk_lt (g := gb438) (o := .cells #[.int .i64 0, .int .i64 0, .slice none 0 0] 29 (0, 0)) (by (with_reducible repeat (first | refine X7 ?_ _ | refine X8 ?_ | refine X6 ?_ _)); exact BK438.out)) : gb438 ≠ gb451))
            have n11_ := X1 ((by rw [hg]; exact Nat.ne_of_gt (blk_lt (g := gb438) (o := .cells #[.int .i64 0, .int .i64 0, .slice none 0 0] 29 (0, 0)) (by (with_reducible repeat (first | refine X7 ?_ _ | refine X8 ?_ | refine X6 ?_ _)); exact BK438.out)) : gb451 ≠ gb438))
            have n12_ := X1 ((by rw [hg]; exact Nat.ne_of_lt (blk_lt (g := gb452) (o := .cells #[.int .i64 0, .int .i64 0, .slice none 0 0] 29 (0, 0)) (by (with_reducible repeat (first | refine X7 ?_ _ | refine X8 ?_ | refine X6 ?_ _)); exact BK452.out)) : gb452 ≠ gb451))
            have n13_ := X1 ((by rw [hg]; exact Nat.ne_of_gt (blk_lt (g := gb452) (o := .cells #[.int .i64 0, .int .i64 0, .slice none 0 0] 29 (0, 0)) (by (with_reducible repeat (first | refine X7 ?_ _ | refine X8 ?_ | refine X6 ?_ _)); exact BK452.out)) : gb451 ≠ gb452))
            clear HO444
            clear BK437
            clear BK438
            clear BK452
            clear HB
            have HO444 := n0_
            have BK437 := n1_
            have BK438 := n2_
            have BK452 := n3_
            have HB := n4_
            have BK451 := n5_
            have GW451 := n6_
            have GE451 := n7_
            have NB437_451 := n8_
            have NB451_437 := n9_
            have NB438_451 := n10_
            have NB451_438 := n11_
            have NB452_451 := n12_
            have NB451_452 := n13_
            clear n0_ n1_ n2_ n3_ n4_ n5_ n6_ n7_ n8_ n9_ n10_ n11_ n12_ n13_
            clear hb hbox hg
            refine hK.out _ _ ⟨(X11 BK437.out 0).trans rfl, (X11 BK437.out 1).trans rfl, (X11 BK437.out 2).trans rfl, ((HB.out.cell (X9 w _ hw439_0)).trans hw439_0), ((HB.out.cell (X9 w _ hw439_1)).trans hw439_1), ((HB.out.cell (X9 w _ hw439_2)).trans hw439_2), ((HB.out.cell (X9 w _ hw445_0)).trans hw445_0), ((HB.out.cell (X9 w _ hw445_1)).trans hw445_1), ((HB.out.cell (X9 w _ hw445_2)).trans hw445_2)⟩ (fun hHeld => ?_)
            clear hK K
            refine norm_ (a' := ?_) ?_ ?_
            rotate_left
            ·show Act.put _ (some 3) _ = _
             simp only [Act.put, List.setIfInBounds_toArray, List.set_cons_zero, List.set_cons_succ, i64_w, i32_w]
             rfl
            exact norm_ (by first | (simp only [putAll, Act.put, List.setIfInBounds_toArray, List.set_cons_zero, List.set_cons_succ]; done) | (simp only [putAll, Act.put, List.setIfInBounds_toArray, List.set_cons_zero, List.set_cons_succ]; rfl)) (hJ4_10_11 (v443, gb451, gb452) _ ⟨hHeld, (by (with_reducible repeat (first | apply Kd.N_alloc | apply Kd.N_drewN | apply Kd.N_drew)); exact Kd.N_mono HO444.out (fun _ hk => ⟨hk.1.1, ⟨hk.1.2.1, ⟨hk.1.2.2.1, ⟨hk.2, hk.1.2.2.2⟩⟩⟩⟩)), (by (with_reducible repeat (first | refine X7 ?_ _ | refine X8 ?_ | refine X6 ?_ _)); exact BK437.out), (by (with_reducible repeat (first | refine X7 ?_ _ | refine X8 ?_ | refine X6 ?_ _)); exact BK438.out), (by (with_reducible repeat (first | refine X7 ?_ _ | refine X8 ?_ | refine X6 ?_ _)); exact BK451.out), (by (with_reducible repeat (first | refine X7 ?_ _ | refine X8 ?_ | refine X6 ?_ _)); exact BK452.out), GW451.out, GE451.out, NB437_451.out, NB451_437.out, NB438_451.out, NB451_438.out, NB452_451.out, NB451_452.out, GW452.out, GE452.out, NB437_452.out, NB452_437.out, NB438_452.out, NB452_438.out, (by repeat (first | (with_reducible first | exact HB.out | apply X5 | apply X4 | apply X3 | refine X10 ?_ GE437.out | refine X10 ?_ GE438.out | refine X10 ?_ GE452.out | refine X10 ?_ GE451.out) | exact HB.out))⟩)
         ·skip
          rintro ⟨v443, gb451⟩ w20 ⟨hS_, h0_, h1_, h2_, h3_, h4_, h5_, h6_, h7_, h8_, h9_, h10_⟩
          have n0_ : Aside0 (Kd.N k29 29 w20 w.heap.size (fun k_ => (w.heap.size ≤ k_) ∧ k_ ≠ gb437 ∧ k_ ≠ gb438 ∧ k_ ≠ gb451) v443 t442) := ⟨h0_⟩
          have n1_ : Aside0 (w20.heap[gb437]? = some (.cells #[.int .i64 a0_0, .int .i64 a0_1, .slice (some ad439) l0_2.length c0_2] 29 (0, 0))) := ⟨h1_⟩
          have n2_ : Aside0 (w20.heap[gb438]? = some (.cells #[.int .i64 0, .int .i64 0, .slice none 0 0] 29 (0, 0))) := ⟨h2_⟩
          have n3_ : Aside0 (w20.heap[gb451]? = some (.cells #[.int .i64 0, .int .i64 0, .slice none 0 0] 29 (0, 0))) := ⟨h3_⟩
          have n4_ : Aside0 (w.heap.size ≤ gb451) := ⟨h4_⟩
          have n5_ : Aside0 (w.heap.size ≤ gb451) := ⟨h5_⟩
          have n6_ : Aside0 (gb437 ≠ gb451) := ⟨h6_⟩
          have n7_ : Aside0 (gb451 ≠ gb437) := ⟨h7_⟩
          have n8_ : Aside0 (gb438 ≠ gb451) := ⟨h8_⟩
          have n9_ : Aside0 (gb451 ≠ gb438) := ⟨h9_⟩
          have n10_ : Aside0 (Below w.heap.size w w20) := ⟨h10_⟩
          clear BK437
          clear BK438
          clear HB
          clear h0_ h1_ h2_ h3_ h4_ h5_ h6_ h7_ h8_ h9_ h10_
          have HO444 := n0_
          have BK437 := n1_
          have BK438 := n2_
          have BK451 := n3_
          have GW451 := n4_
          have GE451 := n5_
          have NB437_451 := n6_
          have NB451_437 := n7_
          have NB438_451 := n8_
          have NB451_438 := n9_
          have HB := n10_
          clear n0_ n1_ n2_ n3_ n4_ n5_ n6_ n7_ n8_ n9_ n10_
          have hHeld : w20.cell? ⟨gb437, 0, none⟩ = some (.int .i64 a0_0) ∧ w20.cell? ⟨gb437, 1, none⟩ = some (.int .i64 a0_1) ∧ w20.cell? ⟨gb437, 2, none⟩ = some (.slice (some ad439) l0_2.length c0_2) ∧ w20.cell? ad439 = some (.int .i64 ((rd_T29 l0_2 0).f0)) ∧ w20.cell? ⟨ad439.block, ad439.off + 1, none⟩ = some (.int .i64 ((rd_T29 l0_2 0).f1)) ∧ w20.cell? ⟨ad439.block, ad439.off + 2, none⟩ = some (.slice A439_2 ((rd_T29 l0_2 0).f2).length c439_2) ∧ w20.cell? ⟨ad439.block, ad439.off + 3, none⟩ = some (.int .i64 ((rd_T29 l0_2 1).f0)) ∧ w20.cell? ⟨ad439.block, ad439.off + 3 + 1, none⟩ = some (.int .i64 ((rd_T29 l0_2 1).f1)) ∧ w20.cell? ⟨ad439.block, ad439.off + 3 + 2, none⟩ = some (.slice A445_2 ((rd_T29 l0_2 1).f2).length c445_2) := hS_
          refine norm_ (a' := ?_) ?_ ?_
          rotate_left
          ·simp only [putAll, Act.put, List.setIfInBounds_toArray, List.set_cons_zero, List.set_cons_succ]
           rfl
          refine two_ (i := 9) (j := 11) (Ni := some 24) (Nj := some 4) #[true, true, true, true, true, true, true, true, true, true, true, false, false, false] #[true, true, true, true, true, true, true, true, true, false, true, true, false, false] rfl rfl rfl rfl (two_of HT_.out (by kernel_rfl)) (by decide) (by decide) (fun K hK => ?_) (fun K hK => ?_)
          ·skip
           refine goes_ Try.func49 (by kernel_rfl) rfl #[.agg #[.int .i64 ((rd_T29 l0_2 1).f0), .int .i64 ((rd_T29 l0_2 1).f1), .slice A445_2 ((rd_T29 l0_2 1).f2).length c445_2]] (by rfl) rfl rfl (by (try simp only [List.map_toArray, List.map_cons, List.map_nil]); first | done | rfl | (simp only [List.length_drop, List.length_take]; rfl)) ?_
           with_reducible refine (ih k (by omega) ((rd_T29 l0_2 1).f0) ((rd_T29 l0_2 1).f1) _ _ ((rd_T29 l0_2 1).f2) t446 t447 t448 _ ?side1 ?side2 A11.out).mono ?_
           (case side1 => repeat (first | exact (Kd.C_below HR445_2.out HB.out) | (with_reducible refine Kd.C_alloc ?_ _) | (with_reducible refine Kd.C_drewN ?_ _) | (with_reducible refine Kd.C_drew ?_)))
           (case side2 => exact HC445_2.out)
           rintro e w21 ⟨v449, rfl, ho0, hb⟩
           refine ⟨_, rfl, ?_⟩
           have n0_ := X1 (Kd.N_elder' (by (with_reducible repeat (first | apply Kd.N_alloc | apply Kd.N_drewN | apply Kd.N_drew)); exact HO444.out) (by first | exact Kd.N_base ho0 | exact Kd.R_base ho0) hb)
           have n1_ := X1 (Kd.N_lower (Kd.N_mono (ok' := fun k_ => (w.heap.size ≤ k_) ∧ some k_ ≠ (v443 : Value).ownBlock ∧ k_ ≠ gb437 ∧ k_ ≠ gb438 ∧ k_ ≠ gb451) ho0 (fun k_ hk_ => ⟨(Nat.le_trans (below_size (by repeat (first | (with_reducible first | exact HB.out | apply X5 | apply X4 | apply X3 | refine X10 ?_ GE437.out | refine X10 ?_ GE438.out | refine X10 ?_ GE451.out) | exact HB.out))) hk_), (Kd.fresh' (Kd.N_lt (by (with_reducible repeat (first | apply Kd.N_alloc | apply Kd.N_drewN | apply Kd.N_drew)); exact HO444.out)) k_ hk_), (Kd.freshB (g := gb437) (o := .cells #[.int .i64 a0_0, .int .i64 a0_1, .slice (some ad439) l0_2.length c0_2] 29 (0, 0)) (by (with_reducible repeat (first | refine X7 ?_ _ | refine X8 ?_ | refine X6 ?_ _)); exact BK437.out) k_ hk_), (Kd.freshB (g := gb438) (o := .cells #[.int .i64 0, .int .i64 0, .slice none 0 0] 29 (0, 0)) (by (with_reducible repeat (first | refine X7 ?_ _ | refine X8 ?_ | refine X6 ?_ _)); exact BK438.out) k_ hk_), (Kd.freshB (g := gb451) (o := .cells #[.int .i64 0, .int .i64 0, .slice none 0 0] 29 (0, 0)) (by (with_reducible repeat (first | refine X7 ?_ _ | refine X8 ?_ | refine X6 ?_ _)); exact BK451.out) k_ hk_)⟩)) (below_size (by repeat (first | (with_reducible first | exact HB.out | apply X5 | apply X4 | apply X3 | refine X10 ?_ GE437.out | refine X10 ?_ GE438.out | refine X10 ?_ GE451.out) | exact HB.out))))
           have n2_ := X1 (blk_below (g := gb437) (o := .cells #[.int .i64 a0_0, .int .i64 a0_1, .slice (some ad439) l0_2.length c0_2] 29 (0, 0)) (by (with_reducible repeat (first | refine X7 ?_ _ | refine X8 ?_ | refine X6 ?_ _)); exact BK437.out) hb)
           have n3_ := X1 (blk_below (g := gb438) (o := .cells #[.int .i64 0, .int .i64 0, .slice none 0 0] 29 (0, 0)) (by (with_reducible repeat (first | refine X7 ?_ _ | refine X8 ?_ | refine X6 ?_ _)); exact BK438.out) hb)
           have n4_ := X1 (blk_below (g := gb451) (o := .cells #[.int .i64 0, .int .i64 0, .slice none 0 0] 29 (0, 0)) (by (with_reducible repeat (first | refine X7 ?_ _ | refine X8 ?_ | refine X6 ?_ _)); exact BK451.out) hb)
           have n5_ := X1 (below_step (by repeat (first | (with_reducible first | exact HB.out | apply X5 | apply X4 | apply X3 | refine X10 ?_ GE437.out | refine X10 ?_ GE438.out | refine X10 ?_ GE451.out) | exact HB.out)) hb)
           clear HO444
           clear BK437
           clear BK438
           clear BK451
           clear HB
           have HO444 := n0_
           have HO450 := n1_
           have BK437 := n2_
           have BK438 := n3_
           have BK451 := n4_
           have HB := n5_
           clear n0_ n1_ n2_ n3_ n4_ n5_
           (try clear hb)
           (try clear hb2)
           (try clear hk)
           (try clear hi)
           (try clear ho0)
           refine hK.out _ _ ⟨(X11 BK437.out 0).trans rfl, (X11 BK437.out 1).trans rfl, (X11 BK437.out 2).trans rfl, ((HB.out.cell (X9 w _ hw439_0)).trans hw439_0), ((HB.out.cell (X9 w _ hw439_1)).trans hw439_1), ((HB.out.cell (X9 w _ hw439_2)).trans hw439_2), ((HB.out.cell (X9 w _ hw445_0)).trans hw445_0), ((HB.out.cell (X9 w _ hw445_1)).trans hw445_1), ((HB.out.cell (X9 w _ hw445_2)).trans hw445_2)⟩ (fun hHeld => ?_)
           clear hK K
           refine norm_ (a' := ?_) ?_ ?_
           rotate_left
           ·show Act.put _ (some 24) _ = _
            simp only [Act.put, List.setIfInBounds_toArray, List.set_cons_zero, List.set_cons_succ, i64_w, i32_w]
            rfl
           exact norm_ (by first | (simp only [putAll, Act.put, List.setIfInBounds_toArray, List.set_cons_zero, List.set_cons_succ]; done) | (simp only [putAll, Act.put, List.setIfInBounds_toArray, List.set_cons_zero, List.set_cons_succ]; rfl)) (hJ4_9_10 (v443, v449, gb451) _ ⟨hHeld, (by (with_reducible repeat (first | apply Kd.N_alloc | apply Kd.N_drewN | apply Kd.N_drew)); exact Kd.N_mono HO444.out (fun _ hk => ⟨hk.1.1, ⟨hk.2, ⟨hk.1.2.1, ⟨hk.1.2.2.1, hk.1.2.2.2⟩⟩⟩⟩)), (by (with_reducible repeat (first | apply Kd.N_alloc | apply Kd.N_drewN | apply Kd.N_drew)); exact HO450.out), (by (with_reducible repeat (first | refine X7 ?_ _ | refine X8 ?_ | refine X6 ?_ _)); exact BK437.out), (by (with_reducible repeat (first | refine X7 ?_ _ | refine X8 ?_ | refine X6 ?_ _)); exact BK438.out), (by (with_reducible repeat (first | refine X7 ?_ _ | refine X8 ?_ | refine X6 ?_ _)); exact BK451.out), GW451.out, GE451.out, NB437_451.out, NB451_437.out, NB438_451.out, NB451_438.out, (by repeat (first | (with_reducible first | exact HB.out | apply X5 | apply X4 | apply X3 | refine X10 ?_ GE437.out | refine X10 ?_ GE438.out | refine X10 ?_ GE451.out) | exact HB.out))⟩)
          ·skip
           refine box_step ?hg (N := 4) ?hd (cs := #[.int .i64 0, .int .i64 0, .slice none 0 0]) (t := 29) ?hr ?_; (case hd => rfl); (case hg => rfl); (case hr => first | (go_simp; done) | (go_simp; rfl))
           intro gb452 hg w21 hbox hb
           have n0_ := X1 (Kd.N_below (Kd.N_elderB (by (with_reducible repeat (first | apply Kd.N_alloc | apply Kd.N_drewN | apply Kd.N_drew)); exact HO444.out) gb452 (Nat.le_of_eq hg.symm)) hb)
           have n1_ := X1 (blk_below (g := gb437) (o := .cells #[.int .i64 a0_0, .int .i64 a0_1, .slice (some ad439) l0_2.length c0_2] 29 (0, 0)) (by (with_reducible repeat (first | refine X7 ?_ _ | refine X8 ?_ | refine X6 ?_ _)); exact BK437.out) hb)
           have n2_ := X1 (blk_below (g := gb438) (o := .cells #[.int .i64 0, .int .i64 0, .slice none 0 0] 29 (0, 0)) (by (with_reducible repeat (first | refine X7 ?_ _ | refine X8 ?_ | refine X6 ?_ _)); exact BK438.out) hb)
           have n3_ := X1 (blk_below (g := gb451) (o := .cells #[.int .i64 0, .int .i64 0, .slice none 0 0] 29 (0, 0)) (by (with_reducible repeat (first | refine X7 ?_ _ | refine X8 ?_ | refine X6 ?_ _)); exact BK451.out) hb)
           have n4_ := X1 (below_step (by repeat (first | (with_reducible first | exact HB.out | apply X5 | apply X4 | apply X3 | refine X10 ?_ GE437.out | refine X10 ?_ GE438.out | refine X10 ?_ GE451.out) | exact HB.out)) hb)
           have n5_ := X1 (hbox)
           have n6_ := X1 ((by rw [hg]; exact (below_size (by repeat (first | (with_reducible first | exact HB.out | apply X5 | apply X4 | apply X3 | refine X10 ?_ GE437.out | refine X10 ?_ GE438.out | refine X10 ?_ GE451.out) | exact HB.out))) : w.heap.size ≤ gb452))
           have n7_ := X1 ((by rw [hg]; exact (below_size (by repeat (first | (with_reducible first | exact HB.out | apply X5 | apply X4 | apply X3 | refine X10 ?_ GE437.out | refine X10 ?_ GE438.out | refine X10 ?_ GE451.out) | exact HB.out))) : w.heap.size ≤ gb452))
           have n8_ := X1 ((by rw [hg]; exact Nat.ne_of_lt (blk_lt (g := gb437) (o := .cells #[.int .i64 a0_0, .int .i64 a0_1, .slice (some ad439) l0_2.length c0_2] 29 (0, 0)) (by (with_reducible repeat (first | refine X7 ?_ _ | refine X8 ?_ | refine X6 ?_ _)); exact BK437.out)) : gb437 ≠ gb452))
           have n9_ := X1 ((by rw [hg]; exact Nat.ne_of_gt (blk_lt (g := gb437) (o := .cells #[.int .i64 a0_0, .int .i64 a0_1, .slice (some ad439) l0_2.length c0_2] 29 (0, 0)) (by (with_reducible repeat (first | refine X7 ?_ _ | refine X8 ?_ | refine X6 ?_ _)); exact BK437.out)) : gb452 ≠ gb437))
           have n10_ := X1 ((by rw [hg]; exact Nat.ne_of_lt (blk_lt (g := gb438) (o := .cells #[.int .i64 0, .int .i64 0, .slice none 0 0] 29 (0, 0)) (by (with_reducible repeat (first | refine X7 ?_ _ | refine X8 ?_ | refine X6 ?_ _)); exact BK438.out)) : gb438 ≠ gb452))
           have n11_ := X1 ((by rw [hg]; exact Nat.ne_of_gt (blk_lt (g := gb438) (o := .cells #[.int .i64 0, .int .i64 0, .slice none 0 0] 29 (0, 0)) (by (with_reducible repeat (first | refine X7 ?_ _ | refine X8 ?_ | refine X6 ?_ _)); exact BK438.out)) : gb452 ≠ gb438))
           have n12_ := X1 ((by rw [hg]; exact Nat.ne_of_lt (blk_lt (g := gb451) (o := .cells #[.int .i64 0, .int .i64 0, .slice none 0 0] 29 (0, 0)) (by (with_reducible repeat (first | refine X7 ?_ _ | refine X8 ?_ | refine X6 ?_ _)); exact BK451.out)) : gb451 ≠ gb452))
           have n13_ := X1 ((by rw [hg]; exact Nat.ne_of_gt (blk_lt (g := gb451) (o := .cells #[.int .i64 0, .int .i64 0, .slice none 0 0] 29 (0, 0)) (by (with_reducible repeat (first | refine X7 ?_ _ | refine X8 ?_ | refine X6 ?_ _)); exact BK451.out)) : gb452 ≠ gb451))
           clear HO444
           clear BK437
           clear BK438
           clear BK451
           clear HB
           have HO444 := n0_
           have BK437 := n1_
           have BK438 := n2_
           have BK451 := n3_
           have HB := n4_
           have BK452 := n5_
           have GW452 := n6_
           have GE452 := n7_
           have NB437_452 := n8_
           have NB452_437 := n9_
           have NB438_452 := n10_
           have NB452_438 := n11_
           have NB451_452 := n12_
           have NB452_451 := n13_
           clear n0_ n1_ n2_ n3_ n4_ n5_ n6_ n7_ n8_ n9_ n10_ n11_ n12_ n13_
           clear hb hbox hg
           refine hK.out _ _ ⟨(X11 BK437.out 0).trans rfl, (X11 BK437.out 1).trans rfl, (X11 BK437.out 2).trans rfl, ((HB.out.cell (X9 w _ hw439_0)).trans hw439_0), ((HB.out.cell (X9 w _ hw439_1)).trans hw439_1), ((HB.out.cell (X9 w _ hw439_2)).trans hw439_2), ((HB.out.cell (X9 w _ hw445_0)).trans hw445_0), ((HB.out.cell (X9 w _ hw445_1)).trans hw445_1), ((HB.out.cell (X9 w _ hw445_2)).trans hw445_2)⟩ (fun hHeld => ?_)
           clear hK K
           refine norm_ (a' := ?_) ?_ ?_
           rotate_left
           ·show Act.put _ (some 4) _ = _
            simp only [Act.put, List.setIfInBounds_toArray, List.set_cons_zero, List.set_cons_succ, i64_w, i32_w]
            rfl
           exact norm_ (by first | (simp only [putAll, Act.put, List.setIfInBounds_toArray, List.set_cons_zero, List.set_cons_succ]; done) | (simp only [putAll, Act.put, List.setIfInBounds_toArray, List.set_cons_zero, List.set_cons_succ]; rfl)) (hJ4_10_11 (v443, gb451, gb452) _ ⟨hHeld, (by (with_reducible repeat (first | apply Kd.N_alloc | apply Kd.N_drewN | apply Kd.N_drew)); exact Kd.N_mono HO444.out (fun _ hk => ⟨hk.1.1, ⟨hk.1.2.1, ⟨hk.1.2.2.1, ⟨hk.1.2.2.2, hk.2⟩⟩⟩⟩)), (by (with_reducible repeat (first | refine X7 ?_ _ | refine X8 ?_ | refine X6 ?_ _)); exact BK437.out), (by (with_reducible repeat (first | refine X7 ?_ _ | refine X8 ?_ | refine X6 ?_ _)); exact BK438.out), (by (with_reducible repeat (first | refine X7 ?_ _ | refine X8 ?_ | refine X6 ?_ _)); exact BK451.out), (by (with_reducible repeat (first | refine X7 ?_ _ | refine X8 ?_ | refine X6 ?_ _)); exact BK452.out), GW451.out, GE451.out, NB437_451.out, NB451_437.out, NB438_451.out, NB451_438.out, NB452_451.out, NB451_452.out, GW452.out, GE452.out, NB437_452.out, NB452_437.out, NB438_452.out, NB452_438.out, (by repeat (first | (with_reducible first | exact HB.out | apply X5 | apply X4 | apply X3 | refine X10 ?_ GE437.out | refine X10 ?_ GE438.out | refine X10 ?_ GE451.out | refine X10 ?_ GE452.out) | exact HB.out))⟩)
        ·skip
         rintro ⟨v443, v449⟩ w20 ⟨hS_, h0_, h1_, h2_, h3_, h4_⟩
         have n0_ : Aside0 (Kd.N k29 29 w20 w.heap.size (fun k_ => (w.heap.size ≤ k_) ∧ some k_ ≠ (v449 : Value).ownBlock ∧ k_ ≠ gb437 ∧ k_ ≠ gb438) v443 t442) := ⟨h0_⟩
         have n1_ : Aside0 (Kd.N k29 29 w20 w.heap.size (fun k_ => (w.heap.size ≤ k_) ∧ some k_ ≠ (v443 : Value).ownBlock ∧ k_ ≠ gb437 ∧ k_ ≠ gb438) v449 t448) := ⟨h1_⟩
         have n2_ : Aside0 (w20.heap[gb437]? = some (.cells #[.int .i64 a0_0, .int .i64 a0_1, .slice (some ad439) l0_2.length c0_2] 29 (0, 0))) := ⟨h2_⟩
         have n3_ : Aside0 (w20.heap[gb438]? = some (.cells #[.int .i64 0, .int .i64 0, .slice none 0 0] 29 (0, 0))) := ⟨h3_⟩
         have n4_ : Aside0 (Below w.heap.size w w20) := ⟨h4_⟩
         clear BK437
         clear BK438
         clear HB
         clear h0_ h1_ h2_ h3_ h4_
         have HO444 := n0_
         have HO450 := n1_
         have BK437 := n2_
         have BK438 := n3_
         have HB := n4_
         clear n0_ n1_ n2_ n3_ n4_
         have hHeld : w20.cell? ⟨gb437, 0, none⟩ = some (.int .i64 a0_0) ∧ w20.cell? ⟨gb437, 1, none⟩ = some (.int .i64 a0_1) ∧ w20.cell? ⟨gb437, 2, none⟩ = some (.slice (some ad439) l0_2.length c0_2) ∧ w20.cell? ad439 = some (.int .i64 ((rd_T29 l0_2 0).f0)) ∧ w20.cell? ⟨ad439.block, ad439.off + 1, none⟩ = some (.int .i64 ((rd_T29 l0_2 0).f1)) ∧ w20.cell? ⟨ad439.block, ad439.off + 2, none⟩ = some (.slice A439_2 ((rd_T29 l0_2 0).f2).length c439_2) ∧ w20.cell? ⟨ad439.block, ad439.off + 3, none⟩ = some (.int .i64 ((rd_T29 l0_2 1).f0)) ∧ w20.cell? ⟨ad439.block, ad439.off + 3 + 1, none⟩ = some (.int .i64 ((rd_T29 l0_2 1).f1)) ∧ w20.cell? ⟨ad439.block, ad439.off + 3 + 2, none⟩ = some (.slice A445_2 ((rd_T29 l0_2 1).f2).length c445_2) := hS_
         refine norm_ (a' := ?_) ?_ ?_
         rotate_left
         ·simp only [putAll, Act.put, List.setIfInBounds_toArray, List.set_cons_zero, List.set_cons_succ]
          rfl
         refine two_ (i := 10) (j := 11) (Ni := some 3) (Nj := some 4) #[true, true, true, true, true, true, true, true, true, true, true, false, false, false] #[true, true, true, true, true, true, true, true, true, true, false, true, false, false] rfl rfl rfl rfl (two_of HT_.out (by kernel_rfl)) (by decide) (by decide) (fun K hK => ?_) (fun K hK => ?_)
         ·skip
          refine box_step ?hg (N := 3) ?hd (cs := #[.int .i64 0, .int .i64 0, .slice none 0 0]) (t := 29) ?hr ?_; (case hd => rfl); (case hg => rfl); (case hr => first | (go_simp; done) | (go_simp; rfl))
          intro gb451 hg w21 hbox hb
          have n0_ := X1 (Kd.N_below (Kd.N_elderB (by (with_reducible repeat (first | apply Kd.N_alloc | apply Kd.N_drewN | apply Kd.N_drew)); exact HO444.out) gb451 (Nat.le_of_eq hg.symm)) hb)
          have n1_ := X1 (Kd.N_below (Kd.N_elderB (by (with_reducible repeat (first | apply Kd.N_alloc | apply Kd.N_drewN | apply Kd.N_drew)); exact HO450.out) gb451 (Nat.le_of_eq hg.symm)) hb)
          have n2_ := X1 (blk_below (g := gb437) (o := .cells #[.int .i64 a0_0, .int .i64 a0_1, .slice (some ad439) l0_2.length c0_2] 29 (0, 0)) (by (with_reducible repeat (first | refine X7 ?_ _ | refine X8 ?_ | refine X6 ?_ _)); exact BK437.out) hb)
          have n3_ := X1 (blk_below (g := gb438) (o := .cells #[.int .i64 0, .int .i64 0, .slice none 0 0] 29 (0, 0)) (by (with_reducible repeat (first | refine X7 ?_ _ | refine X8 ?_ | refine X6 ?_ _)); exact BK438.out) hb)
          have n4_ := X1 (below_step (by repeat (first | (with_reducible first | exact HB.out | apply X5 | apply X4 | apply X3 | refine X10 ?_ GE437.out | refine X10 ?_ GE438.out) | exact HB.out)) hb)
          have n5_ := X1 (hbox)
          have n6_ := X1 ((by rw [hg]; exact (below_size (by repeat (first | (with_reducible first | exact HB.out | apply X5 | apply X4 | apply X3 | refine X10 ?_ GE437.out | refine X10 ?_ GE438.out) | exact HB.out))) : w.heap.size ≤ gb451))
          have n7_ := X1 ((by rw [hg]; exact (below_size (by repeat (first | (with_reducible first | exact HB.out | apply X5 | apply X4 | apply X3 | refine X10 ?_ GE437.out | refine X10 ?_ GE438.out) | exact HB.out))) : w.heap.size ≤ gb451))
          have n8_ := X1 ((by rw [hg]; exact Nat.ne_of_lt (blk_lt (g := gb437) (o := .cells #[.int .i64 a0_0, .int .i64 a0_1, .slice (some ad439) l0_2.length c0_2] 29 (0, 0)) (by (with_reducible repeat (first | refine X7 ?_ _ | refine X8 ?_ | refine X6 ?_ _)); exact BK437.out)) : gb437 ≠ gb451))
          have n9_ := X1 ((by rw [hg]; exact Nat.ne_of_gt (blk_lt (g := gb437) (o := .cells #[.int .i64 a0_0, .int .i64 a0_1, .slice (some ad439) l0_2.length c0_2] 29 (0, 0)) (by (with_reducible repeat (first | refine X7 ?_ _ | refine X8 ?_ | refine X6 ?_ _)); exact BK437.out)) : gb451 ≠ gb437))
          have n10_ := X1 ((by rw [hg]; exact Nat.ne_of_lt (blk_lt (g := gb438) (o := .cells #[.int .i64 0, .int .i64 0, .slice none 0 0] 29 (0, 0)) (by (with_reducible repeat (first | refine X7 ?_ _ | refine X8 ?_ | refine X6 ?_ _)); exact BK438.out)) : gb438 ≠ gb451))
          have n11_ := X1 ((by rw [hg]; exact Nat.ne_of_gt (blk_lt (g := gb438) (o := .cells #[.int .i64 0, .int .i64 0, .slice none 0 0] 29 (0, 0)) (by (with_reducible repeat (first | refine X7 ?_ _ | refine X8 ?_ | refine X6 ?_ _)); exact BK438.out)) : gb451 ≠ gb438))
          clear HO444
          clear HO450
          clear BK437
          clear BK438
          clear HB
          have HO444 := n0_
          have HO450 := n1_
          have BK437 := n2_
          have BK438 := n3_
          have HB := n4_
          have BK451 := n5_
          have GW451 := n6_
          have GE451 := n7_
          have NB437_451 := n8_
          have NB451_437 := n9_
          have NB438_451 := n10_
          have NB451_438 := n11_
          clear n0_ n1_ n2_ n3_ n4_ n5_ n6_ n7_ n8_ n9_ n10_ n11_
          clear hb hbox hg
          refine hK.out _ _ ⟨(X11 BK437.out 0).trans rfl, (X11 BK437.out 1).trans rfl, (X11 BK437.out 2).trans rfl, ((HB.out.cell (X9 w _ hw439_0)).trans hw439_0), ((HB.out.cell (X9 w _ hw439_1)).trans hw439_1), ((HB.out.cell (X9 w _ hw439_2)).trans hw439_2), ((HB.out.cell (X9 w _ hw445_0)).trans hw445_0), ((HB.out.cell (X9 w _ hw445_1)).trans hw445_1), ((HB.out.cell (X9 w _ hw445_2)).trans hw445_2)⟩ (fun hHeld => ?_)
          clear hK K
          refine norm_ (a' := ?_) ?_ ?_
          rotate_left
          ·show Act.put _ (some 3) _ = _
           simp only [Act.put, List.setIfInBounds_toArray, List.set_cons_zero, List.set_cons_succ, i64_w, i32_w]
           rfl
          exact norm_ (by first | (simp only [putAll, Act.put, List.setIfInBounds_toArray, List.set_cons_zero, List.set_cons_succ]; done) | (simp only [putAll, Act.put, List.setIfInBounds_toArray, List.set_cons_zero, List.set_cons_succ]; rfl)) (hJ4_9_10 (v443, v449, gb451) _ ⟨hHeld, (by (with_reducible repeat (first | apply Kd.N_alloc | apply Kd.N_drewN | apply Kd.N_drew)); exact Kd.N_mono HO444.out (fun _ hk => ⟨hk.1.1, ⟨hk.1.2.1, ⟨hk.1.2.2.1, ⟨hk.1.2.2.2, hk.2⟩⟩⟩⟩)), (by (with_reducible repeat (first | apply Kd.N_alloc | apply Kd.N_drewN | apply Kd.N_drew)); exact Kd.N_mono HO450.out (fun _ hk => ⟨hk.1.1, ⟨hk.1.2.1, ⟨hk.1.2.2.1, ⟨hk.1.2.2.2, hk.2⟩⟩⟩⟩)), (by (with_reducible repeat (first | refine X7 ?_ _ | refine X8 ?_ | refine X6 ?_ _)); exact BK437.out), (by (with_reducible repeat (first | refine X7 ?_ _ | refine X8 ?_ | refine X6 ?_ _)); exact BK438.out), (by (with_reducible repeat (first | refine X7 ?_ _ | refine X8 ?_ | refine X6 ?_ _)); exact BK451.out), GW451.out, GE451.out, NB437_451.out, NB451_437.out, NB438_451.out, NB451_438.out, (by repeat (first | (with_reducible first | exact HB.out | apply X5 | apply X4 | apply X3 | refine X10 ?_ GE437.out | refine X10 ?_ GE438.out | refine X10 ?_ GE451.out) | exact HB.out))⟩)
         ·skip
          refine box_step ?hg (N := 4) ?hd (cs := #[.int .i64 0, .int .i64 0, .slice none 0 0]) (t := 29) ?hr ?_; (case hd => rfl); (case hg => rfl); (case hr => first | (go_simp; done) | (go_simp; rfl))
          intro gb452 hg w21 hbox hb
          have n0_ := X1 (Kd.N_below (Kd.N_elderB (by (with_reducible repeat (first | apply Kd.N_alloc | apply Kd.N_drewN | apply Kd.N_drew)); exact HO444.out) gb452 (Nat.le_of_eq hg.symm)) hb)
          have n1_ := X1 (Kd.N_below (Kd.N_elderB (by (with_reducible repeat (first | apply Kd.N_alloc | apply Kd.N_drewN | apply Kd.N_drew)); exact HO450.out) gb452 (Nat.le_of_eq hg.symm)) hb)
          have n2_ := X1 (blk_below (g := gb437) (o := .cells #[.int .i64 a0_0, .int .i64 a0_1, .slice (some ad439) l0_2.length c0_2] 29 (0, 0)) (by (with_reducible repeat (first | refine X7 ?_ _ | refine X8 ?_ | refine X6 ?_ _)); exact BK437.out) hb)
          have n3_ := X1 (blk_below (g := gb438) (o := .cells #[.int .i64 0, .int .i64 0, .slice none 0 0] 29 (0, 0)) (by (with_reducible repeat (first | refine X7 ?_ _ | refine X8 ?_ | refine X6 ?_ _)); exact BK438.out) hb)
          have n4_ := X1 (below_step (by repeat (first | (with_reducible first | exact HB.out | apply X5 | apply X4 | apply X3 | refine X10 ?_ GE437.out | refine X10 ?_ GE438.out) | exact HB.out)) hb)
          have n5_ := X1 (hbox)
          have n6_ := X1 ((by rw [hg]; exact (below_size (by repeat (first | (with_reducible first | exact HB.out | apply X5 | apply X4 | apply X3 | refine X10 ?_ GE437.out | refine X10 ?_ GE438.out) | exact HB.out))) : w.heap.size ≤ gb452))
          have n7_ := X1 ((by rw [hg]; exact (below_size (by repeat (first | (with_reducible first | exact HB.out | apply X5 | apply X4 | apply X3 | refine X10 ?_ GE437.out | refine X10 ?_ GE438.out) | exact HB.out))) : w.heap.size ≤ gb452))
          have n8_ := X1 ((by rw [hg]; exact Nat.ne_of_lt (blk_lt (g := gb437) (o := .cells #[.int .i64 a0_0, .int .i64 a0_1, .slice (some ad439) l0_2.length c0_2] 29 (0, 0)) (by (with_reducible repeat (first | refine X7 ?_ _ | refine X8 ?_ | refine X6 ?_ _)); exact BK437.out)) : gb437 ≠ gb452))
          have n9_ := X1 ((by rw [hg]; exact Nat.ne_of_gt (blk_lt (g := gb437) (o := .cells #[.int .i64 a0_0, .int .i64 a0_1, .slice (some ad439) l0_2.length c0_2] 29 (0, 0)) (by (with_reducible repeat (first | refine X7 ?_ _ | refine X8 ?_ | refine X6 ?_ _)); exact BK437.out)) : gb452 ≠ gb437))
          have n10_ := X1 ((by rw [hg]; exact Nat.ne_of_lt (blk_lt (g := gb438) (o := .cells #[.int .i64 0, .int .i64 0, .slice none 0 0] 29 (0, 0)) (by (with_reducible repeat (first | refine X7 ?_ _ | refine X8 ?_ | refine X6 ?_ _)); exact BK438.out)) : gb438 ≠ gb452))
          have n11_ := X1 ((by rw [hg]; exact Nat.ne_of_gt (blk_lt (g := gb438) (o := .cells #[.int .i64 0, .int .i64 0, .slice none 0 0] 29 (0, 0)) (by (with_reducible repeat (first | refine X7 ?_ _ | refine X8 ?_ | refine X6 ?_ _)); exact BK438.out)) : gb452 ≠ gb438))
          clear HO444
          clear HO450
          clear BK437
          clear BK438
          clear HB
          have HO444 := n0_
          have HO450 := n1_
          have BK437 := n2_
          have BK438 := n3_
          have HB := n4_
          have BK452 := n5_
          have GW452 := n6_
          have GE452 := n7_
          have NB437_452 := n8_
          have NB452_437 := n9_
          have NB438_452 := n10_
          have NB452_438 := n11_
          clear n0_ n1_ n2_ n3_ n4_ n5_ n6_ n7_ n8_ n9_ n10_ n11_
          clear hb hbox hg
          refine hK.out _ _ ⟨(X11 BK437.out 0).trans rfl, (X11 BK437.out 1).trans rfl, (X11 BK437.out 2).trans rfl, ((HB.out.cell (X9 w _ hw439_0)).trans hw439_0), ((HB.out.cell (X9 w _ hw439_1)).trans hw439_1), ((HB.out.cell (X9 w _ hw439_2)).trans hw439_2), ((HB.out.cell (X9 w _ hw445_0)).trans hw445_0), ((HB.out.cell (X9 w _ hw445_1)).trans hw445_1), ((HB.out.cell (X9 w _ hw445_2)).trans hw445_2)⟩ (fun hHeld => ?_)
          clear hK K
          refine norm_ (a' := ?_) ?_ ?_
          rotate_left
          ·show Act.put _ (some 4) _ = _
           simp only [Act.put, List.setIfInBounds_toArray, List.set_cons_zero, List.set_cons_succ, i64_w, i32_w]
           rfl
          exact norm_ (by first | (simp only [putAll, Act.put, List.setIfInBounds_toArray, List.set_cons_zero, List.set_cons_succ]; done) | (simp only [putAll, Act.put, List.setIfInBounds_toArray, List.set_cons_zero, List.set_cons_succ]; rfl)) (hJ4_9_11 (v443, v449, gb452) _ ⟨hHeld, (by (with_reducible repeat (first | apply Kd.N_alloc | apply Kd.N_drewN | apply Kd.N_drew)); exact Kd.N_mono HO444.out (fun _ hk => ⟨hk.1.1, ⟨hk.1.2.1, ⟨hk.1.2.2.1, ⟨hk.1.2.2.2, hk.2⟩⟩⟩⟩)), (by (with_reducible repeat (first | apply Kd.N_alloc | apply Kd.N_drewN | apply Kd.N_drew)); exact Kd.N_mono HO450.out (fun _ hk => ⟨hk.1.1, ⟨hk.1.2.1, ⟨hk.1.2.2.1, ⟨hk.1.2.2.2, hk.2⟩⟩⟩⟩)), (by (with_reducible repeat (first | refine X7 ?_ _ | refine X8 ?_ | refine X6 ?_ _)); exact BK437.out), (by (with_reducible repeat (first | refine X7 ?_ _ | refine X8 ?_ | refine X6 ?_ _)); exact BK438.out), (by (with_reducible repeat (first | refine X7 ?_ _ | refine X8 ?_ | refine X6 ?_ _)); exact BK452.out), GW452.out, GE452.out, NB437_452.out, NB452_437.out, NB438_452.out, NB452_438.out, (by repeat (first | (with_reducible first | exact HB.out | apply X5 | apply X4 | apply X3 | refine X10 ?_ GE437.out | refine X10 ?_ GE438.out | refine X10 ?_ GE452.out) | exact HB.out))⟩)
       ·skip
        rintro ⟨v443, gb451, gb452⟩ w21 ⟨hS_, h0_, h1_, h2_, h3_, h4_, h5_, h6_, h7_, h8_, h9_, h10_, h11_, h12_, h13_, h14_, h15_, h16_, h17_, h18_, h19_⟩
        have n0_ : Aside0 (Kd.N k29 29 w21 w.heap.size (fun k_ => (w.heap.size ≤ k_) ∧ k_ ≠ gb437 ∧ k_ ≠ gb438 ∧ k_ ≠ gb451 ∧ k_ ≠ gb452) v443 t442) := ⟨h0_⟩
        have n1_ : Aside0 (w21.heap[gb437]? = some (.cells #[.int .i64 a0_0, .int .i64 a0_1, .slice (some ad439) l0_2.length c0_2] 29 (0, 0))) := ⟨h1_⟩
        have n2_ : Aside0 (w21.heap[gb438]? = some (.cells #[.int .i64 0, .int .i64 0, .slice none 0 0] 29 (0, 0))) := ⟨h2_⟩
        have n3_ : Aside0 (w21.heap[gb451]? = some (.cells #[.int .i64 0, .int .i64 0, .slice none 0 0] 29 (0, 0))) := ⟨h3_⟩
        have n4_ : Aside0 (w21.heap[gb452]? = some (.cells #[.int .i64 0, .int .i64 0, .slice none 0 0] 29 (0, 0))) := ⟨h4_⟩
        have n5_ : Aside0 (w.heap.size ≤ gb451) := ⟨h5_⟩
        have n6_ : Aside0 (w.heap.size ≤ gb451) := ⟨h6_⟩
        have n7_ : Aside0 (gb437 ≠ gb451) := ⟨h7_⟩
        have n8_ : Aside0 (gb451 ≠ gb437) := ⟨h8_⟩
        have n9_ : Aside0 (gb438 ≠ gb451) := ⟨h9_⟩
        have n10_ : Aside0 (gb451 ≠ gb438) := ⟨h10_⟩
        have n11_ : Aside0 (gb452 ≠ gb451) := ⟨h11_⟩
        have n12_ : Aside0 (gb451 ≠ gb452) := ⟨h12_⟩
        have n13_ : Aside0 (w.heap.size ≤ gb452) := ⟨h13_⟩
        have n14_ : Aside0 (w.heap.size ≤ gb452) := ⟨h14_⟩
        have n15_ : Aside0 (gb437 ≠ gb452) := ⟨h15_⟩
        have n16_ : Aside0 (gb452 ≠ gb437) := ⟨h16_⟩
        have n17_ : Aside0 (gb438 ≠ gb452) := ⟨h17_⟩
        have n18_ : Aside0 (gb452 ≠ gb438) := ⟨h18_⟩
        have n19_ : Aside0 (Below w.heap.size w w21) := ⟨h19_⟩
        clear BK437
        clear BK438
        clear HB
        clear h0_ h1_ h2_ h3_ h4_ h5_ h6_ h7_ h8_ h9_ h10_ h11_ h12_ h13_ h14_ h15_ h16_ h17_ h18_ h19_
        have HO444 := n0_
        have BK437 := n1_
        have BK438 := n2_
        have BK451 := n3_
        have BK452 := n4_
        have GW451 := n5_
        have GE451 := n6_
        have NB437_451 := n7_
        have NB451_437 := n8_
        have NB438_451 := n9_
        have NB451_438 := n10_
        have NB452_451 := n11_
        have NB451_452 := n12_
        have GW452 := n13_
        have GE452 := n14_
        have NB437_452 := n15_
        have NB452_437 := n16_
        have NB438_452 := n17_
        have NB452_438 := n18_
        have HB := n19_
        clear n0_ n1_ n2_ n3_ n4_ n5_ n6_ n7_ n8_ n9_ n10_ n11_ n12_ n13_ n14_ n15_ n16_ n17_ n18_ n19_
        have hHeld : w21.cell? ⟨gb437, 0, none⟩ = some (.int .i64 a0_0) ∧ w21.cell? ⟨gb437, 1, none⟩ = some (.int .i64 a0_1) ∧ w21.cell? ⟨gb437, 2, none⟩ = some (.slice (some ad439) l0_2.length c0_2) ∧ w21.cell? ad439 = some (.int .i64 ((rd_T29 l0_2 0).f0)) ∧ w21.cell? ⟨ad439.block, ad439.off + 1, none⟩ = some (.int .i64 ((rd_T29 l0_2 0).f1)) ∧ w21.cell? ⟨ad439.block, ad439.off + 2, none⟩ = some (.slice A439_2 ((rd_T29 l0_2 0).f2).length c439_2) ∧ w21.cell? ⟨ad439.block, ad439.off + 3, none⟩ = some (.int .i64 ((rd_T29 l0_2 1).f0)) ∧ w21.cell? ⟨ad439.block, ad439.off + 3 + 1, none⟩ = some (.int .i64 ((rd_T29 l0_2 1).f1)) ∧ w21.cell? ⟨ad439.block, ad439.off + 3 + 2, none⟩ = some (.slice A445_2 ((rd_T29 l0_2 1).f2).length c445_2) := hS_
        refine norm_ (a' := ?_) ?_ ?_
        rotate_left
        ·simp only [putAll, Act.put, List.setIfInBounds_toArray, List.set_cons_zero, List.set_cons_succ]
         rfl
        refine one_ (i := 9) (N := some 24) #[true, true, true, true, true, true, true, true, true, true, true, true, false, false] rfl rfl (one_of HT_.out (by kernel_rfl)) (by decide) (fun K hK => ?_)
        refine goes_ Try.func49 (by kernel_rfl) rfl #[.agg #[.int .i64 ((rd_T29 l0_2 1).f0), .int .i64 ((rd_T29 l0_2 1).f1), .slice A445_2 ((rd_T29 l0_2 1).f2).length c445_2]] (by rfl) rfl rfl (by (try simp only [List.map_toArray, List.map_cons, List.map_nil]); first | done | rfl | (simp only [List.length_drop, List.length_take]; rfl)) ?_
        with_reducible refine (ih k (by omega) ((rd_T29 l0_2 1).f0) ((rd_T29 l0_2 1).f1) _ _ ((rd_T29 l0_2 1).f2) t446 t447 t448 _ ?side1 ?side2 A11.out).mono ?_
        (case side1 => repeat (first | exact (Kd.C_below HR445_2.out HB.out) | (with_reducible refine Kd.C_alloc ?_ _) | (with_reducible refine Kd.C_drewN ?_ _) | (with_reducible refine Kd.C_drew ?_)))
        (case side2 => exact HC445_2.out)
        rintro e w22 ⟨v449, rfl, ho0, hb⟩
        refine ⟨_, rfl, ?_⟩
        have n0_ := X1 (Kd.N_elder' (by (with_reducible repeat (first | apply Kd.N_alloc | apply Kd.N_drewN | apply Kd.N_drew)); exact HO444.out) (by first | exact Kd.N_base ho0 | exact Kd.R_base ho0) hb)
        have n1_ := X1 (Kd.N_lower (Kd.N_mono (ok' := fun k_ => (w.heap.size ≤ k_) ∧ some k_ ≠ (v443 : Value).ownBlock ∧ k_ ≠ gb437 ∧ k_ ≠ gb438 ∧ k_ ≠ gb451 ∧ k_ ≠ gb452) ho0 (fun k_ hk_ => ⟨(Nat.le_trans (below_size (by repeat (first | (with_reducible first | exact HB.out | apply X5 | apply X4 | apply X3 | refine X10 ?_ GE437.out | refine X10 ?_ GE438.out | refine X10 ?_ GE451.out | refine X10 ?_ GE452.out) | exact HB.out))) hk_), (Kd.fresh' (Kd.N_lt (by (with_reducible repeat (first | apply Kd.N_alloc | apply Kd.N_drewN | apply Kd.N_drew)); exact HO444.out)) k_ hk_), (Kd.freshB (g := gb437) (o := .cells #[.int .i64 a0_0, .int .i64 a0_1, .slice (some ad439) l0_2.length c0_2] 29 (0, 0)) (by (with_reducible repeat (first | refine X7 ?_ _ | refine X8 ?_ | refine X6 ?_ _)); exact BK437.out) k_ hk_), (Kd.freshB (g := gb438) (o := .cells #[.int .i64 0, .int .i64 0, .slice none 0 0] 29 (0, 0)) (by (with_reducible repeat (first | refine X7 ?_ _ | refine X8 ?_ | refine X6 ?_ _)); exact BK438.out) k_ hk_), (Kd.freshB (g := gb451) (o := .cells #[.int .i64 0, .int .i64 0, .slice none 0 0] 29 (0, 0)) (by (with_reducible repeat (first | refine X7 ?_ _ | refine X8 ?_ | refine X6 ?_ _)); exact BK451.out) k_ hk_), (Kd.freshB (g := gb452) (o := .cells #[.int .i64 0, .int .i64 0, .slice none 0 0] 29 (0, 0)) (by (with_reducible repeat (first | refine X7 ?_ _ | refine X8 ?_ | refine X6 ?_ _)); exact BK452.out) k_ hk_)⟩)) (below_size (by repeat (first | (with_reducible first | exact HB.out | apply X5 | apply X4 | apply X3 | refine X10 ?_ GE437.out | refine X10 ?_ GE438.out | refine X10 ?_ GE451.out | refine X10 ?_ GE452.out) | exact HB.out))))
        have n2_ := X1 (blk_below (g := gb437) (o := .cells #[.int .i64 a0_0, .int .i64 a0_1, .slice (some ad439) l0_2.length c0_2] 29 (0, 0)) (by (with_reducible repeat (first | refine X7 ?_ _ | refine X8 ?_ | refine X6 ?_ _)); exact BK437.out) hb)
        have n3_ := X1 (blk_below (g := gb438) (o := .cells #[.int .i64 0, .int .i64 0, .slice none 0 0] 29 (0, 0)) (by (with_reducible repeat (first | refine X7 ?_ _ | refine X8 ?_ | refine X6 ?_ _)); exact BK438.out) hb)
        have n4_ := X1 (blk_below (g := gb451) (o := .cells #[.int .i64 0, .int .i64 0, .slice none 0 0] 29 (0, 0)) (by (with_reducible repeat (first | refine X7 ?_ _ | refine X8 ?_ | refine X6 ?_ _)); exact BK451.out) hb)
        have n5_ := X1 (blk_below (g := gb452) (o := .cells #[.int .i64 0, .int .i64 0, .slice none 0 0] 29 (0, 0)) (by (with_reducible repeat (first | refine X7 ?_ _ | refine X8 ?_ | refine X6 ?_ _)); exact BK452.out) hb)
        have n6_ := X1 (below_step (by repeat (first | (with_reducible first | exact HB.out | apply X5 | apply X4 | apply X3 | refine X10 ?_ GE437.out | refine X10 ?_ GE438.out | refine X10 ?_ GE451.out | refine X10 ?_ GE452.out) | exact HB.out)) hb)
        clear HO444
        clear BK437
        clear BK438
        clear BK451
        clear BK452
        clear HB
        have HO444 := n0_
        have HO450 := n1_
        have BK437 := n2_
        have BK438 := n3_
        have BK451 := n4_
        have BK452 := n5_
        have HB := n6_
        clear n0_ n1_ n2_ n3_ n4_ n5_ n6_
        (try clear hb)
        (try clear hb2)
        (try clear hk)
        (try clear hi)
        (try clear ho0)
        refine hK.out _ _ ⟨(X11 BK437.out 0).trans rfl, (X11 BK437.out 1).trans rfl, (X11 BK437.out 2).trans rfl, ((HB.out.cell (X9 w _ hw439_0)).trans hw439_0), ((HB.out.cell (X9 w _ hw439_1)).trans hw439_1), ((HB.out.cell (X9 w _ hw439_2)).trans hw439_2), ((HB.out.cell (X9 w _ hw445_0)).trans hw445_0), ((HB.out.cell (X9 w _ hw445_1)).trans hw445_1), ((HB.out.cell (X9 w _ hw445_2)).trans hw445_2)⟩ (fun hHeld => ?_)
        clear hK K
        refine norm_ (a' := ?_) ?_ ?_
        rotate_left
        ·show Act.put _ (some 24) _ = _
         simp only [Act.put, List.setIfInBounds_toArray, List.set_cons_zero, List.set_cons_succ, i64_w, i32_w]
         rfl
        exact norm_ (by first | (simp only [putAll, Act.put, List.setIfInBounds_toArray, List.set_cons_zero, List.set_cons_succ]; done) | (simp only [putAll, Act.put, List.setIfInBounds_toArray, List.set_cons_zero, List.set_cons_succ]; rfl)) (hJ4_9_10_11 (v443, v449, gb451, gb452) _ ⟨hHeld, (by (with_reducible repeat (first | apply Kd.N_alloc | apply Kd.N_drewN | apply Kd.N_drew)); exact Kd.N_mono HO444.out (fun _ hk => ⟨hk.1.1, ⟨hk.2, ⟨hk.1.2.1, ⟨hk.1.2.2.1, ⟨hk.1.2.2.2.1, hk.1.2.2.2.2⟩⟩⟩⟩⟩)), (by (with_reducible repeat (first | apply Kd.N_alloc | apply Kd.N_drewN | apply Kd.N_drew)); exact HO450.out), (by (with_reducible repeat (first | refine X7 ?_ _ | refine X8 ?_ | refine X6 ?_ _)); exact BK437.out), (by (with_reducible repeat (first | refine X7 ?_ _ | refine X8 ?_ | refine X6 ?_ _)); exact BK438.out), (by (with_reducible repeat (first | refine X7 ?_ _ | refine X8 ?_ | refine X6 ?_ _)); exact BK451.out), (by (with_reducible repeat (first | refine X7 ?_ _ | refine X8 ?_ | refine X6 ?_ _)); exact BK452.out), GW451.out, GE451.out, NB437_451.out, NB451_437.out, NB438_451.out, NB451_438.out, NB452_451.out, NB451_452.out, GW452.out, GE452.out, NB437_452.out, NB452_437.out, NB438_452.out, NB452_438.out, (by repeat (first | (with_reducible first | exact HB.out | apply X5 | apply X4 | apply X3 | refine X10 ?_ GE437.out | refine X10 ?_ GE438.out | refine X10 ?_ GE451.out | refine X10 ?_ GE452.out) | exact HB.out))⟩)
      ·skip
       rintro ⟨v443, v449, gb452⟩ w21 ⟨hS_, h0_, h1_, h2_, h3_, h4_, h5_, h6_, h7_, h8_, h9_, h10_, h11_⟩
       have n0_ : Aside0 (Kd.N k29 29 w21 w.heap.size (fun k_ => (w.heap.size ≤ k_) ∧ some k_ ≠ (v449 : Value).ownBlock ∧ k_ ≠ gb437 ∧ k_ ≠ gb438 ∧ k_ ≠ gb452) v443 t442) := ⟨h0_⟩
       have n1_ : Aside0 (Kd.N k29 29 w21 w.heap.size (fun k_ => (w.heap.size ≤ k_) ∧ some k_ ≠ (v443 : Value).ownBlock ∧ k_ ≠ gb437 ∧ k_ ≠ gb438 ∧ k_ ≠ gb452) v449 t448) := ⟨h1_⟩
       have n2_ : Aside0 (w21.heap[gb437]? = some (.cells #[.int .i64 a0_0, .int .i64 a0_1, .slice (some ad439) l0_2.length c0_2] 29 (0, 0))) := ⟨h2_⟩
       have n3_ : Aside0 (w21.heap[gb438]? = some (.cells #[.int .i64 0, .int .i64 0, .slice none 0 0] 29 (0, 0))) := ⟨h3_⟩
       have n4_ : Aside0 (w21.heap[gb452]? = some (.cells #[.int .i64 0, .int .i64 0, .slice none 0 0] 29 (0, 0))) := ⟨h4_⟩
       have n5_ : Aside0 (w.heap.size ≤ gb452) := ⟨h5_⟩
       have n6_ : Aside0 (w.heap.size ≤ gb452) := ⟨h6_⟩
       have n7_ : Aside0 (gb437 ≠ gb452) := ⟨h7_⟩
       have n8_ : Aside0 (gb452 ≠ gb437) := ⟨h8_⟩
       have n9_ : Aside0 (gb438 ≠ gb452) := ⟨h9_⟩
       have n10_ : Aside0 (gb452 ≠ gb438) := ⟨h10_⟩
       have n11_ : Aside0 (Below w.heap.size w w21) := ⟨h11_⟩
       clear BK437
       clear BK438
       clear HB
       clear h0_ h1_ h2_ h3_ h4_ h5_ h6_ h7_ h8_ h9_ h10_ h11_
       have HO444 := n0_
       have HO450 := n1_
       have BK437 := n2_
       have BK438 := n3_
       have BK452 := n4_
       have GW452 := n5_
       have GE452 := n6_
       have NB437_452 := n7_
       have NB452_437 := n8_
       have NB438_452 := n9_
       have NB452_438 := n10_
       have HB := n11_
       clear n0_ n1_ n2_ n3_ n4_ n5_ n6_ n7_ n8_ n9_ n10_ n11_
       have hHeld : w21.cell? ⟨gb437, 0, none⟩ = some (.int .i64 a0_0) ∧ w21.cell? ⟨gb437, 1, none⟩ = some (.int .i64 a0_1) ∧ w21.cell? ⟨gb437, 2, none⟩ = some (.slice (some ad439) l0_2.length c0_2) ∧ w21.cell? ad439 = some (.int .i64 ((rd_T29 l0_2 0).f0)) ∧ w21.cell? ⟨ad439.block, ad439.off + 1, none⟩ = some (.int .i64 ((rd_T29 l0_2 0).f1)) ∧ w21.cell? ⟨ad439.block, ad439.off + 2, none⟩ = some (.slice A439_2 ((rd_T29 l0_2 0).f2).length c439_2) ∧ w21.cell? ⟨ad439.block, ad439.off + 3, none⟩ = some (.int .i64 ((rd_T29 l0_2 1).f0)) ∧ w21.cell? ⟨ad439.block, ad439.off + 3 + 1, none⟩ = some (.int .i64 ((rd_T29 l0_2 1).f1)) ∧ w21.cell? ⟨ad439.block, ad439.off + 3 + 2, none⟩ = some (.slice A445_2 ((rd_T29 l0_2 1).f2).length c445_2) := hS_
       refine norm_ (a' := ?_) ?_ ?_
       rotate_left
       ·simp only [putAll, Act.put, List.setIfInBounds_toArray, List.set_cons_zero, List.set_cons_succ]
        rfl
       refine one_ (i := 10) (N := some 3) #[true, true, true, true, true, true, true, true, true, true, true, true, false, false] rfl rfl (one_of HT_.out (by kernel_rfl)) (by decide) (fun K hK => ?_)
       refine box_step ?hg (N := 3) ?hd (cs := #[.int .i64 0, .int .i64 0, .slice none 0 0]) (t := 29) ?hr ?_; (case hd => rfl); (case hg => rfl); (case hr => first | (go_simp; done) | (go_simp; rfl))
       intro gb451 hg w22 hbox hb
       have n0_ := X1 (Kd.N_below (Kd.N_elderB (by (with_reducible repeat (first | apply Kd.N_alloc | apply Kd.N_drewN | apply Kd.N_drew)); exact HO444.out) gb451 (Nat.le_of_eq hg.symm)) hb)
       have n1_ := X1 (Kd.N_below (Kd.N_elderB (by (with_reducible repeat (first | apply Kd.N_alloc | apply Kd.N_drewN | apply Kd.N_drew)); exact HO450.out) gb451 (Nat.le_of_eq hg.symm)) hb)
       have n2_ := X1 (blk_below (g := gb437) (o := .cells #[.int .i64 a0_0, .int .i64 a0_1, .slice (some ad439) l0_2.length c0_2] 29 (0, 0)) (by (with_reducible repeat (first | refine X7 ?_ _ | refine X8 ?_ | refine X6 ?_ _)); exact BK437.out) hb)
       have n3_ := X1 (blk_below (g := gb438) (o := .cells #[.int .i64 0, .int .i64 0, .slice none 0 0] 29 (0, 0)) (by (with_reducible repeat (first | refine X7 ?_ _ | refine X8 ?_ | refine X6 ?_ _)); exact BK438.out) hb)
       have n4_ := X1 (blk_below (g := gb452) (o := .cells #[.int .i64 0, .int .i64 0, .slice none 0 0] 29 (0, 0)) (by (with_reducible repeat (first | refine X7 ?_ _ | refine X8 ?_ | refine X6 ?_ _)); exact BK452.out) hb)
       have n5_ := X1 (below_step (by repeat (first | (with_reducible first | exact HB.out | apply X5 | apply X4 | apply X3 | refine X10 ?_ GE437.out | refine X10 ?_ GE438.out | refine X10 ?_ GE452.out) | exact HB.out)) hb)
       have n6_ := X1 (hbox)
       have n7_ := X1 ((by rw [hg]; exact (below_size (by repeat (first | (with_reducible first | exact HB.out | apply X5 | apply X4 | apply X3 | refine X10 ?_ GE437.out | refine X10 ?_ GE438.out | refine X10 ?_ GE452.out) | exact HB.out))) : w.heap.size ≤ gb451))
       have n8_ := X1 ((by rw [hg]; exact (below_size (by repeat (first | (with_reducible first | exact HB.out | apply X5 | apply X4 | apply X3 | refine X10 ?_ GE437.out | refine X10 ?_ GE438.out | refine X10 ?_ GE452.out) | exact HB.out))) : w.heap.size ≤ gb451))
       have n9_ := X1 ((by rw [hg]; exact Nat.ne_of_lt (blk_lt (g := gb437) (o := .cells #[.int .i64 a0_0, .int .i64 a0_1, .slice (some ad439) l0_2.length c0_2] 29 (0, 0)) (by (with_reducible repeat (first | refine X7 ?_ _ | refine X8 ?_ | refine X6 ?_ _)); exact BK437.out)) : gb437 ≠ gb451))
       have n10_ := X1 ((by rw [hg]; exact Nat.ne_of_gt (blk_lt (g := gb437) (o := .cells #[.int .i64 a0_0, .int .i64 a0_1, .slice (some ad439) l0_2.length c0_2] 29 (0, 0)) (by (with_reducible repeat (first | refine X7 ?_ _ | refine X8 ?_ | refine X6 ?_ _)); exact BK437.out)) : gb451 ≠ gb437))
       have n11_ := X1 ((by rw [hg]; exact Nat.ne_of_lt (blk_lt (g := gb438) (o := .cells #[.int .i64 0, .int .i64 0, .slice none 0 0] 29 (0, 0)) (by (with_reducible repeat (first | refine X7 ?_ _ | refine X8 ?_ | refine X6 ?_ _)); exact BK438.out)) : gb438 ≠ gb451))
       have n12_ := X1 ((by rw [hg]; exact Nat.ne_of_gt (blk_lt (g := gb438) (o := .cells #[.int .i64 0, .int .i64 0, .slice none 0 0] 29 (0, 0)) (by (with_reducible repeat (first | refine X7 ?_ _ | refine X8 ?_ | refine X6 ?_ _)); exact BK438.out)) : gb451 ≠ gb438))
       have n13_ := X1 ((by rw [hg]; exact Nat.ne_of_lt (blk_lt (g := gb452) (o := .cells #[.int .i64 0, .int .i64 0, .slice none 0 0] 29 (0, 0)) (by (with_reducible repeat (first | refine X7 ?_ _ | refine X8 ?_ | refine X6 ?_ _)); exact BK452.out)) : gb452 ≠ gb451))
       have n14_ := X1 ((by rw [hg]; exact Nat.ne_of_gt (blk_lt (g := gb452) (o := .cells #[.int .i64 0, .int .i64 0, .slice none 0 0] 29 (0, 0)) (by (with_reducible repeat (first | refine X7 ?_ _ | refine X8 ?_ | refine X6 ?_ _)); exact BK452.out)) : gb451 ≠ gb452))
       clear HO444
       clear HO450
       clear BK437
       clear BK438
       clear BK452
       clear HB
       have HO444 := n0_
       have HO450 := n1_
       have BK437 := n2_
       have BK438 := n3_
       have BK452 := n4_
       have HB := n5_
       have BK451 := n6_
       have GW451 := n7_
       have GE451 := n8_
       have NB437_451 := n9_
       have NB451_437 := n10_
       have NB438_451 := n11_
       have NB451_438 := n12_
       have NB452_451 := n13_
       have NB451_452 := n14_
       clear n0_ n1_ n2_ n3_ n4_ n5_ n6_ n7_ n8_ n9_ n10_ n11_ n12_ n13_ n14_
       clear hb hbox hg
       refine hK.out _ _ ⟨(X11 BK437.out 0).trans rfl, (X11 BK437.out 1).trans rfl, (X11 BK437.out 2).trans rfl, ((HB.out.cell (X9 w _ hw439_0)).trans hw439_0), ((HB.out.cell (X9 w _ hw439_1)).trans hw439_1), ((HB.out.cell (X9 w _ hw439_2)).trans hw439_2), ((HB.out.cell (X9 w _ hw445_0)).trans hw445_0), ((HB.out.cell (X9 w _ hw445_1)).trans hw445_1), ((HB.out.cell (X9 w _ hw445_2)).trans hw445_2)⟩ (fun hHeld => ?_)
       clear hK K
       refine norm_ (a' := ?_) ?_ ?_
       rotate_left
       ·show Act.put _ (some 3) _ = _
        simp only [Act.put, List.setIfInBounds_toArray, List.set_cons_zero, List.set_cons_succ, i64_w, i32_w]
        rfl
       exact norm_ (by first | (simp only [putAll, Act.put, List.setIfInBounds_toArray, List.set_cons_zero, List.set_cons_succ]; done) | (simp only [putAll, Act.put, List.setIfInBounds_toArray, List.set_cons_zero, List.set_cons_succ]; rfl)) (hJ4_9_10_11 (v443, v449, gb451, gb452) _ ⟨hHeld, (by (with_reducible repeat (first | apply Kd.N_alloc | apply Kd.N_drewN | apply Kd.N_drew)); exact Kd.N_mono HO444.out (fun _ hk => ⟨hk.1.1, ⟨hk.1.2.1, ⟨hk.1.2.2.1, ⟨hk.1.2.2.2.1, ⟨hk.2, hk.1.2.2.2.2⟩⟩⟩⟩⟩)), (by (with_reducible repeat (first | apply Kd.N_alloc | apply Kd.N_drewN | apply Kd.N_drew)); exact Kd.N_mono HO450.out (fun _ hk => ⟨hk.1.1, ⟨hk.1.2.1, ⟨hk.1.2.2.1, ⟨hk.1.2.2.2.1, ⟨hk.2, hk.1.2.2.2.2⟩⟩⟩⟩⟩)), (by (with_reducible repeat (first | refine X7 ?_ _ | refine X8 ?_ | refine X6 ?_ _)); exact BK437.out), (by (with_reducible repeat (first | refine X7 ?_ _ | refine X8 ?_ | refine X6 ?_ _)); exact BK438.out), (by (with_reducible repeat (first | refine X7 ?_ _ | refine X8 ?_ | refine X6 ?_ _)); exact BK451.out), (by (with_reducible repeat (first | refine X7 ?_ _ | refine X8 ?_ | refine X6 ?_ _)); exact BK452.out), GW451.out, GE451.out, NB437_451.out, NB451_437.out, NB438_451.out, NB451_438.out, NB452_451.out, NB451_452.out, GW452.out, GE452.out, NB437_452.out, NB452_437.out, NB438_452.out, NB452_438.out, (by repeat (first | (with_reducible first | exact HB.out | apply X5 | apply X4 | apply X3 | refine X10 ?_ GE437.out | refine X10 ?_ GE438.out | refine X10 ?_ GE452.out | refine X10 ?_ GE451.out) | exact HB.out))⟩)
     ·skip
      rintro ⟨v443, v449, gb451⟩ w21 ⟨hS_, h0_, h1_, h2_, h3_, h4_, h5_, h6_, h7_, h8_, h9_, h10_, h11_⟩
      have n0_ : Aside0 (Kd.N k29 29 w21 w.heap.size (fun k_ => (w.heap.size ≤ k_) ∧ some k_ ≠ (v449 : Value).ownBlock ∧ k_ ≠ gb437 ∧ k_ ≠ gb438 ∧ k_ ≠ gb451) v443 t442) := ⟨h0_⟩
      have n1_ : Aside0 (Kd.N k29 29 w21 w.heap.size (fun k_ => (w.heap.size ≤ k_) ∧ some k_ ≠ (v443 : Value).ownBlock ∧ k_ ≠ gb437 ∧ k_ ≠ gb438 ∧ k_ ≠ gb451) v449 t448) := ⟨h1_⟩
      have n2_ : Aside0 (w21.heap[gb437]? = some (.cells #[.int .i64 a0_0, .int .i64 a0_1, .slice (some ad439) l0_2.length c0_2] 29 (0, 0))) := ⟨h2_⟩
      have n3_ : Aside0 (w21.heap[gb438]? = some (.cells #[.int .i64 0, .int .i64 0, .slice none 0 0] 29 (0, 0))) := ⟨h3_⟩
      have n4_ : Aside0 (w21.heap[gb451]? = some (.cells #[.int .i64 0, .int .i64 0, .slice none 0 0] 29 (0, 0))) := ⟨h4_⟩
      have n5_ : Aside0 (w.heap.size ≤ gb451) := ⟨h5_⟩
      have n6_ : Aside0 (w.heap.size ≤ gb451) := ⟨h6_⟩
      have n7_ : Aside0 (gb437 ≠ gb451) := ⟨h7_⟩
      have n8_ : Aside0 (gb451 ≠ gb437) := ⟨h8_⟩
      have n9_ : Aside0 (gb438 ≠ gb451) := ⟨h9_⟩
      have n10_ : Aside0 (gb451 ≠ gb438) := ⟨h10_⟩
      have n11_ : Aside0 (Below w.heap.size w w21) := ⟨h11_⟩
      clear BK437
      clear BK438
      clear HB
      clear h0_ h1_ h2_ h3_ h4_ h5_ h6_ h7_ h8_ h9_ h10_ h11_
      have HO444 := n0_
      have HO450 := n1_
      have BK437 := n2_
      have BK438 := n3_
      have BK451 := n4_
      have GW451 := n5_
      have GE451 := n6_
      have NB437_451 := n7_
      have NB451_437 := n8_
      have NB438_451 := n9_
      have NB451_438 := n10_
      have HB := n11_
      clear n0_ n1_ n2_ n3_ n4_ n5_ n6_ n7_ n8_ n9_ n10_ n11_
      have hHeld : w21.cell? ⟨gb437, 0, none⟩ = some (.int .i64 a0_0) ∧ w21.cell? ⟨gb437, 1, none⟩ = some (.int .i64 a0_1) ∧ w21.cell? ⟨gb437, 2, none⟩ = some (.slice (some ad439) l0_2.length c0_2) ∧ w21.cell? ad439 = some (.int .i64 ((rd_T29 l0_2 0).f0)) ∧ w21.cell? ⟨ad439.block, ad439.off + 1, none⟩ = some (.int .i64 ((rd_T29 l0_2 0).f1)) ∧ w21.cell? ⟨ad439.block, ad439.off + 2, none⟩ = some (.slice A439_2 ((rd_T29 l0_2 0).f2).length c439_2) ∧ w21.cell? ⟨ad439.block, ad439.off + 3, none⟩ = some (.int .i64 ((rd_T29 l0_2 1).f0)) ∧ w21.cell? ⟨ad439.block, ad439.off + 3 + 1, none⟩ = some (.int .i64 ((rd_T29 l0_2 1).f1)) ∧ w21.cell? ⟨ad439.block, ad439.off + 3 + 2, none⟩ = some (.slice A445_2 ((rd_T29 l0_2 1).f2).length c445_2) := hS_
      refine norm_ (a' := ?_) ?_ ?_
      rotate_left
      ·simp only [putAll, Act.put, List.setIfInBounds_toArray, List.set_cons_zero, List.set_cons_succ]
       rfl
      refine one_ (i := 11) (N := some 4) #[true, true, true, true, true, true, true, true, true, true, true, true, false, false] rfl rfl (one_of HT_.out (by kernel_rfl)) (by decide) (fun K hK => ?_)
      refine box_step ?hg (N := 4) ?hd (cs := #[.int .i64 0, .int .i64 0, .slice none 0 0]) (t := 29) ?hr ?_; (case hd => rfl); (case hg => rfl); (case hr => first | (go_simp; done) | (go_simp; rfl))
      intro gb452 hg w22 hbox hb
      have n0_ := X1 (Kd.N_below (Kd.N_elderB (by (with_reducible repeat (first | apply Kd.N_alloc | apply Kd.N_drewN | apply Kd.N_drew)); exact HO444.out) gb452 (Nat.le_of_eq hg.symm)) hb)
      have n1_ := X1 (Kd.N_below (Kd.N_elderB (by (with_reducible repeat (first | apply Kd.N_alloc | apply Kd.N_drewN | apply Kd.N_drew)); exact HO450.out) gb452 (Nat.le_of_eq hg.symm)) hb)
      have n2_ := X1 (blk_below (g := gb437) (o := .cells #[.int .i64 a0_0, .int .i64 a0_1, .slice (some ad439) l0_2.length c0_2] 29 (0, 0)) (by (with_reducible repeat (first | refine X7 ?_ _ | refine X8 ?_ | refine X6 ?_ _)); exact BK437.out) hb)
      have n3_ := X1 (blk_below (g := gb438) (o := .cells #[.int .i64 0, .int .i64 0, .slice none 0 0] 29 (0, 0)) (by (with_reducible repeat (first | refine X7 ?_ _ | refine X8 ?_ | refine X6 ?_ _)); exact BK438.out) hb)
      have n4_ := X1 (blk_below (g := gb451) (o := .cells #[.int .i64 0, .int .i64 0, .slice none 0 0] 29 (0, 0)) (by (with_reducible repeat (first | refine X7 ?_ _ | refine X8 ?_ | refine X6 ?_ _)); exact BK451.out) hb)
      have n5_ := X1 (below_step (by repeat (first | (with_reducible first | exact HB.out | apply X5 | apply X4 | apply X3 | refine X10 ?_ GE437.out | refine X10 ?_ GE438.out | refine X10 ?_ GE451.out) | exact HB.out)) hb)
      have n6_ := X1 (hbox)
      have n7_ := X1 ((by rw [hg]; exact (below_size (by repeat (first | (with_reducible first | exact HB.out | apply X5 | apply X4 | apply X3 | refine X10 ?_ GE437.out | refine X10 ?_ GE438.out | refine X10 ?_ GE451.out) | exact HB.out))) : w.heap.size ≤ gb452))
      have n8_ := X1 ((by rw [hg]; exact (below_size (by repeat (first | (with_reducible first | exact HB.out | apply X5 | apply X4 | apply X3 | refine X10 ?_ GE437.out | refine X10 ?_ GE438.out | refine X10 ?_ GE451.out) | exact HB.out))) : w.heap.size ≤ gb452))
      have n9_ := X1 ((by rw [hg]; exact Nat.ne_of_lt (blk_lt (g := gb437) (o := .cells #[.int .i64 a0_0, .int .i64 a0_1, .slice (some ad439) l0_2.length c0_2] 29 (0, 0)) (by (with_reducible repeat (first | refine X7 ?_ _ | refine X8 ?_ | refine X6 ?_ _)); exact BK437.out)) : gb437 ≠ gb452))
      have n10_ := X1 ((by rw [hg]; exact Nat.ne_of_gt (blk_lt (g := gb437) (o := .cells #[.int .i64 a0_0, .int .i64 a0_1, .slice (some ad439) l0_2.length c0_2] 29 (0, 0)) (by (with_reducible repeat (first | refine X7 ?_ _ | refine X8 ?_ | refine X6 ?_ _)); exact BK437.out)) : gb452 ≠ gb437))
      have n11_ := X1 ((by rw [hg]; exact Nat.ne_of_lt (blk_lt (g := gb438) (o := .cells #[.int .i64 0, .int .i64 0, .slice none 0 0] 29 (0, 0)) (by (with_reducible repeat (first | refine X7 ?_ _ | refine X8 ?_ | refine X6 ?_ _)); exact BK438.out)) : gb438 ≠ gb452))
      have n12_ := X1 ((by rw [hg]; exact Nat.ne_of_gt (blk_lt (g := gb438) (o := .cells #[.int .i64 0, .int .i64 0, .slice none 0 0] 29 (0, 0)) (by (with_reducible repeat (first | refine X7 ?_ _ | refine X8 ?_ | refine X6 ?_ _)); exact BK438.out)) : gb452 ≠ gb438))
      have n13_ := X1 ((by rw [hg]; exact Nat.ne_of_lt (blk_lt (g := gb451) (o := .cells #[.int .i64 0, .int .i64 0, .slice none 0 0] 29 (0, 0)) (by (with_reducible repeat (first | refine X7 ?_ _ | refine X8 ?_ | refine X6 ?_ _)); exact BK451.out)) : gb451 ≠ gb452))
      have n14_ := X1 ((by rw [hg]; exact Nat.ne_of_gt (blk_lt (g := gb451) (o := .cells #[.int .i64 0, .int .i64 0, .slice none 0 0] 29 (0, 0)) (by (with_reducible repeat (first | refine X7 ?_ _ | refine X8 ?_ | refine X6 ?_ _)); exact BK451.out)) : gb452 ≠ gb451))
      clear HO444
      clear HO450
      clear BK437
      clear BK438
      clear BK451
      clear HB
      have HO444 := n0_
      have HO450 := n1_
      have BK437 := n2_
      have BK438 := n3_
      have BK451 := n4_
      have HB := n5_
      have BK452 := n6_
      have GW452 := n7_
      have GE452 := n8_
      have NB437_452 := n9_
      have NB452_437 := n10_
      have NB438_452 := n11_
      have NB452_438 := n12_
      have NB451_452 := n13_
      have NB452_451 := n14_
      clear n0_ n1_ n2_ n3_ n4_ n5_ n6_ n7_ n8_ n9_ n10_ n11_ n12_ n13_ n14_
      clear hb hbox hg
      refine hK.out _ _ ⟨(X11 BK437.out 0).trans rfl, (X11 BK437.out 1).trans rfl, (X11 BK437.out 2).trans rfl, ((HB.out.cell (X9 w _ hw439_0)).trans hw439_0), ((HB.out.cell (X9 w _ hw439_1)).trans hw439_1), ((HB.out.cell (X9 w _ hw439_2)).trans hw439_2), ((HB.out.cell (X9 w _ hw445_0)).trans hw445_0), ((HB.out.cell (X9 w _ hw445_1)).trans hw445_1), ((HB.out.cell (X9 w _ hw445_2)).trans hw445_2)⟩ (fun hHeld => ?_)
      clear hK K
      refine norm_ (a' := ?_) ?_ ?_
      rotate_left
      ·show Act.put _ (some 4) _ = _
       simp only [Act.put, List.setIfInBounds_toArray, List.set_cons_zero, List.set_cons_succ, i64_w, i32_w]
       rfl
      exact norm_ (by first | (simp only [putAll, Act.put, List.setIfInBounds_toArray, List.set_cons_zero, List.set_cons_succ]; done) | (simp only [putAll, Act.put, List.setIfInBounds_toArray, List.set_cons_zero, List.set_cons_succ]; rfl)) (hJ4_9_10_11 (v443, v449, gb451, gb452) _ ⟨hHeld, (by (with_reducible repeat (first | apply Kd.N_alloc | apply Kd.N_drewN | apply Kd.N_drew)); exact Kd.N_mono HO444.out (fun _ hk => ⟨hk.1.1, ⟨hk.1.2.1, ⟨hk.1.2.2.1, ⟨hk.1.2.2.2.1, ⟨hk.1.2.2.2.2, hk.2⟩⟩⟩⟩⟩)), (by (with_reducible repeat (first | apply Kd.N_alloc | apply Kd.N_drewN | apply Kd.N_drew)); exact Kd.N_mono HO450.out (fun _ hk => ⟨hk.1.1, ⟨hk.1.2.1, ⟨hk.1.2.2.1, ⟨hk.1.2.2.2.1, ⟨hk.1.2.2.2.2, hk.2⟩⟩⟩⟩⟩)), (by (with_reducible repeat (first | refine X7 ?_ _ | refine X8 ?_ | refine X6 ?_ _)); exact BK437.out), (by (with_reducible repeat (first | refine X7 ?_ _ | refine X8 ?_ | refine X6 ?_ _)); exact BK438.out), (by (with_reducible repeat (first | refine X7 ?_ _ | refine X8 ?_ | refine X6 ?_ _)); exact BK451.out), (by (with_reducible repeat (first | refine X7 ?_ _ | refine X8 ?_ | refine X6 ?_ _)); exact BK452.out), GW451.out, GE451.out, NB437_451.out, NB451_437.out, NB438_451.out, NB451_438.out, NB452_451.out, NB451_452.out, GW452.out, GE452.out, NB437_452.out, NB452_437.out, NB438_452.out, NB452_438.out, (by repeat (first | (with_reducible first | exact HB.out | apply X5 | apply X4 | apply X3 | refine X10 ?_ GE437.out | refine X10 ?_ GE438.out | refine X10 ?_ GE451.out | refine X10 ?_ GE452.out) | exact HB.out))⟩)
    rintro ⟨v443, v449, gb451, gb452⟩ w22 ⟨hS_, h0_, h1_, h2_, h3_, h4_, h5_, h6_, h7_, h8_, h9_, h10_, h11_, h12_, h13_, h14_, h15_, h16_, h17_, h18_, h19_, h20_⟩
    have n0_ : Aside0 (Kd.N k29 29 w22 w.heap.size (fun k_ => (w.heap.size ≤ k_) ∧ some k_ ≠ (v449 : Value).ownBlock ∧ k_ ≠ gb437 ∧ k_ ≠ gb438 ∧ k_ ≠ gb451 ∧ k_ ≠ gb452) v443 t442) := ⟨h0_⟩
    have n1_ : Aside0 (Kd.N k29 29 w22 w.heap.size (fun k_ => (w.heap.size ≤ k_) ∧ some k_ ≠ (v443 : Value).ownBlock ∧ k_ ≠ gb437 ∧ k_ ≠ gb438 ∧ k_ ≠ gb451 ∧ k_ ≠ gb452) v449 t448) := ⟨h1_⟩
    have n2_ : Aside0 (w22.heap[gb437]? = some (.cells #[.int .i64 a0_0, .int .i64 a0_1, .slice (some ad439) l0_2.length c0_2] 29 (0, 0))) := ⟨h2_⟩
    have n3_ : Aside0 (w22.heap[gb438]? = some (.cells #[.int .i64 0, .int .i64 0, .slice none 0 0] 29 (0, 0))) := ⟨h3_⟩
    have n4_ : Aside0 (w22.heap[gb451]? = some (.cells #[.int .i64 0, .int .i64 0, .slice none 0 0] 29 (0, 0))) := ⟨h4_⟩
    have n5_ : Aside0 (w22.heap[gb452]? = some (.cells #[.int .i64 0, .int .i64 0, .slice none 0 0] 29 (0, 0))) := ⟨h5_⟩
    have n6_ : Aside0 (w.heap.size ≤ gb451) := ⟨h6_⟩
    have n7_ : Aside0 (w.heap.size ≤ gb451) := ⟨h7_⟩
    have n8_ : Aside0 (gb437 ≠ gb451) := ⟨h8_⟩
    have n9_ : Aside0 (gb451 ≠ gb437) := ⟨h9_⟩
    have n10_ : Aside0 (gb438 ≠ gb451) := ⟨h10_⟩
    have n11_ : Aside0 (gb451 ≠ gb438) := ⟨h11_⟩
    have n12_ : Aside0 (gb452 ≠ gb451) := ⟨h12_⟩
    have n13_ : Aside0 (gb451 ≠ gb452) := ⟨h13_⟩
    have n14_ : Aside0 (w.heap.size ≤ gb452) := ⟨h14_⟩
    have n15_ : Aside0 (w.heap.size ≤ gb452) := ⟨h15_⟩
    have n16_ : Aside0 (gb437 ≠ gb452) := ⟨h16_⟩
    have n17_ : Aside0 (gb452 ≠ gb437) := ⟨h17_⟩
    have n18_ : Aside0 (gb438 ≠ gb452) := ⟨h18_⟩
    have n19_ : Aside0 (gb452 ≠ gb438) := ⟨h19_⟩
    have n20_ : Aside0 (Below w.heap.size w w22) := ⟨h20_⟩
    clear BK437
    clear BK438
    clear HB
    clear h0_ h1_ h2_ h3_ h4_ h5_ h6_ h7_ h8_ h9_ h10_ h11_ h12_ h13_ h14_ h15_ h16_ h17_ h18_ h19_ h20_
    have HO444 := n0_
    have HO450 := n1_
    have BK437 := n2_
    have BK438 := n3_
    have BK451 := n4_
    have BK452 := n5_
    have GW451 := n6_
    have GE451 := n7_
    have NB437_451 := n8_
    have NB451_437 := n9_
    have NB438_451 := n10_
    have NB451_438 := n11_
    have NB452_451 := n12_
    have NB451_452 := n13_
    have GW452 := n14_
    have GE452 := n15_
    have NB437_452 := n16_
    have NB452_437 := n17_
    have NB438_452 := n18_
    have NB452_438 := n19_
    have HB := n20_
    clear n0_ n1_ n2_ n3_ n4_ n5_ n6_ n7_ n8_ n9_ n10_ n11_ n12_ n13_ n14_ n15_ n16_ n17_ n18_ n19_ n20_
    have hHeld : w22.cell? ⟨gb437, 0, none⟩ = some (.int .i64 a0_0) ∧ w22.cell? ⟨gb437, 1, none⟩ = some (.int .i64 a0_1) ∧ w22.cell? ⟨gb437, 2, none⟩ = some (.slice (some ad439) l0_2.length c0_2) ∧ w22.cell? ad439 = some (.int .i64 ((rd_T29 l0_2 0).f0)) ∧ w22.cell? ⟨ad439.block, ad439.off + 1, none⟩ = some (.int .i64 ((rd_T29 l0_2 0).f1)) ∧ w22.cell? ⟨ad439.block, ad439.off + 2, none⟩ = some (.slice A439_2 ((rd_T29 l0_2 0).f2).length c439_2) ∧ w22.cell? ⟨ad439.block, ad439.off + 3, none⟩ = some (.int .i64 ((rd_T29 l0_2 1).f0)) ∧ w22.cell? ⟨ad439.block, ad439.off + 3 + 1, none⟩ = some (.int .i64 ((rd_T29 l0_2 1).f1)) ∧ w22.cell? ⟨ad439.block, ad439.off + 3 + 2, none⟩ = some (.slice A445_2 ((rd_T29 l0_2 1).f2).length c445_2) := hS_
    obtain ⟨Ao25, co25, eo25⟩ := Kd.N_slice HO444.out
    (first | subst eo25 | (injection eo25 with f1_ f2_ f3_; have f4_ := f1_.symm; have f5_ := f3_.symm; clear f1_ f2_ f3_; subst f4_; subst f5_))
    obtain ⟨Ao29, co29, eo29⟩ := Kd.N_slice HO450.out
    (first | subst eo29 | (injection eo29 with f1_ f2_ f3_; have f4_ := f1_.symm; have f5_ := f3_.symm; clear f1_ f2_ f3_; subst f4_; subst f5_))
    refine norm_ (a' := ?_) ?_ ?_
    rotate_left
    ·simp only [putAll, Act.put, List.setIfInBounds_toArray, List.set_cons_zero, List.set_cons_succ]
     rfl
    refine one_ (i := 12) (N := none) #[true, true, true, true, true, true, true, true, true, true, true, true, true, false] rfl rfl (one_of HT_.out (by kernel_rfl)) (by decide) (fun K hK => ?_)
    have hs23 : w22.cell? ⟨gb451, 0, none⟩ = some (.int .i64 0) := (X11 BK451.out 0).trans rfl
    have hfs23 := X12 BK451.out 0
    have hns23_0 := NB437_451.out
    have hns23_1 := NB438_451.out
    have hns23_3 := NB452_451.out
    have hms23_0 := NB451_437.out
    have hms23_1 := NB451_438.out
    have hms23_3 := NB451_452.out
    have hs24 : w22.cell? ⟨gb451, 1, none⟩ = some (.int .i64 0) := (X11 BK451.out 1).trans rfl
    have hfs24 := X12 BK451.out 1
    have hns24_0 := NB437_451.out
    have hns24_1 := NB438_451.out
    have hns24_3 := NB452_451.out
    have hms24_0 := NB451_437.out
    have hms24_1 := NB451_438.out
    have hms24_3 := NB451_452.out
    have hs26 : w22.cell? ⟨gb451, 2, none⟩ = some (.slice none 0 0) := (X11 BK451.out 2).trans rfl
    have hfs26 := X12 BK451.out 2
    have hns26_0 := NB437_451.out
    have hns26_1 := NB438_451.out
    have hns26_3 := NB452_451.out
    have hms26_0 := NB451_437.out
    have hms26_1 := NB451_438.out
    have hms26_3 := NB451_452.out
    refine skip_ (w1 := ?_) (by rfl) rfl ?_ ?_
    rotate_left
    ·go_simp
     rfl
    refine hK.out _ _ ⟨((cell_far (p := ⟨gb451, _, none⟩) NB437_451.out _).trans (((cell_far (p := ⟨gb451, _, none⟩) NB437_451.out _).trans (((cell_far (p := ⟨gb451, _, none⟩) NB437_451.out _).trans (hHeld.1)))))), ((cell_far (p := ⟨gb451, _, none⟩) NB437_451.out _).trans (((cell_far (p := ⟨gb451, _, none⟩) NB437_451.out _).trans (((cell_far (p := ⟨gb451, _, none⟩) NB437_451.out _).trans (hHeld.2.1)))))), ((cell_far (p := ⟨gb451, _, none⟩) NB437_451.out _).trans (((cell_far (p := ⟨gb451, _, none⟩) NB437_451.out _).trans (((cell_far (p := ⟨gb451, _, none⟩) NB437_451.out _).trans (hHeld.2.2.1)))))), ((cell_far (p := ⟨gb451, _, none⟩) (by first | exact Nat.ne_of_lt (Nat.lt_of_lt_of_le (by have := X9 _ _ hw439_0; first | rwa [add_block] at this | exact this) GW451.out) | (rw [add_block]; exact Nat.ne_of_lt (Nat.lt_of_lt_of_le (by have := X9 _ _ hw439_0; first | rwa [add_block] at this | exact this) GW451.out)) | (show (Addr.add _ _).block ≠ _; rw [add_block]; exact Nat.ne_of_lt (Nat.lt_of_lt_of_le (by have := X9 _ _ hw439_0; first | rwa [add_block] at this | exact this) GW451.out)) | (dsimp only; exact Nat.ne_of_lt (Nat.lt_of_lt_of_le (by have := X9 _ _ hw439_0; first | rwa [add_block] at this | exact this) GW451.out))) _).trans (((cell_far (p := ⟨gb451, _, none⟩) (by first | exact Nat.ne_of_lt (Nat.lt_of_lt_of_le (by have := X9 _ _ hw439_0; first | rwa [add_block] at this | exact this) GW451.out) | (rw [add_block]; exact Nat.ne_of_lt (Nat.lt_of_lt_of_le (by have := X9 _ _ hw439_0; first | rwa [add_block] at this | exact this) GW451.out)) | (show (Addr.add _ _).block ≠ _; rw [add_block]; exact Nat.ne_of_lt (Nat.lt_of_lt_of_le (by have := X9 _ _ hw439_0; first | rwa [add_block] at this | exact this) GW451.out)) | (dsimp only; exact Nat.ne_of_lt (Nat.lt_of_lt_of_le (by have := X9 _ _ hw439_0; first | rwa [add_block] at this | exact this) GW451.out))) _).trans (((cell_far (p := ⟨gb451, _, none⟩) (by first | exact Nat.ne_of_lt (Nat.lt_of_lt_of_le (by have := X9 _ _ hw439_0; first | rwa [add_block] at this | exact this) GW451.out) | (rw [add_block]; exact Nat.ne_of_lt (Nat.lt_of_lt_of_le (by have := X9 _ _ hw439_0; first | rwa [add_block] at this | exact this) GW451.out)) | (show (Addr.add _ _).block ≠ _; rw [add_block]; exact Nat.ne_of_lt (Nat.lt_of_lt_of_le (by have := X9 _ _ hw439_0; first | rwa [add_block] at this | exact this) GW451.out)) | (dsimp only; exact Nat.ne_of_lt (Nat.lt_of_lt_of_le (by have := X9 _ _ hw439_0; first | rwa [add_block] at this | exact this) GW451.out))) _).trans (hHeld.2.2.2.1)))))), ((cell_far (p := ⟨gb451, _, none⟩) (by first | exact Nat.ne_of_lt (Nat.lt_of_lt_of_le (by have := X9 _ _ hw439_1; first | rwa [add_block] at this | exact this) GW451.out) | (rw [add_block]; exact Nat.ne_of_lt (Nat.lt_of_lt_of_le (by have := X9 _ _ hw439_1; first | rwa [add_block] at this | exact this) GW451.out)) | (show (Addr.add _ _).block ≠ _; rw [add_block]; exact Nat.ne_of_lt (Nat.lt_of_lt_of_le (by have := X9 _ _ hw439_1; first | rwa [add_block] at this | exact this) GW451.out)) | (dsimp only; exact Nat.ne_of_lt (Nat.lt_of_lt_of_le (by have := X9 _ _ hw439_1; first | rwa [add_block] at this | exact this) GW451.out))) _).trans (((cell_far (p := ⟨gb451, _, none⟩) (by first | exact Nat.ne_of_lt (Nat.lt_of_lt_of_le (by have := X9 _ _ hw439_1; first | rwa [add_block] at this | exact this) GW451.out) | (rw [add_block]; exact Nat.ne_of_lt (Nat.lt_of_lt_of_le (by have := X9 _ _ hw439_1; first | rwa [add_block] at this | exact this) GW451.out)) | (show (Addr.add _ _).block ≠ _; rw [add_block]; exact Nat.ne_of_lt (Nat.lt_of_lt_of_le (by have := X9 _ _ hw439_1; first | rwa [add_block] at this | exact this) GW451.out)) | (dsimp only; exact Nat.ne_of_lt (Nat.lt_of_lt_of_le (by have := X9 _ _ hw439_1; first | rwa [add_block] at this | exact this) GW451.out))) _).trans (((cell_far (p := ⟨gb451, _, none⟩) (by first | exact Nat.ne_of_lt (Nat.lt_of_lt_of_le (by have := X9 _ _ hw439_1; first | rwa [add_block] at this | exact this) GW451.out) | (rw [add_block]; exact Nat.ne_of_lt (Nat.lt_of_lt_of_le (by have := X9 _ _ hw439_1; first | rwa [add_block] at this | exact this) GW451.out)) | (show (Addr.add _ _).block ≠ _; rw [add_block]; exact Nat.ne_of_lt (Nat.lt_of_lt_of_le (by have := X9 _ _ hw439_1; first | rwa [add_block] at this | exact this) GW451.out)) | (dsimp only; exact Nat.ne_of_lt (Nat.lt_of_lt_of_le (by have := X9 _ _ hw439_1; first | rwa [add_block] at this | exact this) GW451.out))) _).trans (hHeld.2.2.2.2.1)))))), ((cell_far (p := ⟨gb451, _, none⟩) (by first | exact Nat.ne_of_lt (Nat.lt_of_lt_of_le (by have := X9 _ _ hw439_2; first | rwa [add_block] at this | exact this) GW451.out) | (rw [add_block]; exact Nat.ne_of_lt (Nat.lt_of_lt_of_le (by have := X9 _ _ hw439_2; first | rwa [add_block] at this | exact this) GW451.out)) | (show (Addr.add _ _).block ≠ _; rw [add_block]; exact Nat.ne_of_lt (Nat.lt_of_lt_of_le (by have := X9 _ _ hw439_2; first | rwa [add_block] at this | exact this) GW451.out)) | (dsimp only; exact Nat.ne_of_lt (Nat.lt_of_lt_of_le (by have := X9 _ _ hw439_2; first | rwa [add_block] at this | exact this) GW451.out))) _).trans (((cell_far (p := ⟨gb451, _, none⟩) (by first | exact Nat.ne_of_lt (Nat.lt_of_lt_of_le (by have := X9 _ _ hw439_2; first | rwa [add_block] at this | exact this) GW451.out) | (rw [add_block]; exact Nat.ne_of_lt (Nat.lt_of_lt_of_le (by have := X9 _ _ hw439_2; first | rwa [add_block] at this | exact this) GW451.out)) | (show (Addr.add _ _).block ≠ _; rw [add_block]; exact Nat.ne_of_lt (Nat.lt_of_lt_of_le (by have := X9 _ _ hw439_2; first | rwa [add_block] at this | exact this) GW451.out)) | (dsimp only; exact Nat.ne_of_lt (Nat.lt_of_lt_of_le (by have := X9 _ _ hw439_2; first | rwa [add_block] at this | exact this) GW451.out))) _).trans (((cell_far (p := ⟨gb451, _, none⟩) (by first | exact Nat.ne_of_lt (Nat.lt_of_lt_of_le (by have := X9 _ _ hw439_2; first | rwa [add_block] at this | exact this) GW451.out) | (rw [add_block]; exact Nat.ne_of_lt (Nat.lt_of_lt_of_le (by have := X9 _ _ hw439_2; first | rwa [add_block] at this | exact this) GW451.out)) | (show (Addr.add _ _).block ≠ _; rw [add_block]; exact Nat.ne_of_lt (Nat.lt_of_lt_of_le (by have := X9 _ _ hw439_2; first | rwa [add_block] at this | exact this) GW451.out)) | (dsimp only; exact Nat.ne_of_lt (Nat.lt_of_lt_of_le (by have := X9 _ _ hw439_2; first | rwa [add_block] at this | exact this) GW451.out))) _).trans (hHeld.2.2.2.2.2.1)))))), ((cell_far (p := ⟨gb451, _, none⟩) (by first | exact Nat.ne_of_lt (Nat.lt_of_lt_of_le (by have := X9 _ _ hw445_0; first | rwa [add_block] at this | exact this) GW451.out) | (rw [add_block]; exact Nat.ne_of_lt (Nat.lt_of_lt_of_le (by have := X9 _ _ hw445_0; first | rwa [add_block] at this | exact this) GW451.out)) | (show (Addr.add _ _).block ≠ _; rw [add_block]; exact Nat.ne_of_lt (Nat.lt_of_lt_of_le (by have := X9 _ _ hw445_0; first | rwa [add_block] at this | exact this) GW451.out)) | (dsimp only; exact Nat.ne_of_lt (Nat.lt_of_lt_of_le (by have := X9 _ _ hw445_0; first | rwa [add_block] at this | exact this) GW451.out))) _).trans (((cell_far (p := ⟨gb451, _, none⟩) (by first | exact Nat.ne_of_lt (Nat.lt_of_lt_of_le (by have := X9 _ _ hw445_0; first | rwa [add_block] at this | exact this) GW451.out) | (rw [add_block]; exact Nat.ne_of_lt (Nat.lt_of_lt_of_le (by have := X9 _ _ hw445_0; first | rwa [add_block] at this | exact this) GW451.out)) | (show (Addr.add _ _).block ≠ _; rw [add_block]; exact Nat.ne_of_lt (Nat.lt_of_lt_of_le (by have := X9 _ _ hw445_0; first | rwa [add_block] at this | exact this) GW451.out)) | (dsimp only; exact Nat.ne_of_lt (Nat.lt_of_lt_of_le (by have := X9 _ _ hw445_0; first | rwa [add_block] at this | exact this) GW451.out))) _).trans (((cell_far (p := ⟨gb451, _, none⟩) (by first | exact Nat.ne_of_lt (Nat.lt_of_lt_of_le (by have := X9 _ _ hw445_0; first | rwa [add_block] at this | exact this) GW451.out) | (rw [add_block]; exact Nat.ne_of_lt (Nat.lt_of_lt_of_le (by have := X9 _ _ hw445_0; first | rwa [add_block] at this | exact this) GW451.out)) | (show (Addr.add _ _).block ≠ _; rw [add_block]; exact Nat.ne_of_lt (Nat.lt_of_lt_of_le (by have := X9 _ _ hw445_0; first | rwa [add_block] at this | exact this) GW451.out)) | (dsimp only; exact Nat.ne_of_lt (Nat.lt_of_lt_of_le (by have := X9 _ _ hw445_0; first | rwa [add_block] at this | exact this) GW451.out))) _).trans (hHeld.2.2.2.2.2.2.1)))))), ((cell_far (p := ⟨gb451, _, none⟩) (by first | exact Nat.ne_of_lt (Nat.lt_of_lt_of_le (by have := X9 _ _ hw445_1; first | rwa [add_block] at this | exact this) GW451.out) | (rw [add_block]; exact Nat.ne_of_lt (Nat.lt_of_lt_of_le (by have := X9 _ _ hw445_1; first | rwa [add_block] at this | exact this) GW451.out)) | (show (Addr.add _ _).block ≠ _; rw [add_block]; exact Nat.ne_of_lt (Nat.lt_of_lt_of_le (by have := X9 _ _ hw445_1; first | rwa [add_block] at this | exact this) GW451.out)) | (dsimp only; exact Nat.ne_of_lt (Nat.lt_of_lt_of_le (by have := X9 _ _ hw445_1; first | rwa [add_block] at this | exact this) GW451.out))) _).trans (((cell_far (p := ⟨gb451, _, none⟩) (by first | exact Nat.ne_of_lt (Nat.lt_of_lt_of_le (by have := X9 _ _ hw445_1; first | rwa [add_block] at this | exact this) GW451.out) | (rw [add_block]; exact Nat.ne_of_lt (Nat.lt_of_lt_of_le (by have := X9 _ _ hw445_1; first | rwa [add_block] at this | exact this) GW451.out)) | (show (Addr.add _ _).block ≠ _; rw [add_block]; exact Nat.ne_of_lt (Nat.lt_of_lt_of_le (by have := X9 _ _ hw445_1; first | rwa [add_block] at this | exact this) GW451.out)) | (dsimp only; exact Nat.ne_of_lt (Nat.lt_of_lt_of_le (by have := X9 _ _ hw445_1; first | rwa [add_block] at this | exact this) GW451.out))) _).trans (((cell_far (p := ⟨gb451, _, none⟩) (by first | exact Nat.ne_of_lt (Nat.lt_of_lt_of_le (by have := X9 _ _ hw445_1; first | rwa [add_block] at this | exact this) GW451.out) | (rw [add_block]; exact Nat.ne_of_lt (Nat.lt_of_lt_of_le (by have := X9 _ _ hw445_1; first | rwa [add_block] at this | exact this) GW451.out)) | (show (Addr.add _ _).block ≠ _; rw [add_block]; exact Nat.ne_of_lt (Nat.lt_of_lt_of_le (by have := X9 _ _ hw445_1; first | rwa [add_block] at this | exact this) GW451.out)) | (dsimp only; exact Nat.ne_of_lt (Nat.lt_of_lt_of_le (by have := X9 _ _ hw445_1; first | rwa [add_block] at this | exact this) GW451.out))) _).trans (hHeld.2.2.2.2.2.2.2.1)))))), ((cell_far (p := ⟨gb451, _, none⟩) (by first | exact Nat.ne_of_lt (Nat.lt_of_lt_of_le (by have := X9 _ _ hw445_2; first | rwa [add_block] at this | exact this) GW451.out) | (rw [add_block]; exact Nat.ne_of_lt (Nat.lt_of_lt_of_le (by have := X9 _ _ hw445_2; first | rwa [add_block] at this | exact this) GW451.out)) | (show (Addr.add _ _).block ≠ _; rw [add_block]; exact Nat.ne_of_lt (Nat.lt_of_lt_of_le (by have := X9 _ _ hw445_2; first | rwa [add_block] at this | exact this) GW451.out)) | (dsimp only; exact Nat.ne_of_lt (Nat.lt_of_lt_of_le (by have := X9 _ _ hw445_2; first | rwa [add_block] at this | exact this) GW451.out))) _).trans (((cell_far (p := ⟨gb451, _, none⟩) (by first | exact Nat.ne_of_lt (Nat.lt_of_lt_of_le (by have := X9 _ _ hw445_2; first | rwa [add_block] at this | exact this) GW451.out) | (rw [add_block]; exact Nat.ne_of_lt (Nat.lt_of_lt_of_le (by have := X9 _ _ hw445_2; first | rwa [add_block] at this | exact this) GW451.out)) | (show (Addr.add _ _).block ≠ _; rw [add_block]; exact Nat.ne_of_lt (Nat.lt_of_lt_of_le (by have := X9 _ _ hw445_2; first | rwa [add_block] at this | exact this) GW451.out)) | (dsimp only; exact Nat.ne_of_lt (Nat.lt_of_lt_of_le (by have := X9 _ _ hw445_2; first | rwa [add_block] at this | exact this) GW451.out))) _).trans (((cell_far (p := ⟨gb451, _, none⟩) (by first | exact Nat.ne_of_lt (Nat.lt_of_lt_of_le (by have := X9 _ _ hw445_2; first | rwa [add_block] at this | exact this) GW451.out) | (rw [add_block]; exact Nat.ne_of_lt (Nat.lt_of_lt_of_le (by have := X9 _ _ hw445_2; first | rwa [add_block] at this | exact this) GW451.out)) | (show (Addr.add _ _).block ≠ _; rw [add_block]; exact Nat.ne_of_lt (Nat.lt_of_lt_of_le (by have := X9 _ _ hw445_2; first | rwa [add_block] at this | exact this) GW451.out)) | (dsimp only; exact Nat.ne_of_lt (Nat.lt_of_lt_of_le (by have := X9 _ _ hw445_2; first | rwa [add_block] at this | exact this) GW451.out))) _).trans (hHeld.2.2.2.2.2.2.2.2))))))⟩ (fun hHeld => ?_)
    clear hK K
    refine one_ (i := 13) (N := none) #[true, true, true, true, true, true, true, true, true, true, true, true, true, true] rfl rfl (one_of HT_.out (by kernel_rfl)) (by decide) (fun K hK => ?_)
    have hs27 : w22.cell? ⟨gb452, 0, none⟩ = some (.int .i64 0) := (X11 BK452.out 0).trans rfl
    have hfs27 := X12 BK452.out 0
    have hns27_0 := NB437_452.out
    have hns27_1 := NB438_452.out
    have hns27_2 := NB451_452.out
    have hms27_0 := NB452_437.out
    have hms27_1 := NB452_438.out
    have hms27_2 := NB452_451.out
    have hs28 : w22.cell? ⟨gb452, 1, none⟩ = some (.int .i64 0) := (X11 BK452.out 1).trans rfl
    have hfs28 := X12 BK452.out 1
    have hns28_0 := NB437_452.out
    have hns28_1 := NB438_452.out
    have hns28_2 := NB451_452.out
    have hms28_0 := NB452_437.out
    have hms28_1 := NB452_438.out
    have hms28_2 := NB452_451.out
    have hs30 : w22.cell? ⟨gb452, 2, none⟩ = some (.slice none 0 0) := (X11 BK452.out 2).trans rfl
    have hfs30 := X12 BK452.out 2
    have hns30_0 := NB437_452.out
    have hns30_1 := NB438_452.out
    have hns30_2 := NB451_452.out
    have hms30_0 := NB452_437.out
    have hms30_1 := NB452_438.out
    have hms30_2 := NB452_451.out
    refine skip_ (w1 := ?_) (by rfl) rfl ?_ ?_
    rotate_left
    ·go_simp
     rfl
    refine hK.out _ _ ⟨((cell_far (p := ⟨gb452, _, none⟩) NB437_452.out _).trans (((cell_far (p := ⟨gb452, _, none⟩) NB437_452.out _).trans (((cell_far (p := ⟨gb452, _, none⟩) NB437_452.out _).trans (hHeld.1)))))), ((cell_far (p := ⟨gb452, _, none⟩) NB437_452.out _).trans (((cell_far (p := ⟨gb452, _, none⟩) NB437_452.out _).trans (((cell_far (p := ⟨gb452, _, none⟩) NB437_452.out _).trans (hHeld.2.1)))))), ((cell_far (p := ⟨gb452, _, none⟩) NB437_452.out _).trans (((cell_far (p := ⟨gb452, _, none⟩) NB437_452.out _).trans (((cell_far (p := ⟨gb452, _, none⟩) NB437_452.out _).trans (hHeld.2.2.1)))))), ((cell_far (p := ⟨gb452, _, none⟩) (by first | exact Nat.ne_of_lt (Nat.lt_of_lt_of_le (by have := X9 _ _ hw439_0; first | rwa [add_block] at this | exact this) GW452.out) | (rw [add_block]; exact Nat.ne_of_lt (Nat.lt_of_lt_of_le (by have := X9 _ _ hw439_0; first | rwa [add_block] at this | exact this) GW452.out)) | (show (Addr.add _ _).block ≠ _; rw [add_block]; exact Nat.ne_of_lt (Nat.lt_of_lt_of_le (by have := X9 _ _ hw439_0; first | rwa [add_block] at this | exact this) GW452.out)) | (dsimp only; exact Nat.ne_of_lt (Nat.lt_of_lt_of_le (by have := X9 _ _ hw439_0; first | rwa [add_block] at this | exact this) GW452.out))) _).trans (((cell_far (p := ⟨gb452, _, none⟩) (by first | exact Nat.ne_of_lt (Nat.lt_of_lt_of_le (by have := X9 _ _ hw439_0; first | rwa [add_block] at this | exact this) GW452.out) | (rw [add_block]; exact Nat.ne_of_lt (Nat.lt_of_lt_of_le (by have := X9 _ _ hw439_0; first | rwa [add_block] at this | exact this) GW452.out)) | (show (Addr.add _ _).block ≠ _; rw [add_block]; exact Nat.ne_of_lt (Nat.lt_of_lt_of_le (by have := X9 _ _ hw439_0; first | rwa [add_block] at this | exact this) GW452.out)) | (dsimp only; exact Nat.ne_of_lt (Nat.lt_of_lt_of_le (by have := X9 _ _ hw439_0; first | rwa [add_block] at this | exact this) GW452.out))) _).trans (((cell_far (p := ⟨gb452, _, none⟩) (by first | exact Nat.ne_of_lt (Nat.lt_of_lt_of_le (by have := X9 _ _ hw439_0; first | rwa [add_block] at this | exact this) GW452.out) | (rw [add_block]; exact Nat.ne_of_lt (Nat.lt_of_lt_of_le (by have := X9 _ _ hw439_0; first | rwa [add_block] at this | exact this) GW452.out)) | (show (Addr.add _ _).block ≠ _; rw [add_block]; exact Nat.ne_of_lt (Nat.lt_of_lt_of_le (by have := X9 _ _ hw439_0; first | rwa [add_block] at this | exact this) GW452.out)) | (dsimp only; exact Nat.ne_of_lt (Nat.lt_of_lt_of_le (by have := X9 _ _ hw439_0; first | rwa [add_block] at this | exact this) GW452.out))) _).trans (hHeld.2.2.2.1)))))), ((cell_far (p := ⟨gb452, _, none⟩) (by first | exact Nat.ne_of_lt (Nat.lt_of_lt_of_le (by have := X9 _ _ hw439_1; first | rwa [add_block] at this | exact this) GW452.out) | (rw [add_block]; exact Nat.ne_of_lt (Nat.lt_of_lt_of_le (by have := X9 _ _ hw439_1; first | rwa [add_block] at this | exact this) GW452.out)) | (show (Addr.add _ _).block ≠ _; rw [add_block]; exact Nat.ne_of_lt (Nat.lt_of_lt_of_le (by have := X9 _ _ hw439_1; first | rwa [add_block] at this | exact this) GW452.out)) | (dsimp only; exact Nat.ne_of_lt (Nat.lt_of_lt_of_le (by have := X9 _ _ hw439_1; first | rwa [add_block] at this | exact this) GW452.out))) _).trans (((cell_far (p := ⟨gb452, _, none⟩) (by first | exact Nat.ne_of_lt (Nat.lt_of_lt_of_le (by have := X9 _ _ hw439_1; first | rwa [add_block] at this | exact this) GW452.out) | (rw [add_block]; exact Nat.ne_of_lt (Nat.lt_of_lt_of_le (by have := X9 _ _ hw439_1; first | rwa [add_block] at this | exact this) GW452.out)) | (show (Addr.add _ _).block ≠ _; rw [add_block]; exact Nat.ne_of_lt (Nat.lt_of_lt_of_le (by have := X9 _ _ hw439_1; first | rwa [add_block] at this | exact this) GW452.out)) | (dsimp only; exact Nat.ne_of_lt (Nat.lt_of_lt_of_le (by have := X9 _ _ hw439_1; first | rwa [add_block] at this | exact this) GW452.out))) _).trans (((cell_far (p := ⟨gb452, _, none⟩) (by first | exact Nat.ne_of_lt (Nat.lt_of_lt_of_le (by have := X9 _ _ hw439_1; first | rwa [add_block] at this | exact this) GW452.out) | (rw [add_block]; exact Nat.ne_of_lt (Nat.lt_of_lt_of_le (by have := X9 _ _ hw439_1; first | rwa [add_block] at this | exact this) GW452.out)) | (show (Addr.add _ _).block ≠ _; rw [add_block]; exact Nat.ne_of_lt (Nat.lt_of_lt_of_le (by have := X9 _ _ hw439_1; first | rwa [add_block] at this | exact this) GW452.out)) | (dsimp only; exact Nat.ne_of_lt (Nat.lt_of_lt_of_le (by have := X9 _ _ hw439_1; first | rwa [add_block] at this | exact this) GW452.out))) _).trans (hHeld.2.2.2.2.1)))))), ((cell_far (p := ⟨gb452, _, none⟩) (by first | exact Nat.ne_of_lt (Nat.lt_of_lt_of_le (by have := X9 _ _ hw439_2; first | rwa [add_block] at this | exact this) GW452.out) | (rw [add_block]; exact Nat.ne_of_lt (Nat.lt_of_lt_of_le (by have := X9 _ _ hw439_2; first | rwa [add_block] at this | exact this) GW452.out)) | (show (Addr.add _ _).block ≠ _; rw [add_block]; exact Nat.ne_of_lt (Nat.lt_of_lt_of_le (by have := X9 _ _ hw439_2; first | rwa [add_block] at this | exact this) GW452.out)) | (dsimp only; exact Nat.ne_of_lt (Nat.lt_of_lt_of_le (by have := X9 _ _ hw439_2; first | rwa [add_block] at this | exact this) GW452.out))) _).trans (((cell_far (p := ⟨gb452, _, none⟩) (by first | exact Nat.ne_of_lt (Nat.lt_of_lt_of_le (by have := X9 _ _ hw439_2; first | rwa [add_block] at this | exact this) GW452.out) | (rw [add_block]; exact Nat.ne_of_lt (Nat.lt_of_lt_of_le (by have := X9 _ _ hw439_2; first | rwa [add_block] at this | exact this) GW452.out)) | (show (Addr.add _ _).block ≠ _; rw [add_block]; exact Nat.ne_of_lt (Nat.lt_of_lt_of_le (by have := X9 _ _ hw439_2; first | rwa [add_block] at this | exact this) GW452.out)) | (dsimp only; exact Nat.ne_of_lt (Nat.lt_of_lt_of_le (by have := X9 _ _ hw439_2; first | rwa [add_block] at this | exact this) GW452.out))) _).trans (((cell_far (p := ⟨gb452, _, none⟩) (by first | exact Nat.ne_of_lt (Nat.lt_of_lt_of_le (by have := X9 _ _ hw439_2; first | rwa [add_block] at this | exact this) GW452.out) | (rw [add_block]; exact Nat.ne_of_lt (Nat.lt_of_lt_of_le (by have := X9 _ _ hw439_2; first | rwa [add_block] at this | exact this) GW452.out)) | (show (Addr.add _ _).block ≠ _; rw [add_block]; exact Nat.ne_of_lt (Nat.lt_of_lt_of_le (by have := X9 _ _ hw439_2; first | rwa [add_block] at this | exact this) GW452.out)) | (dsimp only; exact Nat.ne_of_lt (Nat.lt_of_lt_of_le (by have := X9 _ _ hw439_2; first | rwa [add_block] at this | exact this) GW452.out))) _).trans (hHeld.2.2.2.2.2.1)))))), ((cell_far (p := ⟨gb452, _, none⟩) (by first | exact Nat.ne_of_lt (Nat.lt_of_lt_of_le (by have := X9 _ _ hw445_0; first | rwa [add_block] at this | exact this) GW452.out) | (rw [add_block]; exact Nat.ne_of_lt (Nat.lt_of_lt_of_le (by have := X9 _ _ hw445_0; first | rwa [add_block] at this | exact this) GW452.out)) | (show (Addr.add _ _).block ≠ _; rw [add_block]; exact Nat.ne_of_lt (Nat.lt_of_lt_of_le (by have := X9 _ _ hw445_0; first | rwa [add_block] at this | exact this) GW452.out)) | (dsimp only; exact Nat.ne_of_lt (Nat.lt_of_lt_of_le (by have := X9 _ _ hw445_0; first | rwa [add_block] at this | exact this) GW452.out))) _).trans (((cell_far (p := ⟨gb452, _, none⟩) (by first | exact Nat.ne_of_lt (Nat.lt_of_lt_of_le (by have := X9 _ _ hw445_0; first | rwa [add_block] at this | exact this) GW452.out) | (rw [add_block]; exact Nat.ne_of_lt (Nat.lt_of_lt_of_le (by have := X9 _ _ hw445_0; first | rwa [add_block] at this | exact this) GW452.out)) | (show (Addr.add _ _).block ≠ _; rw [add_block]; exact Nat.ne_of_lt (Nat.lt_of_lt_of_le (by have := X9 _ _ hw445_0; first | rwa [add_block] at this | exact this) GW452.out)) | (dsimp only; exact Nat.ne_of_lt (Nat.lt_of_lt_of_le (by have := X9 _ _ hw445_0; first | rwa [add_block] at this | exact this) GW452.out))) _).trans (((cell_far (p := ⟨gb452, _, none⟩) (by first | exact Nat.ne_of_lt (Nat.lt_of_lt_of_le (by have := X9 _ _ hw445_0; first | rwa [add_block] at this | exact this) GW452.out) | (rw [add_block]; exact Nat.ne_of_lt (Nat.lt_of_lt_of_le (by have := X9 _ _ hw445_0; first | rwa [add_block] at this | exact this) GW452.out)) | (show (Addr.add _ _).block ≠ _; rw [add_block]; exact Nat.ne_of_lt (Nat.lt_of_lt_of_le (by have := X9 _ _ hw445_0; first | rwa [add_block] at this | exact this) GW452.out)) | (dsimp only; exact Nat.ne_of_lt (Nat.lt_of_lt_of_le (by have := X9 _ _ hw445_0; first | rwa [add_block] at this | exact this) GW452.out))) _).trans (hHeld.2.2.2.2.2.2.1)))))), ((cell_far (p := ⟨gb452, _, none⟩) (by first | exact Nat.ne_of_lt (Nat.lt_of_lt_of_le (by have := X9 _ _ hw445_1; first | rwa [add_block] at this | exact this) GW452.out) | (rw [add_block]; exact Nat.ne_of_lt (Nat.lt_of_lt_of_le (by have := X9 _ _ hw445_1; first | rwa [add_block] at this | exact this) GW452.out)) | (show (Addr.add _ _).block ≠ _; rw [add_block]; exact Nat.ne_of_lt (Nat.lt_of_lt_of_le (by have := X9 _ _ hw445_1; first | rwa [add_block] at this | exact this) GW452.out)) | (dsimp only; exact Nat.ne_of_lt (Nat.lt_of_lt_of_le (by have := X9 _ _ hw445_1; first | rwa [add_block] at this | exact this) GW452.out))) _).trans (((cell_far (p := ⟨gb452, _, none⟩) (by first | exact Nat.ne_of_lt (Nat.lt_of_lt_of_le (by have := X9 _ _ hw445_1; first | rwa [add_block] at this | exact this) GW452.out) | (rw [add_block]; exact Nat.ne_of_lt (Nat.lt_of_lt_of_le (by have := X9 _ _ hw445_1; first | rwa [add_block] at this | exact this) GW452.out)) | (show (Addr.add _ _).block ≠ _; rw [add_block]; exact Nat.ne_of_lt (Nat.lt_of_lt_of_le (by have := X9 _ _ hw445_1; first | rwa [add_block] at this | exact this) GW452.out)) | (dsimp only; exact Nat.ne_of_lt (Nat.lt_of_lt_of_le (by have := X9 _ _ hw445_1; first | rwa [add_block] at this | exact this) GW452.out))) _).trans (((cell_far (p := ⟨gb452, _, none⟩) (by first | exact Nat.ne_of_lt (Nat.lt_of_lt_of_le (by have := X9 _ _ hw445_1; first | rwa [add_block] at this | exact this) GW452.out) | (rw [add_block]; exact Nat.ne_of_lt (Nat.lt_of_lt_of_le (by have := X9 _ _ hw445_1; first | rwa [add_block] at this | exact this) GW452.out)) | (show (Addr.add _ _).block ≠ _; rw [add_block]; exact Nat.ne_of_lt (Nat.lt_of_lt_of_le (by have := X9 _ _ hw445_1; first | rwa [add_block] at this | exact this) GW452.out)) | (dsimp only; exact Nat.ne_of_lt (Nat.lt_of_lt_of_le (by have := X9 _ _ hw445_1; first | rwa [add_block] at this | exact this) GW452.out))) _).trans (hHeld.2.2.2.2.2.2.2.1)))))), ((cell_far (p := ⟨gb452, _, none⟩) (by first | exact Nat.ne_of_lt (Nat.lt_of_lt_of_le (by have := X9 _ _ hw445_2; first | rwa [add_block] at this | exact this) GW452.out) | (rw [add_block]; exact Nat.ne_of_lt (Nat.lt_of_lt_of_le (by have := X9 _ _ hw445_2; first | rwa [add_block] at this | exact this) GW452.out)) | (show (Addr.add _ _).block ≠ _; rw [add_block]; exact Nat.ne_of_lt (Nat.lt_of_lt_of_le (by have := X9 _ _ hw445_2; first | rwa [add_block] at this | exact this) GW452.out)) | (dsimp only; exact Nat.ne_of_lt (Nat.lt_of_lt_of_le (by have := X9 _ _ hw445_2; first | rwa [add_block] at this | exact this) GW452.out))) _).trans (((cell_far (p := ⟨gb452, _, none⟩) (by first | exact Nat.ne_of_lt (Nat.lt_of_lt_of_le (by have := X9 _ _ hw445_2; first | rwa [add_block] at this | exact this) GW452.out) | (rw [add_block]; exact Nat.ne_of_lt (Nat.lt_of_lt_of_le (by have := X9 _ _ hw445_2; first | rwa [add_block] at this | exact this) GW452.out)) | (show (Addr.add _ _).block ≠ _; rw [add_block]; exact Nat.ne_of_lt (Nat.lt_of_lt_of_le (by have := X9 _ _ hw445_2; first | rwa [add_block] at this | exact this) GW452.out)) | (dsimp only; exact Nat.ne_of_lt (Nat.lt_of_lt_of_le (by have := X9 _ _ hw445_2; first | rwa [add_block] at this | exact this) GW452.out))) _).trans (((cell_far (p := ⟨gb452, _, none⟩) (by first | exact Nat.ne_of_lt (Nat.lt_of_lt_of_le (by have := X9 _ _ hw445_2; first | rwa [add_block] at this | exact this) GW452.out) | (rw [add_block]; exact Nat.ne_of_lt (Nat.lt_of_lt_of_le (by have := X9 _ _ hw445_2; first | rwa [add_block] at this | exact this) GW452.out)) | (show (Addr.add _ _).block ≠ _; rw [add_block]; exact Nat.ne_of_lt (Nat.lt_of_lt_of_le (by have := X9 _ _ hw445_2; first | rwa [add_block] at this | exact this) GW452.out)) | (dsimp only; exact Nat.ne_of_lt (Nat.lt_of_lt_of_le (by have := X9 _ _ hw445_2; first | rwa [add_block] at this | exact this) GW452.out))) _).trans (hHeld.2.2.2.2.2.2.2.2))))))⟩ (fun hHeld => ?_)
    clear hK K
    refine done_ (done_of HT_.out (by kernel_rfl)) ?_
    go_upto_region 4 with (fail)
    go_cut [32] (fun v32 wc => ∃ (kq : Nat) (x32_11 : Bool), v32 = .bool x32_11 ∧ Aside0 (impl_exprFold.j0 kq x32_11 a0_0 a0_1 l0_2 t440 t441 t442 t446 t447 t448 = some (r1, r2, r3)) ∧ Aside0 (kq ≤ k) ∧ Aside0 (Kd.N k29 29 wc w.heap.size (fun k_ => (w.heap.size ≤ k_) ∧ some k_ ≠ ((.slice Ao29 t448.length co29) : Value).ownBlock ∧ k_ ≠ gb437 ∧ k_ ≠ gb438 ∧ k_ ≠ gb451 ∧ k_ ≠ gb452) (.slice Ao25 t442.length co25) t442) ∧ Aside0 (Kd.N k29 29 wc w.heap.size (fun k_ => (w.heap.size ≤ k_) ∧ some k_ ≠ ((.slice Ao25 t442.length co25) : Value).ownBlock ∧ k_ ≠ gb437 ∧ k_ ≠ gb438 ∧ k_ ≠ gb451 ∧ k_ ≠ gb452) (.slice Ao29 t448.length co29) t448) ∧ Aside0 (wc.heap[gb437]? = some (.cells #[.int .i64 a0_0, .int .i64 a0_1, (.slice (some ad439) l0_2.length c0_2)] 29 (0, 0))) ∧ Aside0 (wc.heap[gb438]? = some (.cells #[.int .i64 0, .int .i64 0, (.slice none 0 0)] 29 (0, 0))) ∧ Aside0 (wc.heap[gb451]? = some (.cells #[.int .i64 t440, .int .i64 t441, (.slice Ao25 t442.length co25)] 29 (0, 0))) ∧ Aside0 (wc.heap[gb452]? = some (.cells #[.int .i64 t446, .int .i64 t447, (.slice Ao29 t448.length co29)] 29 (0, 0))) ∧ Aside0 (Below w.heap.size w wc))
    case first =>
     have H := HC12.out
     clear HC12
     by_cases c31 : t440 = 0
     ·rw [if_pos c31] at H
      have c31b0 : (t440 == 0) = true := beq_iff_eq.mpr c31
      have c31b1 : (t440 != 0) = false := bne_eq_false_iff_eq.mpr c31
      clear c31
      (first | rw [c31b0] | (simp only [i64_w, i32_w]; rw [c31b0]) | skip)
      have H' := X1 H
      clear H
      have hnb32 := NB451_437.out
      have hnc32 := NB437_451.out
      have hnb33 := NB451_438.out
      have hnc33 := NB438_451.out
      have hnb34 := NB451_452.out
      have hnc34 := NB452_451.out
      have hcz35_0 : w22.cell? ⟨gb451, 0, none⟩ = some (.int .i64 0) := (X11 BK451.out 0).trans rfl
      have hcz35_1 : w22.cell? ⟨gb451, 1, none⟩ = some (.int .i64 0) := (X11 BK451.out 1).trans rfl
      have hcz35_2 : w22.cell? ⟨gb451, 2, none⟩ = some (.slice none 0 0) := (X11 BK451.out 2).trans rfl
      have hfz35_0 := X12 BK451.out 0
      have hfz35_1 := X12 BK451.out 1
      have hfz35_2 := X12 BK451.out 2
      have hnb36 := NB452_437.out
      have hnc36 := NB437_452.out
      have hnb37 := NB452_438.out
      have hnc37 := NB438_452.out
      have hcz38_0 : w22.cell? ⟨gb452, 0, none⟩ = some (.int .i64 0) := (X11 BK452.out 0).trans rfl
      have hcz38_1 : w22.cell? ⟨gb452, 1, none⟩ = some (.int .i64 0) := (X11 BK452.out 1).trans rfl
      have hcz38_2 : w22.cell? ⟨gb452, 2, none⟩ = some (.slice none 0 0) := (X11 BK452.out 2).trans rfl
      have hfz38_0 := X12 BK452.out 0
      have hfz38_1 := X12 BK452.out 1
      have hfz38_2 := X12 BK452.out 2
      go_wp2
      go_meet
      case rel => exact ⟨_, ((t446 == 0)), (by first | rfl | (simp; done) | (simp [*]; done)), H', ⟨by first | omega | exact Nat.le_refl _⟩, ⟨by (with_reducible repeat (first | apply Kd.N_alloc | apply Kd.N_drewN | apply Kd.N_drew)); exact Kd.N_mono (Kd.N_far (p := ⟨gb452, 2, none⟩) (Kd.N_far (p := ⟨gb452, 1, none⟩) (Kd.N_far (p := ⟨gb452, 0, none⟩) (Kd.N_far (p := ⟨gb451, 2, none⟩) (Kd.N_far (p := ⟨gb451, 1, none⟩) (Kd.N_far (p := ⟨gb451, 0, none⟩) (Kd.N_mono (Kd.N_mono HO444.out (fun k_ hk => (⟨hk, hk.2.2.2.2.1⟩ : _ ∧ k_ ≠ gb451))) (fun k_ hk => (⟨hk, hk.1.2.2.2.2.2⟩ : _ ∧ k_ ≠ gb452))) (fun _ hk => hk.1.2) (.int .i64 t440)) (fun _ hk => hk.1.2) (.int .i64 t441)) (fun _ hk => hk.1.2) (.slice Ao25 t442.length co25)) (fun _ hk => hk.2) (.int .i64 t446)) (fun _ hk => hk.2) (.int .i64 t447)) (fun _ hk => hk.2) (.slice Ao29 t448.length co29)) (fun _ hk => ⟨hk.1.1.1, ⟨hk.1.1.2.1, ⟨hk.1.1.2.2.1, ⟨hk.1.1.2.2.2.1, ⟨hk.1.1.2.2.2.2.1, hk.1.1.2.2.2.2.2⟩⟩⟩⟩⟩)⟩, ⟨by (with_reducible repeat (first | apply Kd.N_alloc | apply Kd.N_drewN | apply Kd.N_drew)); exact Kd.N_mono (Kd.N_far (p := ⟨gb452, 2, none⟩) (Kd.N_far (p := ⟨gb452, 1, none⟩) (Kd.N_far (p := ⟨gb452, 0, none⟩) (Kd.N_far (p := ⟨gb451, 2, none⟩) (Kd.N_far (p := ⟨gb451, 1, none⟩) (Kd.N_far (p := ⟨gb451, 0, none⟩) (Kd.N_mono (Kd.N_mono HO450.out (fun k_ hk => (⟨hk, hk.2.2.2.2.1⟩ : _ ∧ k_ ≠ gb451))) (fun k_ hk => (⟨hk, hk.1.2.2.2.2.2⟩ : _ ∧ k_ ≠ gb452))) (fun _ hk => hk.1.2) (.int .i64 t440)) (fun _ hk => hk.1.2) (.int .i64 t441)) (fun _ hk => hk.1.2) (.slice Ao25 t442.length co25)) (fun _ hk => hk.2) (.int .i64 t446)) (fun _ hk => hk.2) (.int .i64 t447)) (fun _ hk => hk.2) (.slice Ao29 t448.length co29)) (fun _ hk => ⟨hk.1.1.1, ⟨hk.1.1.2.1, ⟨hk.1.1.2.2.1, ⟨hk.1.1.2.2.2.1, ⟨hk.1.1.2.2.2.2.1, hk.1.1.2.2.2.2.2⟩⟩⟩⟩⟩)⟩, ⟨by (with_reducible repeat (first | refine X7 ?_ _ | refine X8 ?_ | refine X6 ?_ _)); refine blk_far ?_ NB437_452.out _; (with_reducible repeat (first | refine X7 ?_ _ | refine X8 ?_ | refine X6 ?_ _)); refine blk_far ?_ NB437_452.out _; (with_reducible repeat (first | refine X7 ?_ _ | refine X8 ?_ | refine X6 ?_ _)); refine blk_far ?_ NB437_452.out _; (with_reducible repeat (first | refine X7 ?_ _ | refine X8 ?_ | refine X6 ?_ _)); refine blk_far ?_ NB437_451.out _; (with_reducible repeat (first | refine X7 ?_ _ | refine X8 ?_ | refine X6 ?_ _)); refine blk_far ?_ NB437_451.out _; (with_reducible repeat (first | refine X7 ?_ _ | refine X8 ?_ | refine X6 ?_ _)); refine blk_far ?_ NB437_451.out _; (with_reducible repeat (first | refine X7 ?_ _ | refine X8 ?_ | refine X6 ?_ _)); exact BK437.out⟩, ⟨by (with_reducible repeat (first | refine X7 ?_ _ | refine X8 ?_ | refine X6 ?_ _)); refine blk_far ?_ NB438_452.out _; (with_reducible repeat (first | refine X7 ?_ _ | refine X8 ?_ | refine X6 ?_ _)); refine blk_far ?_ NB438_452.out _; (with_reducible repeat (first | refine X7 ?_ _ | refine X8 ?_ | refine X6 ?_ _)); refine blk_far ?_ NB438_452.out _; (with_reducible repeat (first | refine X7 ?_ _ | refine X8 ?_ | refine X6 ?_ _)); refine blk_far ?_ NB438_451.out _; (with_reducible repeat (first | refine X7 ?_ _ | refine X8 ?_ | refine X6 ?_ _)); refine blk_far ?_ NB438_451.out _; (with_reducible repeat (first | refine X7 ?_ _ | refine X8 ?_ | refine X6 ?_ _)); refine blk_far ?_ NB438_451.out _; (with_reducible repeat (first | refine X7 ?_ _ | refine X8 ?_ | refine X6 ?_ _)); exact BK438.out⟩, ⟨by (with_reducible repeat (first | refine X7 ?_ _ | refine X8 ?_ | refine X6 ?_ _)); refine blk_far ?_ NB451_452.out _; (with_reducible repeat (first | refine X7 ?_ _ | refine X8 ?_ | refine X6 ?_ _)); refine blk_far ?_ NB451_452.out _; (with_reducible repeat (first | refine X7 ?_ _ | refine X8 ?_ | refine X6 ?_ _)); refine blk_far ?_ NB451_452.out _; (with_reducible repeat (first | refine X7 ?_ _ | refine X8 ?_ | refine X6 ?_ _)); refine blk_put (cs := #[.int .i64 t440, .int .i64 t441, .slice none 0 0]) ?_ 2 _ rfl; (with_reducible repeat (first | refine X7 ?_ _ | refine X8 ?_ | refine X6 ?_ _)); refine blk_put (cs := #[.int .i64 t440, .int .i64 0, .slice none 0 0]) ?_ 1 _ rfl; (with_reducible repeat (first | refine X7 ?_ _ | refine X8 ?_ | refine X6 ?_ _)); refine blk_put (cs := #[.int .i64 0, .int .i64 0, .slice none 0 0]) ?_ 0 _ rfl; (with_reducible repeat (first | refine X7 ?_ _ | refine X8 ?_ | refine X6 ?_ _)); exact BK451.out⟩, ⟨by (with_reducible repeat (first | refine X7 ?_ _ | refine X8 ?_ | refine X6 ?_ _)); refine blk_put (cs := #[.int .i64 t446, .int .i64 t447, .slice none 0 0]) ?_ 2 _ rfl; (with_reducible repeat (first | refine X7 ?_ _ | refine X8 ?_ | refine X6 ?_ _)); refine blk_put (cs := #[.int .i64 t446, .int .i64 0, .slice none 0 0]) ?_ 1 _ rfl; (with_reducible repeat (first | refine X7 ?_ _ | refine X8 ?_ | refine X6 ?_ _)); refine blk_put (cs := #[.int .i64 0, .int .i64 0, .slice none 0 0]) ?_ 0 _ rfl; (with_reducible repeat (first | refine X7 ?_ _ | refine X8 ?_ | refine X6 ?_ _)); refine blk_far ?_ NB452_451.out _; (with_reducible repeat (first | refine X7 ?_ _ | refine X8 ?_ | refine X6 ?_ _)); refine blk_far ?_ NB452_451.out _; (with_reducible repeat (first | refine X7 ?_ _ | refine X8 ?_ | refine X6 ?_ _)); refine blk_far ?_ NB452_451.out _; (with_reducible repeat (first | refine X7 ?_ _ | refine X8 ?_ | refine X6 ?_ _)); exact BK452.out⟩, ⟨by repeat (first | (with_reducible first | exact HB.out | apply X5 | apply X4 | apply X3 | refine X10 ?_ GE437.out | refine X10 ?_ GE438.out | refine X10 ?_ GE451.out | refine X10 ?_ GE452.out) | exact HB.out)⟩⟩
     ·rw [if_neg c31] at H
      have c31b0 : (t440 == 0) = false := beq_eq_false_iff_ne.mpr c31
      have c31b1 : (t440 != 0) = true := bne_iff_ne.mpr c31
      (first | rw [c31b0] | (simp only [i64_w, i32_w]; rw [c31b0]) | skip)
      have H' := X1 H
      clear H
      have hnb39 := NB451_437.out
      have hnc39 := NB437_451.out
      have hnb40 := NB451_438.out
      have hnc40 := NB438_451.out
      have hnb41 := NB451_452.out
      have hnc41 := NB452_451.out
      have hcz42_0 : w22.cell? ⟨gb451, 0, none⟩ = some (.int .i64 0) := (X11 BK451.out 0).trans rfl
      have hcz42_1 : w22.cell? ⟨gb451, 1, none⟩ = some (.int .i64 0) := (X11 BK451.out 1).trans rfl
      have hcz42_2 : w22.cell? ⟨gb451, 2, none⟩ = some (.slice none 0 0) := (X11 BK451.out 2).trans rfl
      have hfz42_0 := X12 BK451.out 0
      have hfz42_1 := X12 BK451.out 1
      have hfz42_2 := X12 BK451.out 2
      go_wp2
      go_meet
      case rel => exact ⟨_, (false), (by first | rfl | (simp; done) | (simp [*]; done)), H', ⟨by first | omega | exact Nat.le_refl _⟩, ⟨by (with_reducible repeat (first | apply Kd.N_alloc | apply Kd.N_drewN | apply Kd.N_drew)); exact Kd.N_mono (Kd.N_far (p := ⟨gb452, 2, none⟩) (Kd.N_far (p := ⟨gb452, 1, none⟩) (Kd.N_far (p := ⟨gb452, 0, none⟩) (Kd.N_far (p := ⟨gb451, 2, none⟩) (Kd.N_far (p := ⟨gb451, 1, none⟩) (Kd.N_far (p := ⟨gb451, 0, none⟩) (Kd.N_mono (Kd.N_mono HO444.out (fun k_ hk => (⟨hk, hk.2.2.2.2.1⟩ : _ ∧ k_ ≠ gb451))) (fun k_ hk => (⟨hk, hk.1.2.2.2.2.2⟩ : _ ∧ k_ ≠ gb452))) (fun _ hk => hk.1.2) (.int .i64 t440)) (fun _ hk => hk.1.2) (.int .i64 t441)) (fun _ hk => hk.1.2) (.slice Ao25 t442.length co25)) (fun _ hk => hk.2) (.int .i64 t446)) (fun _ hk => hk.2) (.int .i64 t447)) (fun _ hk => hk.2) (.slice Ao29 t448.length co29)) (fun _ hk => ⟨hk.1.1.1, ⟨hk.1.1.2.1, ⟨hk.1.1.2.2.1, ⟨hk.1.1.2.2.2.1, ⟨hk.1.1.2.2.2.2.1, hk.1.1.2.2.2.2.2⟩⟩⟩⟩⟩)⟩, ⟨by (with_reducible repeat (first | apply Kd.N_alloc | apply Kd.N_drewN | apply Kd.N_drew)); exact Kd.N_mono (Kd.N_far (p := ⟨gb452, 2, none⟩) (Kd.N_far (p := ⟨gb452, 1, none⟩) (Kd.N_far (p := ⟨gb452, 0, none⟩) (Kd.N_far (p := ⟨gb451, 2, none⟩) (Kd.N_far (p := ⟨gb451, 1, none⟩) (Kd.N_far (p := ⟨gb451, 0, none⟩) (Kd.N_mono (Kd.N_mono HO450.out (fun k_ hk => (⟨hk, hk.2.2.2.2.1⟩ : _ ∧ k_ ≠ gb451))) (fun k_ hk => (⟨hk, hk.1.2.2.2.2.2⟩ : _ ∧ k_ ≠ gb452))) (fun _ hk => hk.1.2) (.int .i64 t440)) (fun _ hk => hk.1.2) (.int .i64 t441)) (fun _ hk => hk.1.2) (.slice Ao25 t442.length co25)) (fun _ hk => hk.2) (.int .i64 t446)) (fun _ hk => hk.2) (.int .i64 t447)) (fun _ hk => hk.2) (.slice Ao29 t448.length co29)) (fun _ hk => ⟨hk.1.1.1, ⟨hk.1.1.2.1, ⟨hk.1.1.2.2.1, ⟨hk.1.1.2.2.2.1, ⟨hk.1.1.2.2.2.2.1, hk.1.1.2.2.2.2.2⟩⟩⟩⟩⟩)⟩, ⟨by (with_reducible repeat (first | refine X7 ?_ _ | refine X8 ?_ | refine X6 ?_ _)); refine blk_far ?_ NB437_452.out _; (with_reducible repeat (first | refine X7 ?_ _ | refine X8 ?_ | refine X6 ?_ _)); refine blk_far ?_ NB437_452.out _; (with_reducible repeat (first | refine X7 ?_ _ | refine X8 ?_ | refine X6 ?_ _)); refine blk_far ?_ NB437_452.out _; (with_reducible repeat (first | refine X7 ?_ _ | refine X8 ?_ | refine X6 ?_ _)); refine blk_far ?_ NB437_451.out _; (with_reducible repeat (first | refine X7 ?_ _ | refine X8 ?_ | refine X6 ?_ _)); refine blk_far ?_ NB437_451.out _; (with_reducible repeat (first | refine X7 ?_ _ | refine X8 ?_ | refine X6 ?_ _)); refine blk_far ?_ NB437_451.out _; (with_reducible repeat (first | refine X7 ?_ _ | refine X8 ?_ | refine X6 ?_ _)); exact BK437.out⟩, ⟨by (with_reducible repeat (first | refine X7 ?_ _ | refine X8 ?_ | refine X6 ?_ _)); refine blk_far ?_ NB438_452.out _; (with_reducible repeat (first | refine X7 ?_ _ | refine X8 ?_ | refine X6 ?_ _)); refine blk_far ?_ NB438_452.out _; (with_reducible repeat (first | refine X7 ?_ _ | refine X8 ?_ | refine X6 ?_ _)); refine blk_far ?_ NB438_452.out _; (with_reducible repeat (first | refine X7 ?_ _ | refine X8 ?_ | refine X6 ?_ _)); refine blk_far ?_ NB438_451.out _; (with_reducible repeat (first | refine X7 ?_ _ | refine X8 ?_ | refine X6 ?_ _)); refine blk_far ?_ NB438_451.out _; (with_reducible repeat (first | refine X7 ?_ _ | refine X8 ?_ | refine X6 ?_ _)); refine blk_far ?_ NB438_451.out _; (with_reducible repeat (first | refine X7 ?_ _ | refine X8 ?_ | refine X6 ?_ _)); exact BK438.out⟩, ⟨by (with_reducible repeat (first | refine X7 ?_ _ | refine X8 ?_ | refine X6 ?_ _)); refine blk_far ?_ NB451_452.out _; (with_reducible repeat (first | refine X7 ?_ _ | refine X8 ?_ | refine X6 ?_ _)); refine blk_far ?_ NB451_452.out _; (with_reducible repeat (first | refine X7 ?_ _ | refine X8 ?_ | refine X6 ?_ _)); refine blk_far ?_ NB451_452.out _; (with_reducible repeat (first | refine X7 ?_ _ | refine X8 ?_ | refine X6 ?_ _)); refine blk_put (cs := #[.int .i64 t440, .int .i64 t441, .slice none 0 0]) ?_ 2 _ rfl; (with_reducible repeat (first | refine X7 ?_ _ | refine X8 ?_ | refine X6 ?_ _)); refine blk_put (cs := #[.int .i64 t440, .int .i64 0, .slice none 0 0]) ?_ 1 _ rfl; (with_reducible repeat (first | refine X7 ?_ _ | refine X8 ?_ | refine X6 ?_ _)); refine blk_put (cs := #[.int .i64 0, .int .i64 0, .slice none 0 0]) ?_ 0 _ rfl; (with_reducible repeat (first | refine X7 ?_ _ | refine X8 ?_ | refine X6 ?_ _)); exact BK451.out⟩, ⟨by (with_reducible repeat (first | refine X7 ?_ _ | refine X8 ?_ | refine X6 ?_ _)); refine blk_put (cs := #[.int .i64 t446, .int .i64 t447, .slice none 0 0]) ?_ 2 _ rfl; (with_reducible repeat (first | refine X7 ?_ _ | refine X8 ?_ | refine X6 ?_ _)); refine blk_put (cs := #[.int .i64 t446, .int .i64 0, .slice none 0 0]) ?_ 1 _ rfl; (with_reducible repeat (first | refine X7 ?_ _ | refine X8 ?_ | refine X6 ?_ _)); refine blk_put (cs := #[.int .i64 0, .int .i64 0, .slice none 0 0]) ?_ 0 _ rfl; (with_reducible repeat (first | refine X7 ?_ _ | refine X8 ?_ | refine X6 ?_ _)); refine blk_far ?_ NB452_451.out _; (with_reducible repeat (first | refine X7 ?_ _ | refine X8 ?_ | refine X6 ?_ _)); refine blk_far ?_ NB452_451.out _; (with_reducible repeat (first | refine X7 ?_ _ | refine X8 ?_ | refine X6 ?_ _)); refine blk_far ?_ NB452_451.out _; (with_reducible repeat (first | refine X7 ?_ _ | refine X8 ?_ | refine X6 ?_ _)); exact BK452.out⟩, ⟨by repeat (first | (with_reducible first | exact HB.out | apply X5 | apply X4 | apply X3 | refine X10 ?_ GE437.out | refine X10 ?_ GE438.out | refine X10 ?_ GE451.out | refine X10 ?_ GE452.out) | exact HB.out)⟩⟩
    case rest =>
     clear HC12
     try clear p2
     try clear c3
     try clear c4
     try clear c31
     try clear c31b0
     try clear c31b1
     try clear c32
     try clear c33
     try clear c34
     try clear c36
     try clear c37
     try clear c39
     try clear c40
     try clear c41
     try clear hcz35_0
     try clear hcz35_1
     try clear hcz35_2
     try clear hcz38_0
     try clear hcz38_1
     try clear hcz38_2
     try clear hcz42_0
     try clear hcz42_1
     try clear hcz42_2
     try clear hfz35_0
     try clear hfz35_1
     try clear hfz35_2
     try clear hfz38_0
     try clear hfz38_1
     try clear hfz38_2
     try clear hfz42_0
     try clear hfz42_1
     try clear hfz42_2
     obtain ⟨kq, x32_11, rfl, HA, HJ11, HO_452002, HO_453002, BK437, BK438, BK451, BK452, HB⟩ := hcut
     cases kq with
     | zero => exact absurd HA.out (by simp [impl_exprFold.j0])
     | succ kj11 =>
      have H := HA.out
      clear HA
      simp only [impl_exprFold.j0] at H
      by_cases c43 : x32_11 = true
      ·subst c43
       have H1 : ((impl_apply.f a0_0 t441 t447).bind fun t453 => (if t453 ≥ 0 then (if t453 ≤ 99999 then (some (0, t453, ([] : List (S29)))) else (some (a0_0, 0, (([(⟨t440, t441, t442⟩ : S29), (⟨t446, t447, t448⟩ : S29)] : List (S29)))))) else (some (a0_0, 0, (([(⟨t440, t441, t442⟩ : S29), (⟨t446, t447, t448⟩ : S29)] : List (S29))))))) = some (r1, r2, r3) := by rw [if_pos rfl] at H; exact H
       clear H
       have H := H1
       clear H1
       replace H := X2 H
       obtain ⟨t453, A440, H⟩ := H
       replace H : (if t453 ≥ 0 then (if t453 ≤ 99999 then (some (0, t453, ([] : List (S29)))) else (some (a0_0, 0, (([(⟨t440, t441, t442⟩ : S29), (⟨t446, t447, t448⟩ : S29)] : List (S29)))))) else (some (a0_0, 0, (([(⟨t440, t441, t442⟩ : S29), (⟨t446, t447, t448⟩ : S29)] : List (S29)))))) = some (r1, r2, r3) := H
       have A44 := X1 A440
       clear A440
       by_cases c45 : t453 ≥ 0
       ·rw [if_pos c45] at H
        have c45b0 : decide (0 ≤ t453) = true := decide_eq_true c45
        clear c45
        by_cases c46 : t453 ≤ 99999
        ·rw [if_pos c46] at H
         have c46b0 : decide (t453 ≤ 99999) = true := decide_eq_true c46
         clear c46
         simp only [Option.some.injEq, Prod.mk.injEq] at H
         obtain ⟨rfl, rfl, rfl⟩ := H
         have hnb47 := NB437_438.out
         have hnc47 := NB438_437.out
         have hnb48 := NB437_451.out
         have hnc48 := NB451_437.out
         have hnb49 := NB437_452.out
         have hnc49 := NB452_437.out
         have hcz50_0 : wc.cell? ⟨gb437, 0, none⟩ = some (.int .i64 a0_0) := (X11 BK437.out 0).trans rfl
         have hcz50_1 : wc.cell? ⟨gb437, 1, none⟩ = some (.int .i64 a0_1) := (X11 BK437.out 1).trans rfl
         have hcz50_2 : wc.cell? ⟨gb437, 2, none⟩ = some (.slice (some ad439) l0_2.length c0_2) := (X11 BK437.out 2).trans rfl
         have hfz50_0 := X12 BK437.out 0
         have hfz50_1 := X12 BK437.out 1
         have hfz50_2 := X12 BK437.out 2
         have hnb51 := NB451_438.out
         have hnc51 := NB438_451.out
         have hnb52 := NB451_452.out
         have hnc52 := NB452_451.out
         have hcz53_0 : wc.cell? ⟨gb451, 0, none⟩ = some (.int .i64 t440) := (X11 BK451.out 0).trans rfl
         have hcz53_1 : wc.cell? ⟨gb451, 1, none⟩ = some (.int .i64 t441) := (X11 BK451.out 1).trans rfl
         have hcz53_2 : wc.cell? ⟨gb451, 2, none⟩ = some (.slice Ao25 t442.length co25) := (X11 BK451.out 2).trans rfl
         have hfz53_0 := X12 BK451.out 0
         have hfz53_1 := X12 BK451.out 1
         have hfz53_2 := X12 BK451.out 2
         have hnb54 := NB452_438.out
         have hnc54 := NB438_452.out
         have hcz55_0 : wc.cell? ⟨gb452, 0, none⟩ = some (.int .i64 t446) := (X11 BK452.out 0).trans rfl
         have hcz55_1 : wc.cell? ⟨gb452, 1, none⟩ = some (.int .i64 t447) := (X11 BK452.out 1).trans rfl
         have hcz55_2 : wc.cell? ⟨gb452, 2, none⟩ = some (.slice Ao29 t448.length co29) := (X11 BK452.out 2).trans rfl
         have hfz55_0 := X12 BK452.out 0
         have hfz55_1 := X12 BK452.out 1
         have hfz55_2 := X12 BK452.out 2
         go_wp2_with (first | ((with_reducible refine gate_callee (f := 53) rfl ?_); refine goesL_ (some 39) rfl rfl Try.func53 (by kernel_rfl) rfl #[.int .i64 a0_0, .int .i64 t441, .int .i64 t447] rfl (by (try simp only [List.map_toArray, List.map_cons, List.map_nil]); first | done | rfl | (simp only [List.length_drop, List.length_take]; rfl)) ?_; (with_reducible refine (impl_apply.calls a0_0 t441 t447 t453 _ A44.out).mono ?_); rintro e w' ⟨rfl, ⟨nd, rfl⟩⟩; refine ⟨_, rfl, ?_⟩; (try (rw [drewN_self wc]; generalize hq_ : World.drewN wc _ = wc; have n0_ : Aside0 (Kd.N k29 29 wc w.heap.size (fun k_ => (w.heap.size ≤ k_) ∧ some k_ ≠ (.slice Ao29 t448.length co29 : Value).ownBlock ∧ k_ ≠ gb437 ∧ k_ ≠ gb438 ∧ k_ ≠ gb451 ∧ k_ ≠ gb452) (.slice Ao25 t442.length co25) t442) := ⟨by rw [← hq_]; exact (by (with_reducible repeat (first | apply Kd.N_alloc | apply Kd.N_drewN | apply Kd.N_drew)); exact HO_452002.out)⟩; have n1_ : Aside0 (Kd.N k29 29 wc w.heap.size (fun k_ => (w.heap.size ≤ k_) ∧ some k_ ≠ (.slice Ao25 t442.length co25 : Value).ownBlock ∧ k_ ≠ gb437 ∧ k_ ≠ gb438 ∧ k_ ≠ gb451 ∧ k_ ≠ gb452) (.slice Ao29 t448.length co29) t448) := ⟨by rw [← hq_]; exact (by (with_reducible repeat (first | apply Kd.N_alloc | apply Kd.N_drewN | apply Kd.N_drew)); exact HO_453002.out)⟩; have n2_ : Aside0 (wc.heap[gb437]? = some (.cells #[.int .i64 a0_0, .int .i64 a0_1, .slice (some ad439) l0_2.length c0_2] 29 (0, 0))) := ⟨by rw [← hq_]; exact (by (with_reducible repeat (first | refine X7 ?_ _ | refine X8 ?_ | refine X6 ?_ _)); exact BK437.out)⟩; have n3_ : Aside0 (wc.heap[gb438]? = some (.cells #[.int .i64 0, .int .i64 0, .slice none 0 0] 29 (0, 0))) := ⟨by rw [← hq_]; exact (by (with_reducible repeat (first | refine X7 ?_ _ | refine X8 ?_ | refine X6 ?_ _)); exact BK438.out)⟩; have n4_ : Aside0 (wc.heap[gb451]? = some (.cells #[.int .i64 t440, .int .i64 t441, .slice Ao25 t442.length co25] 29 (0, 0))) := ⟨by rw [← hq_]; exact (by (with_reducible repeat (first | refine X7 ?_ _ | refine X8 ?_ | refine X6 ?_ _)); exact BK451.out)⟩; have n5_ : Aside0 (wc.heap[gb452]? = some (.cells #[.int .i64 t446, .int .i64 t447, .slice Ao29 t448.length co29] 29 (0, 0))) := ⟨by rw [← hq_]; exact (by (with_reducible repeat (first | refine X7 ?_ _ | refine X8 ?_ | refine X6 ?_ _)); exact BK452.out)⟩; have n6_ : Aside0 (Below w.heap.size w wc) := ⟨by rw [← hq_]; exact (by repeat (first | (with_reducible first | exact HB.out | apply X5 | apply X4 | apply X3 | refine X10 ?_ GE437.out | refine X10 ?_ GE438.out | refine X10 ?_ GE451.out | refine X10 ?_ GE452.out) | exact HB.out))⟩; clear HO_452002 HO_453002 BK437 BK438 BK451 BK452 HB hq_; have HO_452002 := n0_; have HO_453002 := n1_; have BK437 := n2_; have BK438 := n3_; have BK451 := n4_; have BK452 := n5_; have HB := n6_; clear n0_ n1_ n2_ n3_ n4_ n5_ n6_)); have hcz56_0 : wc.cell? ⟨gb438, 0, none⟩ = some (.int .i64 0) := (X11 BK438.out 0).trans rfl; have hcz56_1 : wc.cell? ⟨gb438, 1, none⟩ = some (.int .i64 0) := (X11 BK438.out 1).trans rfl; have hcz56_2 : wc.cell? ⟨gb438, 2, none⟩ = some (.slice none 0 0) := (X11 BK438.out 2).trans rfl; have hfz56_0 := X12 BK438.out 0; have hfz56_1 := X12 BK438.out 1; have hfz56_2 := X12 BK438.out 2))
         refine bodyPost_ret (results_cell_row rfl _ _ gb438 29 #[.int .i64 0, .int .i64 t453, .slice none 0 0] (0, 0) _ rfl (by (with_reducible repeat (first | refine X7 ?_ _ | refine X8 ?_ | refine X6 ?_ _)); refine blk_put (cs := #[.int .i64 0, .int .i64 t453, .slice none 0 0]) ?_ 2 _ rfl; (with_reducible repeat (first | refine X7 ?_ _ | refine X8 ?_ | refine X6 ?_ _)); refine blk_put (cs := #[.int .i64 0, .int .i64 0, .slice none 0 0]) ?_ 1 _ rfl; (with_reducible repeat (first | refine X7 ?_ _ | refine X8 ?_ | refine X6 ?_ _)); refine blk_put (cs := #[.int .i64 0, .int .i64 0, .slice none 0 0]) ?_ 0 _ rfl; (with_reducible repeat (first | refine X7 ?_ _ | refine X8 ?_ | refine X6 ?_ _)); exact BK438.out) Try.underlying29 rfl (by kernel_rfl)) rfl ?_
         exact ⟨_, by first | rfl | (simp [errW_none, errW_some] <;> rfl) | (simp [*, errW_none, errW_some] <;> rfl), by first | exact Kd.R_nil _ _ _ _ _ | exact Kd.N_nil _ _ _ _ _ | exact Kd.V_nil _ _ _ _ _ | exact Kd.Q_nil _ _ _ _ _ | exact Kd.S_nil _ _ _ _ _, by repeat (first | (with_reducible first | exact HB.out | apply X5 | apply X4 | apply X3 | refine X10 ?_ GE437.out | refine X10 ?_ GE438.out | refine X10 ?_ GE451.out | refine X10 ?_ GE452.out) | exact HB.out)⟩
        ·rw [if_neg c46] at H
         have c46b0 : decide (t453 ≤ 99999) = false := decide_eq_false c46
         clear c46
         obtain ⟨y454, hy454⟩ : ∃ y_ : List (S29), y_ = (([(⟨t440, t441, t442⟩ : S29), (⟨t446, t447, t448⟩ : S29)] : List (S29))) := ⟨_, rfl⟩
         replace H : (some (a0_0, 0, y454)) = some (r1, r2, r3) := by first | (rw [hy454]; with_reducible exact H) | (have H2_ := (Option.bind_some _ _).symm.trans H; rw [hy454]; with_reducible exact H2_) | (have H2_ := (Option.bind_some _ _).symm.trans H; with_reducible exact H2_) | with_reducible exact H | (rw [hy454]; exact H) | exact H
         have Ny454 := X1 hy454
         clear hy454
         simp only [Option.some.injEq, Prod.mk.injEq] at H
         obtain ⟨rfl, rfl, rfl⟩ := H
         have hnb57 := NB437_438.out
         have hnc57 := NB438_437.out
         have hnb58 := NB437_451.out
         have hnc58 := NB451_437.out
         have hnb59 := NB437_452.out
         have hnc59 := NB452_437.out
         have hcz60_0 : wc.cell? ⟨gb437, 0, none⟩ = some (.int .i64 a0_0) := (X11 BK437.out 0).trans rfl
         have hcz60_1 : wc.cell? ⟨gb437, 1, none⟩ = some (.int .i64 a0_1) := (X11 BK437.out 1).trans rfl
         have hcz60_2 : wc.cell? ⟨gb437, 2, none⟩ = some (.slice (some ad439) l0_2.length c0_2) := (X11 BK437.out 2).trans rfl
         have hfz60_0 := X12 BK437.out 0
         have hfz60_1 := X12 BK437.out 1
         have hfz60_2 := X12 BK437.out 2
         have hnb61 := NB451_438.out
         have hnc61 := NB438_451.out
         have hnb62 := NB451_452.out
         have hnc62 := NB452_451.out
         have hcz63_0 : wc.cell? ⟨gb451, 0, none⟩ = some (.int .i64 t440) := (X11 BK451.out 0).trans rfl
         have hcz63_1 : wc.cell? ⟨gb451, 1, none⟩ = some (.int .i64 t441) := (X11 BK451.out 1).trans rfl
         have hcz63_2 : wc.cell? ⟨gb451, 2, none⟩ = some (.slice Ao25 t442.length co25) := (X11 BK451.out 2).trans rfl
         have hfz63_0 := X12 BK451.out 0
         have hfz63_1 := X12 BK451.out 1
         have hfz63_2 := X12 BK451.out 2
         have hnb64 := NB452_438.out
         have hnc64 := NB438_452.out
         have hcz65_0 : wc.cell? ⟨gb452, 0, none⟩ = some (.int .i64 t446) := (X11 BK452.out 0).trans rfl
         have hcz65_1 : wc.cell? ⟨gb452, 1, none⟩ = some (.int .i64 t447) := (X11 BK452.out 1).trans rfl
         have hcz65_2 : wc.cell? ⟨gb452, 2, none⟩ = some (.slice Ao29 t448.length co29) := (X11 BK452.out 2).trans rfl
         have hfz65_0 := X12 BK452.out 0
         have hfz65_1 := X12 BK452.out 1
         have hfz65_2 := X12 BK452.out 2
         go_wp2_with (first | ((with_reducible refine gate_callee (f := 53) rfl ?_); refine goesL_ (some 39) rfl rfl Try.func53 (by kernel_rfl) rfl #[.int .i64 a0_0, .int .i64 t441, .int .i64 t447] rfl (by (try simp only [List.map_toArray, List.map_cons, List.map_nil]); first | done | rfl | (simp only [List.length_drop, List.length_take]; rfl)) ?_; (with_reducible refine (impl_apply.calls a0_0 t441 t447 t453 _ A44.out).mono ?_); rintro e w' ⟨rfl, ⟨nd, rfl⟩⟩; refine ⟨_, rfl, ?_⟩; (try (rw [drewN_self wc]; generalize hq_ : World.drewN wc _ = wc; have n0_ : Aside0 (Kd.N k29 29 wc w.heap.size (fun k_ => (w.heap.size ≤ k_) ∧ some k_ ≠ (.slice Ao29 t448.length co29 : Value).ownBlock ∧ k_ ≠ gb437 ∧ k_ ≠ gb438 ∧ k_ ≠ gb451 ∧ k_ ≠ gb452) (.slice Ao25 t442.length co25) t442) := ⟨by rw [← hq_]; exact (by (with_reducible repeat (first | apply Kd.N_alloc | apply Kd.N_drewN | apply Kd.N_drew)); exact HO_452002.out)⟩; have n1_ : Aside0 (Kd.N k29 29 wc w.heap.size (fun k_ => (w.heap.size ≤ k_) ∧ some k_ ≠ (.slice Ao25 t442.length co25 : Value).ownBlock ∧ k_ ≠ gb437 ∧ k_ ≠ gb438 ∧ k_ ≠ gb451 ∧ k_ ≠ gb452) (.slice Ao29 t448.length co29) t448) := ⟨by rw [← hq_]; exact (by (with_reducible repeat (first | apply Kd.N_alloc | apply Kd.N_drewN | apply Kd.N_drew)); exact HO_453002.out)⟩; have n2_ : Aside0 (wc.heap[gb437]? = some (.cells #[.int .i64 a0_0, .int .i64 a0_1, .slice (some ad439) l0_2.length c0_2] 29 (0, 0))) := ⟨by rw [← hq_]; exact (by (with_reducible repeat (first | refine X7 ?_ _ | refine X8 ?_ | refine X6 ?_ _)); exact BK437.out)⟩; have n3_ : Aside0 (wc.heap[gb438]? = some (.cells #[.int .i64 0, .int .i64 0, .slice none 0 0] 29 (0, 0))) := ⟨by rw [← hq_]; exact (by (with_reducible repeat (first | refine X7 ?_ _ | refine X8 ?_ | refine X6 ?_ _)); exact BK438.out)⟩; have n4_ : Aside0 (wc.heap[gb451]? = some (.cells #[.int .i64 t440, .int .i64 t441, .slice Ao25 t442.length co25] 29 (0, 0))) := ⟨by rw [← hq_]; exact (by (with_reducible repeat (first | refine X7 ?_ _ | refine X8 ?_ | refine X6 ?_ _)); exact BK451.out)⟩; have n5_ : Aside0 (wc.heap[gb452]? = some (.cells #[.int .i64 t446, .int .i64 t447, .slice Ao29 t448.length co29] 29 (0, 0))) := ⟨by rw [← hq_]; exact (by (with_reducible repeat (first | refine X7 ?_ _ | refine X8 ?_ | refine X6 ?_ _)); exact BK452.out)⟩; have n6_ : Aside0 (Below w.heap.size w wc) := ⟨by rw [← hq_]; exact (by repeat (first | (with_reducible first | exact HB.out | apply X5 | apply X4 | apply X3 | refine X10 ?_ GE437.out | refine X10 ?_ GE438.out | refine X10 ?_ GE451.out | refine X10 ?_ GE452.out) | exact HB.out))⟩; clear HO_452002 HO_453002 BK437 BK438 BK451 BK452 HB hq_; have HO_452002 := n0_; have HO_453002 := n1_; have BK437 := n2_; have BK438 := n3_; have BK451 := n4_; have BK452 := n5_; have HB := n6_; clear n0_ n1_ n2_ n3_ n4_ n5_ n6_; have hcz60_0 : wc.cell? ⟨gb437, 0, none⟩ = some (.int .i64 a0_0) := (X11 BK437.out 0).trans rfl; have hcz60_1 : wc.cell? ⟨gb437, 1, none⟩ = some (.int .i64 a0_1) := (X11 BK437.out 1).trans rfl; have hcz60_2 : wc.cell? ⟨gb437, 2, none⟩ = some (.slice (some ad439) l0_2.length c0_2) := (X11 BK437.out 2).trans rfl; have hfz60_0 := X12 BK437.out 0; have hfz60_1 := X12 BK437.out 1; have hfz60_2 := X12 BK437.out 2; have hcz63_0 : wc.cell? ⟨gb451, 0, none⟩ = some (.int .i64 t440) := (X11 BK451.out 0).trans rfl; have hcz63_1 : wc.cell? ⟨gb451, 1, none⟩ = some (.int .i64 t441) := (X11 BK451.out 1).trans rfl; have hcz63_2 : wc.cell? ⟨gb451, 2, none⟩ = some (.slice Ao25 t442.length co25) := (X11 BK451.out 2).trans rfl; have hfz63_0 := X12 BK451.out 0; have hfz63_1 := X12 BK451.out 1; have hfz63_2 := X12 BK451.out 2; have hcz65_0 : wc.cell? ⟨gb452, 0, none⟩ = some (.int .i64 t446) := (X11 BK452.out 0).trans rfl; have hcz65_1 : wc.cell? ⟨gb452, 1, none⟩ = some (.int .i64 t447) := (X11 BK452.out 1).trans rfl; have hcz65_2 : wc.cell? ⟨gb452, 2, none⟩ = some (.slice Ao29 t448.length co29) := (X11 BK452.out 2).trans rfl; have hfz65_0 := X12 BK452.out 0; have hfz65_1 := X12 BK452.out 1; have hfz65_2 := X12 BK452.out 2))) | ((with_reducible refine gate_dst (N := 52) rfl ?_); refine Kd.N_lit k29 _ 29 ?hg (N' := 52) ?hd (xs := ([(⟨t440, t441, t442⟩ : S29), (⟨t446, t447, t448⟩ : S29)] : List (S29))) (inner := [.int .i64 t440, .int .i64 t441, .slice Ao25 t442.length co25, .int .i64 t446, .int .i64 t447, .slice Ao29 t448.length co29]) (ok := (fun k_ => (w.heap.size ≤ k_) ∧ k_ ≠ gb437 ∧ k_ ≠ gb438 ∧ k_ ≠ gb451 ∧ k_ ≠ gb452)) (okp := (fun k_ => (w.heap.size ≤ k_) ∧ k_ ≠ gb437 ∧ k_ ≠ gb438 ∧ k_ ≠ gb451 ∧ k_ ≠ gb452)) ?hr ?hp (fun _ hk => hk) ((show ∀ k_, wc.heap.size ≤ k_ → (fun k_ => (w.heap.size ≤ k_) ∧ k_ ≠ gb437 ∧ k_ ≠ gb438 ∧ k_ ≠ gb451 ∧ k_ ≠ gb452) k_ from fun k_ hk => ⟨(Nat.le_trans (below_size (by repeat (first | (with_reducible first | exact HB.out | apply X5 | apply X4 | apply X3 | refine X10 ?_ GE437.out | refine X10 ?_ GE438.out | refine X10 ?_ GE451.out | refine X10 ?_ GE452.out) | exact HB.out))) hk), Kd.freshB (g := gb437) (o := .cells #[.int .i64 a0_0, .int .i64 a0_1, .slice (some ad439) l0_2.length c0_2] 29 (0, 0)) (by (with_reducible repeat (first | refine X7 ?_ _ | refine X8 ?_ | refine X6 ?_ _)); exact BK437.out) k_ hk, Kd.freshB (g := gb438) (o := .cells #[.int .i64 0, .int .i64 0, .slice none 0 0] 29 (0, 0)) (by (with_reducible repeat (first | refine X7 ?_ _ | refine X8 ?_ | refine X6 ?_ _)); exact BK438.out) k_ hk, Kd.freshB (g := gb451) (o := .cells #[.int .i64 t440, .int .i64 t441, .slice Ao25 t442.length co25] 29 (0, 0)) (by (with_reducible repeat (first | refine X7 ?_ _ | refine X8 ?_ | refine X6 ?_ _)); exact BK451.out) k_ hk, Kd.freshB (g := gb452) (o := .cells #[.int .i64 t446, .int .i64 t447, .slice Ao29 t448.length co29] 29 (0, 0)) (by (with_reducible repeat (first | refine X7 ?_ _ | refine X8 ?_ | refine X6 ?_ _)); exact BK452.out) k_ hk⟩) _ (Nat.le_refl _)) (Below.refl _ _) (Nat.le_refl _) (by simp) ?_; (case hd => rfl); (case hg => rfl); (case hr => first | (go_simp; done) | (go_simp; rfl)); (case hp => exact (Reps.c3 (show Kd.FK k29 _ _ (⟨t440, t441, t442⟩ : S29) [.int .i64 t440, .int .i64 t441, .slice Ao25 t442.length co25] from (k29_mkF _ _ (⟨t440, t441, t442⟩ : S29) (Kd.N_reads' (Kd.N_mono (ok' := (fun k_ => (w.heap.size ≤ k_) ∧ k_ ≠ gb437 ∧ k_ ≠ gb438 ∧ k_ ≠ gb451 ∧ k_ ≠ gb452)) (HO_452002.out) (fun k_ hk => ⟨hk.1, ⟨hk.2.2.1, ⟨hk.2.2.2.1, ⟨hk.2.2.2.2.1, hk.2.2.2.2.2⟩⟩⟩⟩))).2.1 (Kd.N_F (Kd.N_mono (ok' := (fun k_ => (w.heap.size ≤ k_) ∧ k_ ≠ gb437 ∧ k_ ≠ gb438 ∧ k_ ≠ gb451 ∧ k_ ≠ gb452)) (HO_452002.out) (fun k_ hk => ⟨hk.1, ⟨hk.2.2.1, ⟨hk.2.2.2.1, ⟨hk.2.2.2.2.1, hk.2.2.2.2.2⟩⟩⟩⟩))))) (Reps.c3 (show Kd.FK k29 _ _ (⟨t446, t447, t448⟩ : S29) [.int .i64 t446, .int .i64 t447, .slice Ao29 t448.length co29] from (k29_mkF _ _ (⟨t446, t447, t448⟩ : S29) (Kd.N_reads' (Kd.N_mono (ok' := (fun k_ => (w.heap.size ≤ k_) ∧ k_ ≠ gb437 ∧ k_ ≠ gb438 ∧ k_ ≠ gb451 ∧ k_ ≠ gb452)) (HO_453002.out) (fun k_ hk => ⟨hk.1, ⟨hk.2.2.1, ⟨hk.2.2.2.1, ⟨hk.2.2.2.2.1, hk.2.2.2.2.2⟩⟩⟩⟩))).2.1 (Kd.N_F (Kd.N_mono (ok' := (fun k_ => (w.heap.size ≤ k_) ∧ k_ ≠ gb437 ∧ k_ ≠ gb438 ∧ k_ ≠ gb451 ∧ k_ ≠ gb452)) (HO_453002.out) (fun k_ hk => ⟨hk.1, ⟨hk.2.2.1, ⟨hk.2.2.2.1, ⟨hk.2.2.2.2.1, hk.2.2.2.2.2⟩⟩⟩⟩))))) (Reps.none _ _)))); intro v455 w66 ho67 hb hg_ hnew_; clear hg_ hnew_; (first | rw [← Ny454.out] at ho67 | (simp only [Int.reduceToNat] at ho67; rw [← Ny454.out] at ho67)); have n0_ := X1 (Kd.N_lower ho67 (below_size (by repeat (first | (with_reducible first | exact HB.out | apply X5 | apply X4 | apply X3 | refine X10 ?_ GE437.out | refine X10 ?_ GE438.out | refine X10 ?_ GE451.out | refine X10 ?_ GE452.out) | exact HB.out)))); have n1_ := X1 (blk_below (g := gb437) (o := .cells #[.int .i64 a0_0, .int .i64 a0_1, .slice (some ad439) l0_2.length c0_2] 29 (0, 0)) (by (with_reducible repeat (first | refine X7 ?_ _ | refine X8 ?_ | refine X6 ?_ _)); exact BK437.out) hb); have n2_ := X1 (blk_below (g := gb438) (o := .cells #[.int .i64 0, .int .i64 0, .slice none 0 0] 29 (0, 0)) (by (with_reducible repeat (first | refine X7 ?_ _ | refine X8 ?_ | refine X6 ?_ _)); exact BK438.out) hb); have n3_ := X1 (blk_below (g := gb451) (o := .cells #[.int .i64 t440, .int .i64 t441, .slice Ao25 t442.length co25] 29 (0, 0)) (by (with_reducible repeat (first | refine X7 ?_ _ | refine X8 ?_ | refine X6 ?_ _)); exact BK451.out) hb); have n4_ := X1 (blk_below (g := gb452) (o := .cells #[.int .i64 t446, .int .i64 t447, .slice Ao29 t448.length co29] 29 (0, 0)) (by (with_reducible repeat (first | refine X7 ?_ _ | refine X8 ?_ | refine X6 ?_ _)); exact BK452.out) hb); have n5_ := X1 (below_step (by repeat (first | (with_reducible first | exact HB.out | apply X5 | apply X4 | apply X3 | refine X10 ?_ GE437.out | refine X10 ?_ GE438.out | refine X10 ?_ GE451.out | refine X10 ?_ GE452.out) | exact HB.out)) hb); clear BK437; clear BK438; clear BK451; clear BK452; clear HB; clear HO_452002; clear HO_453002; have HO456 := n0_; have BK437 := n1_; have BK438 := n2_; have BK451 := n3_; have BK452 := n4_; have HB := n5_; clear n0_ n1_ n2_ n3_ n4_ n5_; clear hb ho67; obtain ⟨Ao68, co68, eo68⟩ := Kd.N_slice HO456.out; subst eo68; have hcz69_0 : w66.cell? ⟨gb438, 0, none⟩ = some (.int .i64 0) := (X11 BK438.out 0).trans rfl; have hcz69_1 : w66.cell? ⟨gb438, 1, none⟩ = some (.int .i64 0) := (X11 BK438.out 1).trans rfl; have hcz69_2 : w66.cell? ⟨gb438, 2, none⟩ = some (.slice none 0 0) := (X11 BK438.out 2).trans rfl; have hfz69_0 := X12 BK438.out 0; have hfz69_1 := X12 BK438.out 1; have hfz69_2 := X12 BK438.out 2))
         refine bodyPost_ret (results_cell_row rfl _ _ gb438 29 #[.int .i64 a0_0, .int .i64 0, .slice Ao68 y454.length co68] (0, 0) _ rfl (by (with_reducible repeat (first | refine X7 ?_ _ | refine X8 ?_ | refine X6 ?_ _)); refine blk_put (cs := #[.int .i64 a0_0, .int .i64 0, .slice none 0 0]) ?_ 2 _ rfl; (with_reducible repeat (first | refine X7 ?_ _ | refine X8 ?_ | refine X6 ?_ _)); refine blk_put (cs := #[.int .i64 a0_0, .int .i64 0, .slice none 0 0]) ?_ 1 _ rfl; (with_reducible repeat (first | refine X7 ?_ _ | refine X8 ?_ | refine X6 ?_ _)); refine blk_put (cs := #[.int .i64 0, .int .i64 0, .slice none 0 0]) ?_ 0 _ rfl; (with_reducible repeat (first | refine X7 ?_ _ | refine X8 ?_ | refine X6 ?_ _)); exact BK438.out) Try.underlying29 rfl (by kernel_rfl)) rfl ?_
         exact ⟨_, by first | rfl | (simp [errW_none, errW_some] <;> rfl) | (simp [*, errW_none, errW_some] <;> rfl), by (with_reducible repeat (first | apply Kd.N_alloc | apply Kd.N_drewN | apply Kd.N_drew)); exact Kd.N_mono (Kd.N_far (p := ⟨gb438, 2, none⟩) (Kd.N_far (p := ⟨gb438, 1, none⟩) (Kd.N_far (p := ⟨gb438, 0, none⟩) (Kd.N_mono HO456.out (fun k_ hk => (⟨hk, hk.2.2.1⟩ : _ ∧ k_ ≠ gb438))) (fun _ hk => hk.2) (.int .i64 a0_0)) (fun _ hk => hk.2) (.int .i64 0)) (fun _ hk => hk.2) (.slice Ao68 y454.length co68)) (fun _ hk => hk.1.1), by repeat (first | (with_reducible first | exact HB.out | apply X5 | apply X4 | apply X3 | refine X10 ?_ GE437.out | refine X10 ?_ GE438.out | refine X10 ?_ GE451.out | refine X10 ?_ GE452.out) | exact HB.out)⟩
       ·rw [if_neg c45] at H
        have c45b0 : decide (0 ≤ t453) = false := decide_eq_false c45
        clear c45
        obtain ⟨y457, hy457⟩ : ∃ y_ : List (S29), y_ = (([(⟨t440, t441, t442⟩ : S29), (⟨t446, t447, t448⟩ : S29)] : List (S29))) := ⟨_, rfl⟩
        replace H : (some (a0_0, 0, y457)) = some (r1, r2, r3) := by first | (rw [hy457]; with_reducible exact H) | (have H2_ := (Option.bind_some _ _).symm.trans H; rw [hy457]; with_reducible exact H2_) | (have H2_ := (Option.bind_some _ _).symm.trans H; with_reducible exact H2_) | with_reducible exact H | (rw [hy457]; exact H) | exact H
        have Ny457 := X1 hy457
        clear hy457
        simp only [Option.some.injEq, Prod.mk.injEq] at H
        obtain ⟨rfl, rfl, rfl⟩ := H
        have hnb70 := NB437_438.out
        have hnc70 := NB438_437.out
        have hnb71 := NB437_451.out
        have hnc71 := NB451_437.out
        have hnb72 := NB437_452.out
        have hnc72 := NB452_437.out
        have hcz73_0 : wc.cell? ⟨gb437, 0, none⟩ = some (.int .i64 a0_0) := (X11 BK437.out 0).trans rfl
        have hcz73_1 : wc.cell? ⟨gb437, 1, none⟩ = some (.int .i64 a0_1) := (X11 BK437.out 1).trans rfl
        have hcz73_2 : wc.cell? ⟨gb437, 2, none⟩ = some (.slice (some ad439) l0_2.length c0_2) := (X11 BK437.out 2).trans rfl
        have hfz73_0 := X12 BK437.out 0
        have hfz73_1 := X12 BK437.out 1
        have hfz73_2 := X12 BK437.out 2
        have hnb74 := NB451_438.out
        have hnc74 := NB438_451.out
        have hnb75 := NB451_452.out
        have hnc75 := NB452_451.out
        have hcz76_0 : wc.cell? ⟨gb451, 0, none⟩ = some (.int .i64 t440) := (X11 BK451.out 0).trans rfl
        have hcz76_1 : wc.cell? ⟨gb451, 1, none⟩ = some (.int .i64 t441) := (X11 BK451.out 1).trans rfl
        have hcz76_2 : wc.cell? ⟨gb451, 2, none⟩ = some (.slice Ao25 t442.length co25) := (X11 BK451.out 2).trans rfl
        have hfz76_0 := X12 BK451.out 0
        have hfz76_1 := X12 BK451.out 1
        have hfz76_2 := X12 BK451.out 2
        have hnb77 := NB452_438.out
        have hnc77 := NB438_452.out
        have hcz78_0 : wc.cell? ⟨gb452, 0, none⟩ = some (.int .i64 t446) := (X11 BK452.out 0).trans rfl
        have hcz78_1 : wc.cell? ⟨gb452, 1, none⟩ = some (.int .i64 t447) := (X11 BK452.out 1).trans rfl
        have hcz78_2 : wc.cell? ⟨gb452, 2, none⟩ = some (.slice Ao29 t448.length co29) := (X11 BK452.out 2).trans rfl
        have hfz78_0 := X12 BK452.out 0
        have hfz78_1 := X12 BK452.out 1
        have hfz78_2 := X12 BK452.out 2
        go_wp2_with (first | ((with_reducible refine gate_callee (f := 53) rfl ?_); refine goesL_ (some 39) rfl rfl Try.func53 (by kernel_rfl) rfl #[.int .i64 a0_0, .int .i64 t441, .int .i64 t447] rfl (by (try simp only [List.map_toArray, List.map_cons, List.map_nil]); first | done | rfl | (simp only [List.length_drop, List.length_take]; rfl)) ?_; (with_reducible refine (impl_apply.calls a0_0 t441 t447 t453 _ A44.out).mono ?_); rintro e w' ⟨rfl, ⟨nd, rfl⟩⟩; refine ⟨_, rfl, ?_⟩; (try (rw [drewN_self wc]; generalize hq_ : World.drewN wc _ = wc; have n0_ : Aside0 (Kd.N k29 29 wc w.heap.size (fun k_ => (w.heap.size ≤ k_) ∧ some k_ ≠ (.slice Ao29 t448.length co29 : Value).ownBlock ∧ k_ ≠ gb437 ∧ k_ ≠ gb438 ∧ k_ ≠ gb451 ∧ k_ ≠ gb452) (.slice Ao25 t442.length co25) t442) := ⟨by rw [← hq_]; exact (by (with_reducible repeat (first | apply Kd.N_alloc | apply Kd.N_drewN | apply Kd.N_drew)); exact HO_452002.out)⟩; have n1_ : Aside0 (Kd.N k29 29 wc w.heap.size (fun k_ => (w.heap.size ≤ k_) ∧ some k_ ≠ (.slice Ao25 t442.length co25 : Value).ownBlock ∧ k_ ≠ gb437 ∧ k_ ≠ gb438 ∧ k_ ≠ gb451 ∧ k_ ≠ gb452) (.slice Ao29 t448.length co29) t448) := ⟨by rw [← hq_]; exact (by (with_reducible repeat (first | apply Kd.N_alloc | apply Kd.N_drewN | apply Kd.N_drew)); exact HO_453002.out)⟩; have n2_ : Aside0 (wc.heap[gb437]? = some (.cells #[.int .i64 a0_0, .int .i64 a0_1, .slice (some ad439) l0_2.length c0_2] 29 (0, 0))) := ⟨by rw [← hq_]; exact (by (with_reducible repeat (first | refine X7 ?_ _ | refine X8 ?_ | refine X6 ?_ _)); exact BK437.out)⟩; have n3_ : Aside0 (wc.heap[gb438]? = some (.cells #[.int .i64 0, .int .i64 0, .slice none 0 0] 29 (0, 0))) := ⟨by rw [← hq_]; exact (by (with_reducible repeat (first | refine X7 ?_ _ | refine X8 ?_ | refine X6 ?_ _)); exact BK438.out)⟩; have n4_ : Aside0 (wc.heap[gb451]? = some (.cells #[.int .i64 t440, .int .i64 t441, .slice Ao25 t442.length co25] 29 (0, 0))) := ⟨by rw [← hq_]; exact (by (with_reducible repeat (first | refine X7 ?_ _ | refine X8 ?_ | refine X6 ?_ _)); exact BK451.out)⟩; have n5_ : Aside0 (wc.heap[gb452]? = some (.cells #[.int .i64 t446, .int .i64 t447, .slice Ao29 t448.length co29] 29 (0, 0))) := ⟨by rw [← hq_]; exact (by (with_reducible repeat (first | refine X7 ?_ _ | refine X8 ?_ | refine X6 ?_ _)); exact BK452.out)⟩; have n6_ : Aside0 (Below w.heap.size w wc) := ⟨by rw [← hq_]; exact (by repeat (first | (with_reducible first | exact HB.out | apply X5 | apply X4 | apply X3 | refine X10 ?_ GE437.out | refine X10 ?_ GE438.out | refine X10 ?_ GE451.out | refine X10 ?_ GE452.out) | exact HB.out))⟩; clear HO_452002 HO_453002 BK437 BK438 BK451 BK452 HB hq_; have HO_452002 := n0_; have HO_453002 := n1_; have BK437 := n2_; have BK438 := n3_; have BK451 := n4_; have BK452 := n5_; have HB := n6_; clear n0_ n1_ n2_ n3_ n4_ n5_ n6_; have hcz73_0 : wc.cell? ⟨gb437, 0, none⟩ = some (.int .i64 a0_0) := (X11 BK437.out 0).trans rfl; have hcz73_1 : wc.cell? ⟨gb437, 1, none⟩ = some (.int .i64 a0_1) := (X11 BK437.out 1).trans rfl; have hcz73_2 : wc.cell? ⟨gb437, 2, none⟩ = some (.slice (some ad439) l0_2.length c0_2) := (X11 BK437.out 2).trans rfl; have hfz73_0 := X12 BK437.out 0; have hfz73_1 := X12 BK437.out 1; have hfz73_2 := X12 BK437.out 2; have hcz76_0 : wc.cell? ⟨gb451, 0, none⟩ = some (.int .i64 t440) := (X11 BK451.out 0).trans rfl; have hcz76_1 : wc.cell? ⟨gb451, 1, none⟩ = some (.int .i64 t441) := (X11 BK451.out 1).trans rfl; have hcz76_2 : wc.cell? ⟨gb451, 2, none⟩ = some (.slice Ao25 t442.length co25) := (X11 BK451.out 2).trans rfl; have hfz76_0 := X12 BK451.out 0; have hfz76_1 := X12 BK451.out 1; have hfz76_2 := X12 BK451.out 2; have hcz78_0 : wc.cell? ⟨gb452, 0, none⟩ = some (.int .i64 t446) := (X11 BK452.out 0).trans rfl; have hcz78_1 : wc.cell? ⟨gb452, 1, none⟩ = some (.int .i64 t447) := (X11 BK452.out 1).trans rfl; have hcz78_2 : wc.cell? ⟨gb452, 2, none⟩ = some (.slice Ao29 t448.length co29) := (X11 BK452.out 2).trans rfl; have hfz78_0 := X12 BK452.out 0; have hfz78_1 := X12 BK452.out 1; have hfz78_2 := X12 BK452.out 2))) | ((with_reducible refine gate_dst (N := 52) rfl ?_); refine Kd.N_lit k29 _ 29 ?hg (N' := 52) ?hd (xs := ([(⟨t440, t441, t442⟩ : S29), (⟨t446, t447, t448⟩ : S29)] : List (S29))) (inner := [.int .i64 t440, .int .i64 t441, .slice Ao25 t442.length co25, .int .i64 t446, .int .i64 t447, .slice Ao29 t448.length co29]) (ok := (fun k_ => (w.heap.size ≤ k_) ∧ k_ ≠ gb437 ∧ k_ ≠ gb438 ∧ k_ ≠ gb451 ∧ k_ ≠ gb452)) (okp := (fun k_ => (w.heap.size ≤ k_) ∧ k_ ≠ gb437 ∧ k_ ≠ gb438 ∧ k_ ≠ gb451 ∧ k_ ≠ gb452)) ?hr ?hp (fun _ hk => hk) ((show ∀ k_, wc.heap.size ≤ k_ → (fun k_ => (w.heap.size ≤ k_) ∧ k_ ≠ gb437 ∧ k_ ≠ gb438 ∧ k_ ≠ gb451 ∧ k_ ≠ gb452) k_ from fun k_ hk => ⟨(Nat.le_trans (below_size (by repeat (first | (with_reducible first | exact HB.out | apply X5 | apply X4 | apply X3 | refine X10 ?_ GE437.out | refine X10 ?_ GE438.out | refine X10 ?_ GE451.out | refine X10 ?_ GE452.out) | exact HB.out))) hk), Kd.freshB (g := gb437) (o := .cells #[.int .i64 a0_0, .int .i64 a0_1, .slice (some ad439) l0_2.length c0_2] 29 (0, 0)) (by (with_reducible repeat (first | refine X7 ?_ _ | refine X8 ?_ | refine X6 ?_ _)); exact BK437.out) k_ hk, Kd.freshB (g := gb438) (o := .cells #[.int .i64 0, .int .i64 0, .slice none 0 0] 29 (0, 0)) (by (with_reducible repeat (first | refine X7 ?_ _ | refine X8 ?_ | refine X6 ?_ _)); exact BK438.out) k_ hk, Kd.freshB (g := gb451) (o := .cells #[.int .i64 t440, .int .i64 t441, .slice Ao25 t442.length co25] 29 (0, 0)) (by (with_reducible repeat (first | refine X7 ?_ _ | refine X8 ?_ | refine X6 ?_ _)); exact BK451.out) k_ hk, Kd.freshB (g := gb452) (o := .cells #[.int .i64 t446, .int .i64 t447, .slice Ao29 t448.length co29] 29 (0, 0)) (by (with_reducible repeat (first | refine X7 ?_ _ | refine X8 ?_ | refine X6 ?_ _)); exact BK452.out) k_ hk⟩) _ (Nat.le_refl _)) (Below.refl _ _) (Nat.le_refl _) (by simp) ?_; (case hd => rfl); (case hg => rfl); (case hr => first | (go_simp; done) | (go_simp; rfl)); (case hp => exact (Reps.c3 (show Kd.FK k29 _ _ (⟨t440, t441, t442⟩ : S29) [.int .i64 t440, .int .i64 t441, .slice Ao25 t442.length co25] from (k29_mkF _ _ (⟨t440, t441, t442⟩ : S29) (Kd.N_reads' (Kd.N_mono (ok' := (fun k_ => (w.heap.size ≤ k_) ∧ k_ ≠ gb437 ∧ k_ ≠ gb438 ∧ k_ ≠ gb451 ∧ k_ ≠ gb452)) (HO_452002.out) (fun k_ hk => ⟨hk.1, ⟨hk.2.2.1, ⟨hk.2.2.2.1, ⟨hk.2.2.2.2.1, hk.2.2.2.2.2⟩⟩⟩⟩))).2.1 (Kd.N_F (Kd.N_mono (ok' := (fun k_ => (w.heap.size ≤ k_) ∧ k_ ≠ gb437 ∧ k_ ≠ gb438 ∧ k_ ≠ gb451 ∧ k_ ≠ gb452)) (HO_452002.out) (fun k_ hk => ⟨hk.1, ⟨hk.2.2.1, ⟨hk.2.2.2.1, ⟨hk.2.2.2.2.1, hk.2.2.2.2.2⟩⟩⟩⟩))))) (Reps.c3 (show Kd.FK k29 _ _ (⟨t446, t447, t448⟩ : S29) [.int .i64 t446, .int .i64 t447, .slice Ao29 t448.length co29] from (k29_mkF _ _ (⟨t446, t447, t448⟩ : S29) (Kd.N_reads' (Kd.N_mono (ok' := (fun k_ => (w.heap.size ≤ k_) ∧ k_ ≠ gb437 ∧ k_ ≠ gb438 ∧ k_ ≠ gb451 ∧ k_ ≠ gb452)) (HO_453002.out) (fun k_ hk => ⟨hk.1, ⟨hk.2.2.1, ⟨hk.2.2.2.1, ⟨hk.2.2.2.2.1, hk.2.2.2.2.2⟩⟩⟩⟩))).2.1 (Kd.N_F (Kd.N_mono (ok' := (fun k_ => (w.heap.size ≤ k_) ∧ k_ ≠ gb437 ∧ k_ ≠ gb438 ∧ k_ ≠ gb451 ∧ k_ ≠ gb452)) (HO_453002.out) (fun k_ hk => ⟨hk.1, ⟨hk.2.2.1, ⟨hk.2.2.2.1, ⟨hk.2.2.2.2.1, hk.2.2.2.2.2⟩⟩⟩⟩))))) (Reps.none _ _)))); intro v458 w79 ho80 hb hg_ hnew_; clear hg_ hnew_; (first | rw [← Ny457.out] at ho80 | (simp only [Int.reduceToNat] at ho80; rw [← Ny457.out] at ho80)); have n0_ := X1 (Kd.N_lower ho80 (below_size (by repeat (first | (with_reducible first | exact HB.out | apply X5 | apply X4 | apply X3 | refine X10 ?_ GE437.out | refine X10 ?_ GE438.out | refine X10 ?_ GE451.out | refine X10 ?_ GE452.out) | exact HB.out)))); have n1_ := X1 (blk_below (g := gb437) (o := .cells #[.int .i64 a0_0, .int .i64 a0_1, .slice (some ad439) l0_2.length c0_2] 29 (0, 0)) (by (with_reducible repeat (first | refine X7 ?_ _ | refine X8 ?_ | refine X6 ?_ _)); exact BK437.out) hb); have n2_ := X1 (blk_below (g := gb438) (o := .cells #[.int .i64 0, .int .i64 0, .slice none 0 0] 29 (0, 0)) (by (with_reducible repeat (first | refine X7 ?_ _ | refine X8 ?_ | refine X6 ?_ _)); exact BK438.out) hb); have n3_ := X1 (blk_below (g := gb451) (o := .cells #[.int .i64 t440, .int .i64 t441, .slice Ao25 t442.length co25] 29 (0, 0)) (by (with_reducible repeat (first | refine X7 ?_ _ | refine X8 ?_ | refine X6 ?_ _)); exact BK451.out) hb); have n4_ := X1 (blk_below (g := gb452) (o := .cells #[.int .i64 t446, .int .i64 t447, .slice Ao29 t448.length co29] 29 (0, 0)) (by (with_reducible repeat (first | refine X7 ?_ _ | refine X8 ?_ | refine X6 ?_ _)); exact BK452.out) hb); have n5_ := X1 (below_step (by repeat (first | (with_reducible first | exact HB.out | apply X5 | apply X4 | apply X3 | refine X10 ?_ GE437.out | refine X10 ?_ GE438.out | refine X10 ?_ GE451.out | refine X10 ?_ GE452.out) | exact HB.out)) hb); clear BK437; clear BK438; clear BK451; clear BK452; clear HB; clear HO_452002; clear HO_453002; have HO459 := n0_; have BK437 := n1_; have BK438 := n2_; have BK451 := n3_; have BK452 := n4_; have HB := n5_; clear n0_ n1_ n2_ n3_ n4_ n5_; clear hb ho80; obtain ⟨Ao81, co81, eo81⟩ := Kd.N_slice HO459.out; subst eo81; have hcz82_0 : w79.cell? ⟨gb438, 0, none⟩ = some (.int .i64 0) := (X11 BK438.out 0).trans rfl; have hcz82_1 : w79.cell? ⟨gb438, 1, none⟩ = some (.int .i64 0) := (X11 BK438.out 1).trans rfl; have hcz82_2 : w79.cell? ⟨gb438, 2, none⟩ = some (.slice none 0 0) := (X11 BK438.out 2).trans rfl; have hfz82_0 := X12 BK438.out 0; have hfz82_1 := X12 BK438.out 1; have hfz82_2 := X12 BK438.out 2))
        refine bodyPost_ret (results_cell_row rfl _ _ gb438 29 #[.int .i64 a0_0, .int .i64 0, .slice Ao81 y457.length co81] (0, 0) _ rfl (by (with_reducible repeat (first | refine X7 ?_ _ | refine X8 ?_ | refine X6 ?_ _)); refine blk_put (cs := #[.int .i64 a0_0, .int .i64 0, .slice none 0 0]) ?_ 2 _ rfl; (with_reducible repeat (first | refine X7 ?_ _ | refine X8 ?_ | refine X6 ?_ _)); refine blk_put (cs := #[.int .i64 a0_0, .int .i64 0, .slice none 0 0]) ?_ 1 _ rfl; (with_reducible repeat (first | refine X7 ?_ _ | refine X8 ?_ | refine X6 ?_ _)); refine blk_put (cs := #[.int .i64 0, .int .i64 0, .slice none 0 0]) ?_ 0 _ rfl; (with_reducible repeat (first | refine X7 ?_ _ | refine X8 ?_ | refine X6 ?_ _)); exact BK438.out) Try.underlying29 rfl (by kernel_rfl)) rfl ?_
        exact ⟨_, by first | rfl | (simp [errW_none, errW_some] <;> rfl) | (simp [*, errW_none, errW_some] <;> rfl), by (with_reducible repeat (first | apply Kd.N_alloc | apply Kd.N_drewN | apply Kd.N_drew)); exact Kd.N_mono (Kd.N_far (p := ⟨gb438, 2, none⟩) (Kd.N_far (p := ⟨gb438, 1, none⟩) (Kd.N_far (p := ⟨gb438, 0, none⟩) (Kd.N_mono HO459.out (fun k_ hk => (⟨hk, hk.2.2.1⟩ : _ ∧ k_ ≠ gb438))) (fun _ hk => hk.2) (.int .i64 a0_0)) (fun _ hk => hk.2) (.int .i64 0)) (fun _ hk => hk.2) (.slice Ao81 y457.length co81)) (fun _ hk => hk.1.1), by repeat (first | (with_reducible first | exact HB.out | apply X5 | apply X4 | apply X3 | refine X10 ?_ GE437.out | refine X10 ?_ GE438.out | refine X10 ?_ GE451.out | refine X10 ?_ GE452.out) | exact HB.out)⟩
      ·replace c43 := Bool.eq_false_iff.mpr c43
       subst c43
       have H1 : (some (a0_0, 0, (([(⟨t440, t441, t442⟩ : S29), (⟨t446, t447, t448⟩ : S29)] : List (S29))))) = some (r1, r2, r3) := by rw [if_neg (show ¬ (false = true) by decide)] at H; exact H
       clear H
       have H := H1
       clear H1
       obtain ⟨y460, hy460⟩ : ∃ y_ : List (S29), y_ = (([(⟨t440, t441, t442⟩ : S29), (⟨t446, t447, t448⟩ : S29)] : List (S29))) := ⟨_, rfl⟩
       replace H : (some (a0_0, 0, y460)) = some (r1, r2, r3) := by first | (rw [hy460]; with_reducible exact H) | (have H2_ := (Option.bind_some _ _).symm.trans H; rw [hy460]; with_reducible exact H2_) | (have H2_ := (Option.bind_some _ _).symm.trans H; with_reducible exact H2_) | with_reducible exact H | (rw [hy460]; exact H) | exact H
       have Ny460 := X1 hy460
       clear hy460
       simp only [Option.some.injEq, Prod.mk.injEq] at H
       obtain ⟨rfl, rfl, rfl⟩ := H
       have hnb83 := NB437_438.out
       have hnc83 := NB438_437.out
       have hnb84 := NB437_451.out
       have hnc84 := NB451_437.out
       have hnb85 := NB437_452.out
       have hnc85 := NB452_437.out
       have hcz86_0 : wc.cell? ⟨gb437, 0, none⟩ = some (.int .i64 a0_0) := (X11 BK437.out 0).trans rfl
       have hcz86_1 : wc.cell? ⟨gb437, 1, none⟩ = some (.int .i64 a0_1) := (X11 BK437.out 1).trans rfl
       have hcz86_2 : wc.cell? ⟨gb437, 2, none⟩ = some (.slice (some ad439) l0_2.length c0_2) := (X11 BK437.out 2).trans rfl
       have hfz86_0 := X12 BK437.out 0
       have hfz86_1 := X12 BK437.out 1
       have hfz86_2 := X12 BK437.out 2
       have hnb87 := NB451_438.out
       have hnc87 := NB438_451.out
       have hnb88 := NB451_452.out
       have hnc88 := NB452_451.out
       have hcz89_0 : wc.cell? ⟨gb451, 0, none⟩ = some (.int .i64 t440) := (X11 BK451.out 0).trans rfl
       have hcz89_1 : wc.cell? ⟨gb451, 1, none⟩ = some (.int .i64 t441) := (X11 BK451.out 1).trans rfl
       have hcz89_2 : wc.cell? ⟨gb451, 2, none⟩ = some (.slice Ao25 t442.length co25) := (X11 BK451.out 2).trans rfl
       have hfz89_0 := X12 BK451.out 0
       have hfz89_1 := X12 BK451.out 1
       have hfz89_2 := X12 BK451.out 2
       have hnb90 := NB452_438.out
       have hnc90 := NB438_452.out
       have hcz91_0 : wc.cell? ⟨gb452, 0, none⟩ = some (.int .i64 t446) := (X11 BK452.out 0).trans rfl
       have hcz91_1 : wc.cell? ⟨gb452, 1, none⟩ = some (.int .i64 t447) := (X11 BK452.out 1).trans rfl
       have hcz91_2 : wc.cell? ⟨gb452, 2, none⟩ = some (.slice Ao29 t448.length co29) := (X11 BK452.out 2).trans rfl
       have hfz91_0 := X12 BK452.out 0
       have hfz91_1 := X12 BK452.out 1
       have hfz91_2 := X12 BK452.out 2
       go_wp2_with (first | ((with_reducible refine gate_dst (N := 52) rfl ?_); refine Kd.N_lit k29 _ 29 ?hg (N' := 52) ?hd (xs := ([(⟨t440, t441, t442⟩ : S29), (⟨t446, t447, t448⟩ : S29)] : List (S29))) (inner := [.int .i64 t440, .int .i64 t441, .slice Ao25 t442.length co25, .int .i64 t446, .int .i64 t447, .slice Ao29 t448.length co29]) (ok := (fun k_ => (w.heap.size ≤ k_) ∧ k_ ≠ gb437 ∧ k_ ≠ gb438 ∧ k_ ≠ gb451 ∧ k_ ≠ gb452)) (okp := (fun k_ => (w.heap.size ≤ k_) ∧ k_ ≠ gb437 ∧ k_ ≠ gb438 ∧ k_ ≠ gb451 ∧ k_ ≠ gb452)) ?hr ?hp (fun _ hk => hk) ((show ∀ k_, wc.heap.size ≤ k_ → (fun k_ => (w.heap.size ≤ k_) ∧ k_ ≠ gb437 ∧ k_ ≠ gb438 ∧ k_ ≠ gb451 ∧ k_ ≠ gb452) k_ from fun k_ hk => ⟨(Nat.le_trans (below_size (by repeat (first | (with_reducible first | exact HB.out | apply X5 | apply X4 | apply X3 | refine X10 ?_ GE437.out | refine X10 ?_ GE438.out | refine X10 ?_ GE451.out | refine X10 ?_ GE452.out) | exact HB.out))) hk), Kd.freshB (g := gb437) (o := .cells #[.int .i64 a0_0, .int .i64 a0_1, .slice (some ad439) l0_2.length c0_2] 29 (0, 0)) (by (with_reducible repeat (first | refine X7 ?_ _ | refine X8 ?_ | refine X6 ?_ _)); exact BK437.out) k_ hk, Kd.freshB (g := gb438) (o := .cells #[.int .i64 0, .int .i64 0, .slice none 0 0] 29 (0, 0)) (by (with_reducible repeat (first | refine X7 ?_ _ | refine X8 ?_ | refine X6 ?_ _)); exact BK438.out) k_ hk, Kd.freshB (g := gb451) (o := .cells #[.int .i64 t440, .int .i64 t441, .slice Ao25 t442.length co25] 29 (0, 0)) (by (with_reducible repeat (first | refine X7 ?_ _ | refine X8 ?_ | refine X6 ?_ _)); exact BK451.out) k_ hk, Kd.freshB (g := gb452) (o := .cells #[.int .i64 t446, .int .i64 t447, .slice Ao29 t448.length co29] 29 (0, 0)) (by (with_reducible repeat (first | refine X7 ?_ _ | refine X8 ?_ | refine X6 ?_ _)); exact BK452.out) k_ hk⟩) _ (Nat.le_refl _)) (Below.refl _ _) (Nat.le_refl _) (by simp) ?_; (case hd => rfl); (case hg => rfl); (case hr => first | (go_simp; done) | (go_simp; rfl)); (case hp => exact (Reps.c3 (show Kd.FK k29 _ _ (⟨t440, t441, t442⟩ : S29) [.int .i64 t440, .int .i64 t441, .slice Ao25 t442.length co25] from (k29_mkF _ _ (⟨t440, t441, t442⟩ : S29) (Kd.N_reads' (Kd.N_mono (ok' := (fun k_ => (w.heap.size ≤ k_) ∧ k_ ≠ gb437 ∧ k_ ≠ gb438 ∧ k_ ≠ gb451 ∧ k_ ≠ gb452)) (HO_452002.out) (fun k_ hk => ⟨hk.1, ⟨hk.2.2.1, ⟨hk.2.2.2.1, ⟨hk.2.2.2.2.1, hk.2.2.2.2.2⟩⟩⟩⟩))).2.1 (Kd.N_F (Kd.N_mono (ok' := (fun k_ => (w.heap.size ≤ k_) ∧ k_ ≠ gb437 ∧ k_ ≠ gb438 ∧ k_ ≠ gb451 ∧ k_ ≠ gb452)) (HO_452002.out) (fun k_ hk => ⟨hk.1, ⟨hk.2.2.1, ⟨hk.2.2.2.1, ⟨hk.2.2.2.2.1, hk.2.2.2.2.2⟩⟩⟩⟩))))) (Reps.c3 (show Kd.FK k29 _ _ (⟨t446, t447, t448⟩ : S29) [.int .i64 t446, .int .i64 t447, .slice Ao29 t448.length co29] from (k29_mkF _ _ (⟨t446, t447, t448⟩ : S29) (Kd.N_reads' (Kd.N_mono (ok' := (fun k_ => (w.heap.size ≤ k_) ∧ k_ ≠ gb437 ∧ k_ ≠ gb438 ∧ k_ ≠ gb451 ∧ k_ ≠ gb452)) (HO_453002.out) (fun k_ hk => ⟨hk.1, ⟨hk.2.2.1, ⟨hk.2.2.2.1, ⟨hk.2.2.2.2.1, hk.2.2.2.2.2⟩⟩⟩⟩))).2.1 (Kd.N_F (Kd.N_mono (ok' := (fun k_ => (w.heap.size ≤ k_) ∧ k_ ≠ gb437 ∧ k_ ≠ gb438 ∧ k_ ≠ gb451 ∧ k_ ≠ gb452)) (HO_453002.out) (fun k_ hk => ⟨hk.1, ⟨hk.2.2.1, ⟨hk.2.2.2.1, ⟨hk.2.2.2.2.1, hk.2.2.2.2.2⟩⟩⟩⟩))))) (Reps.none _ _)))); intro v461 w92 ho93 hb hg_ hnew_; clear hg_ hnew_; (first | rw [← Ny460.out] at ho93 | (simp only [Int.reduceToNat] at ho93; rw [← Ny460.out] at ho93)); have n0_ := X1 (Kd.N_lower ho93 (below_size (by repeat (first | (with_reducible first | exact HB.out | apply X5 | apply X4 | apply X3 | refine X10 ?_ GE437.out | refine X10 ?_ GE438.out | refine X10 ?_ GE451.out | refine X10 ?_ GE452.out) | exact HB.out)))); have n1_ := X1 (blk_below (g := gb437) (o := .cells #[.int .i64 a0_0, .int .i64 a0_1, .slice (some ad439) l0_2.length c0_2] 29 (0, 0)) (by (with_reducible repeat (first | refine X7 ?_ _ | refine X8 ?_ | refine X6 ?_ _)); exact BK437.out) hb); have n2_ := X1 (blk_below (g := gb438) (o := .cells #[.int .i64 0, .int .i64 0, .slice none 0 0] 29 (0, 0)) (by (with_reducible repeat (first | refine X7 ?_ _ | refine X8 ?_ | refine X6 ?_ _)); exact BK438.out) hb); have n3_ := X1 (blk_below (g := gb451) (o := .cells #[.int .i64 t440, .int .i64 t441, .slice Ao25 t442.length co25] 29 (0, 0)) (by (with_reducible repeat (first | refine X7 ?_ _ | refine X8 ?_ | refine X6 ?_ _)); exact BK451.out) hb); have n4_ := X1 (blk_below (g := gb452) (o := .cells #[.int .i64 t446, .int .i64 t447, .slice Ao29 t448.length co29] 29 (0, 0)) (by (with_reducible repeat (first | refine X7 ?_ _ | refine X8 ?_ | refine X6 ?_ _)); exact BK452.out) hb); have n5_ := X1 (below_step (by repeat (first | (with_reducible first | exact HB.out | apply X5 | apply X4 | apply X3 | refine X10 ?_ GE437.out | refine X10 ?_ GE438.out | refine X10 ?_ GE451.out | refine X10 ?_ GE452.out) | exact HB.out)) hb); clear BK437; clear BK438; clear BK451; clear BK452; clear HB; clear HO_452002; clear HO_453002; have HO462 := n0_; have BK437 := n1_; have BK438 := n2_; have BK451 := n3_; have BK452 := n4_; have HB := n5_; clear n0_ n1_ n2_ n3_ n4_ n5_; clear hb ho93; obtain ⟨Ao94, co94, eo94⟩ := Kd.N_slice HO462.out; subst eo94; have hcz95_0 : w92.cell? ⟨gb438, 0, none⟩ = some (.int .i64 0) := (X11 BK438.out 0).trans rfl; have hcz95_1 : w92.cell? ⟨gb438, 1, none⟩ = some (.int .i64 0) := (X11 BK438.out 1).trans rfl; have hcz95_2 : w92.cell? ⟨gb438, 2, none⟩ = some (.slice none 0 0) := (X11 BK438.out 2).trans rfl; have hfz95_0 := X12 BK438.out 0; have hfz95_1 := X12 BK438.out 1; have hfz95_2 := X12 BK438.out 2))
       refine bodyPost_ret (results_cell_row rfl _ _ gb438 29 #[.int .i64 a0_0, .int .i64 0, .slice Ao94 y460.length co94] (0, 0) _ rfl (by (with_reducible repeat (first | refine X7 ?_ _ | refine X8 ?_ | refine X6 ?_ _)); refine blk_put (cs := #[.int .i64 a0_0, .int .i64 0, .slice none 0 0]) ?_ 2 _ rfl; (with_reducible repeat (first | refine X7 ?_ _ | refine X8 ?_ | refine X6 ?_ _)); refine blk_put (cs := #[.int .i64 a0_0, .int .i64 0, .slice none 0 0]) ?_ 1 _ rfl; (with_reducible repeat (first | refine X7 ?_ _ | refine X8 ?_ | refine X6 ?_ _)); refine blk_put (cs := #[.int .i64 0, .int .i64 0, .slice none 0 0]) ?_ 0 _ rfl; (with_reducible repeat (first | refine X7 ?_ _ | refine X8 ?_ | refine X6 ?_ _)); exact BK438.out) Try.underlying29 rfl (by kernel_rfl)) rfl ?_
       exact ⟨_, by first | rfl | (simp [errW_none, errW_some] <;> rfl) | (simp [*, errW_none, errW_some] <;> rfl), by (with_reducible repeat (first | apply Kd.N_alloc | apply Kd.N_drewN | apply Kd.N_drew)); exact Kd.N_mono (Kd.N_far (p := ⟨gb438, 2, none⟩) (Kd.N_far (p := ⟨gb438, 1, none⟩) (Kd.N_far (p := ⟨gb438, 0, none⟩) (Kd.N_mono HO462.out (fun k_ hk => (⟨hk, hk.2.2.1⟩ : _ ∧ k_ ≠ gb438))) (fun _ hk => hk.2) (.int .i64 a0_0)) (fun _ hk => hk.2) (.int .i64 0)) (fun _ hk => hk.2) (.slice Ao94 y460.length co94)) (fun _ hk => hk.1.1), by repeat (first | (with_reducible first | exact HB.out | apply X5 | apply X4 | apply X3 | refine X10 ?_ GE437.out | refine X10 ?_ GE438.out | refine X10 ?_ GE451.out | refine X10 ?_ GE452.out) | exact HB.out)⟩
   ·rw [if_neg c10] at H
    exact absurd H (by simp)
  ·rw [if_neg c8] at H
   exact absurd H (by simp)

end Go.Proofs.Ytjohbglkocgdjaa.Q
