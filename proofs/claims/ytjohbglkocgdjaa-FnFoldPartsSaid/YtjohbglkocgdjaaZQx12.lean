/- Written for this claim by the kit's print program, over contracts that are this seat's own (): not the print's own text. -/
import Derived.Test.YtjohbglkocgdjaaZQx0
import Derived.Test.YtjohbglkocgdjaaZQx1
import Derived.Test.YtjohbglkocgdjaaZQx8
namespace Go.Proofs.Ytjohbglkocgdjaa.Q
open Go.RowKit Go.Proofs.YtjohbglkocgdjaaW.PrintWords Go.Proofs.YtjohbglkocgdjaaW.PrintLast Go.Proofs.YtjohbglkocgdjaaW.PrintMore
attribute [local go_sem] max2_int min2_int max_two min_two max_three min_three max_four min_four   -- for this text's walks alone
set_option linter.unusedVariables false
set_option linter.unusedSimpArgs false

/-! ### laws_sameExpr: function 29 -/
mutual
def laws_sameExpr.j0 : Nat → Bool → Int → Int → List (S29) → Int → Int → List (S29) → Option (Bool)
 | 0, _, _, _, _, _, _, _ => none
 | k + 1, x26, x534000, x534001, x534002, x535000, x535001, x535002 => if x26 = true then (some false) else (laws_sameExpr.l0 k 0 x534000 x534001 x534002 x535000 x535001 x535002)
def laws_sameExpr.l0 : Nat → Int → Int → Int → List (S29) → Int → Int → List (S29) → Option (Bool)
 | 0, _, _, _, _, _, _, _ => none
 | k + 1, x5, x534000, x534001, x534002, x535000, x535001, x535002 => if x5 < (x534002.length : Int) then (if 0 ≤ x5 then (if x5 < (x535002.length : Int) then ((laws_sameExpr.f k ((rd_T29 x534002 x5).f0) ((rd_T29 x534002 x5).f1) ((rd_T29 x534002 x5).f2) ((rd_T29 x535002 x5).f0) ((rd_T29 x535002 x5).f1) ((rd_T29 x535002 x5).f2)).bind fun t537 => (if t537 = true then (laws_sameExpr.l0 k (wrap64 (x5 + 1)) x534000 x534001 x534002 x535000 x535001 x535002) else (some false))) else (none)) else (none)) else (some true)
def laws_sameExpr.f : Nat → Int → Int → List (S29) → Int → Int → List (S29) → Option (Bool)
 | 0, _, _, _, _, _, _ => none
 | k + 1, a0_0, a0_1, l0_2, a1_0, a1_1, l1_2 => if a0_0 = a1_0 then (if a0_1 = a1_1 then (laws_sameExpr.j0 k ((l0_2.length : Int) != (l1_2.length : Int)) a0_0 a0_1 l0_2 a1_0 a1_1 l1_2) else (laws_sameExpr.j0 k true a0_0 a0_1 l0_2 a1_0 a1_1 l1_2)) else (laws_sameExpr.j0 k true a0_0 a0_1 l0_2 a1_0 a1_1 l1_2)
end
def laws_sameExpr.T6 : Bool × List (List Nat × List Nat) := (true, [([], []), ([0], [0]), ([], []), ([1, 2], [1, 2]), ([3], [3]), ([], []), ([5], [5]), ([], []), ([6, 7], [6, 7]), ([8], [8]), ([4, 9], [4, 9]), ([10], [10])])
def laws_sameExpr.B6 : List Nat := [0, 1, 0, 7, 15, 0, 32, 0, 224, 480, 1023, 2047]
theorem laws_sameExpr.tab6 : rtab .any (opsOf Try.f29 6) = laws_sameExpr.T6 := by kernel_rfl
theorem laws_sameExpr.bits6 : waitsOk laws_sameExpr.T6.2 laws_sameExpr.B6 = true := by kernel_rfl
set_option maxHeartbeats 8000000 in
set_option maxRecDepth 100000 in
theorem laws_sameExpr.calls (k : Nat) : ∀ (a0_0 : Int) (a0_1 : Int) (A0_2 : Option Addr) (c0_2 : Nat) (l0_2 : List (S29)) (a1_0 : Int) (a1_1 : Int) (A1_2 : Option Addr) (c1_2 : Nat) (l1_2 : List (S29)) (r : Bool) (w : World) (hr0_2 : Kd.C k29 w A0_2 l0_2.length l0_2) (hc0_2 : l0_2.length ≤ c0_2) (hr1_2 : Kd.C k29 w A1_2 l1_2.length l1_2) (hc1_2 : l1_2.length ≤ c1_2) (h : laws_sameExpr.f k a0_0 a0_1 l0_2 a1_0 a1_1 l1_2 = some r),
  Calls Try.prog 29 #[.agg #[.int .i64 a0_0, .int .i64 a0_1, .slice A0_2 l0_2.length c0_2], .agg #[.int .i64 a1_0, .int .i64 a1_1, .slice A1_2 l1_2.length c1_2]] w fun e w' => e = .returned (.bool r) ∧ Below w.heap.size w w' := by
 induction k using Nat.strongRecOn with
 | _ k ih =>
 intro a0_0 a0_1 A0_2 c0_2 l0_2 a1_0 a1_1 A1_2 c1_2 l1_2 r w hr0_2 hc0_2 hr1_2 hc1_2 h
 cases k with
 | zero => exact absurd h (by simp [laws_sameExpr.f])
 | succ k =>
 simp only [laws_sameExpr.f] at h
 have hu29 := Try.underlying29
 have HR0_2 := X1 hr0_2
 have HC0_2 := X1 hc0_2
 clear hr0_2 hc0_2
 have HR1_2 := X1 hr1_2
 have HC1_2 := X1 hc1_2
 clear hr1_2 hc1_2
 have HB := X1 (Below.refl w.heap.size w)
 have H : (if a0_0 = a1_0 then (if a0_1 = a1_1 then (laws_sameExpr.j0 k ((l0_2.length : Int) != (l1_2.length : Int)) a0_0 a0_1 l0_2 a1_0 a1_1 l1_2) else (laws_sameExpr.j0 k true a0_0 a0_1 l0_2 a1_0 a1_1 l1_2)) else (laws_sameExpr.j0 k true a0_0 a0_1 l0_2 a1_0 a1_1 l1_2)) = some r := h
 clear h
 have HC3 := X1 H
 clear H
 go_enter Try.func29, Try.ntmps29
 go_upto_region 1 with (first | ((with_reducible refine gate_dst (N := 2) rfl ?_); (try (refine gate_guard (by rfl) ?_; dsimp only)); refine box_event ?hg (N := 2) ?hd (cs := #[.int .i64 a0_0, .int .i64 a0_1, .slice A0_2 l0_2.length c0_2]) (t := 29) ?hr ?_; (case hd => rfl); (case hg => rfl); (case hr => first | (go_simp; done) | (go_simp; rfl)); intro gb533 hg w4 hbox hb; have n0_ := X1 (below_step (by repeat (first | (with_reducible first | exact HB.out | apply X5 | apply X4 | apply X3) | exact HB.out)) hb); have n1_ := X1 (hbox); have n2_ := X1 ((by rw [hg]; exact (below_size (by repeat (first | (with_reducible first | exact HB.out | apply X5 | apply X4 | apply X3) | exact HB.out))) : w.heap.size ≤ gb533)); have n3_ := X1 ((by rw [hg]; exact (below_size (by repeat (first | (with_reducible first | exact HB.out | apply X5 | apply X4 | apply X3) | exact HB.out))) : w.heap.size ≤ gb533)); clear HB; have HB := n0_; have BK533 := n1_; have GW533 := n2_; have GE533 := n3_; clear n0_ n1_ n2_ n3_; clear hb hbox hg) | ((with_reducible refine gate_dst (N := 3) rfl ?_); (try (refine gate_guard (by rfl) ?_; dsimp only)); refine box_event ?hg (N := 3) ?hd (cs := #[.int .i64 a1_0, .int .i64 a1_1, .slice A1_2 l1_2.length c1_2]) (t := 29) ?hr ?_; (case hd => rfl); (case hg => rfl); (case hr => first | (go_simp; done) | (go_simp; rfl)); intro gb534 hg w5 hbox hb; have n0_ := X1 (blk_below (g := gb533) (o := .cells #[.int .i64 a0_0, .int .i64 a0_1, .slice A0_2 l0_2.length c0_2] 29 (0, 0)) (by (with_reducible repeat (first | refine X7 ?_ _ | refine X8 ?_ | refine X6 ?_ _)); exact BK533.out) hb); have n1_ := X1 (below_step (by repeat (first | (with_reducible first | exact HB.out | apply X5 | apply X4 | apply X3 | refine X10 ?_ GE533.out) | exact HB.out)) hb); have n2_ := X1 (hbox); have n3_ := X1 ((by rw [hg]; exact (below_size (by repeat (first | (with_reducible first | exact HB.out | apply X5 | apply X4 | apply X3 | refine X10 ?_ GE533.out) | exact HB.out))) : w.heap.size ≤ gb534)); have n4_ := X1 ((by rw [hg]; exact (below_size (by repeat (first | (with_reducible first | exact HB.out | apply X5 | apply X4 | apply X3 | refine X10 ?_ GE533.out) | exact HB.out))) : w.heap.size ≤ gb534)); have n5_ := X1 ((by rw [hg]; exact Nat.ne_of_lt (blk_lt (g := gb533) (o := .cells #[.int .i64 a0_0, .int .i64 a0_1, .slice A0_2 l0_2.length c0_2] 29 (0, 0)) (by (with_reducible repeat (first | refine X7 ?_ _ | refine X8 ?_ | refine X6 ?_ _)); exact BK533.out)) : gb533 ≠ gb534)); have n6_ := X1 ((by rw [hg]; exact Nat.ne_of_gt (blk_lt (g := gb533) (o := .cells #[.int .i64 a0_0, .int .i64 a0_1, .slice A0_2 l0_2.length c0_2] 29 (0, 0)) (by (with_reducible repeat (first | refine X7 ?_ _ | refine X8 ?_ | refine X6 ?_ _)); exact BK533.out)) : gb534 ≠ gb533)); clear BK533; clear HB; have BK533 := n0_; have HB := n1_; have BK534 := n2_; have GW534 := n3_; have GE534 := n4_; have NB533_534 := n5_; have NB534_533 := n6_; clear n0_ n1_ n2_ n3_ n4_ n5_ n6_; clear hb hbox hg))
 (try simp only [Act.put, List.setIfInBounds_toArray, List.set_cons_zero, List.set_cons_succ])
 go_cut [26] (fun v26 wc => ∃ (kq : Nat) (x26_2 : Bool), v26 = .bool x26_2 ∧ Aside0 (laws_sameExpr.j0 kq x26_2 a0_0 a0_1 l0_2 a1_0 a1_1 l1_2 = some r) ∧ Aside0 (kq ≤ k) ∧ Aside0 (wc.heap[gb533]? = some (.cells #[.int .i64 a0_0, .int .i64 a0_1, (.slice A0_2 l0_2.length c0_2)] 29 (0, 0))) ∧ Aside0 (wc.heap[gb534]? = some (.cells #[.int .i64 a1_0, .int .i64 a1_1, (.slice A1_2 l1_2.length c1_2)] 29 (0, 0))) ∧ Aside0 (Below w.heap.size w wc))
 case first =>
  have H := HC3.out
  clear HC3
  by_cases c6 : a0_0 = a1_0
  ·rw [if_pos c6] at H
   have c6b0 : (a0_0 == a1_0) = true := beq_iff_eq.mpr c6
   have c6b1 : (a0_0 != a1_0) = false := bne_eq_false_iff_eq.mpr c6
   clear c6
   (first | rw [c6b0] | (simp only [i64_w, i32_w]; rw [c6b0]) | skip)
   by_cases c7 : a0_1 = a1_1
   ·rw [if_pos c7] at H
    have c7b0 : (a0_1 == a1_1) = true := beq_iff_eq.mpr c7
    have c7b1 : (a0_1 != a1_1) = false := bne_eq_false_iff_eq.mpr c7
    clear c7
    have H' := X1 H
    clear H
    have hnb8 := NB533_534.out
    have hnc8 := NB534_533.out
    have hcz9_0 : w5.cell? ⟨gb533, 0, none⟩ = some (.int .i64 a0_0) := (X11 BK533.out 0).trans rfl
    have hcz9_1 : w5.cell? ⟨gb533, 1, none⟩ = some (.int .i64 a0_1) := (X11 BK533.out 1).trans rfl
    have hcz9_2 : w5.cell? ⟨gb533, 2, none⟩ = some (.slice A0_2 l0_2.length c0_2) := (X11 BK533.out 2).trans rfl
    have hfz9_0 := X12 BK533.out 0
    have hfz9_1 := X12 BK533.out 1
    have hfz9_2 := X12 BK533.out 2
    have hcz10_0 : w5.cell? ⟨gb534, 0, none⟩ = some (.int .i64 a1_0) := (X11 BK534.out 0).trans rfl
    have hcz10_1 : w5.cell? ⟨gb534, 1, none⟩ = some (.int .i64 a1_1) := (X11 BK534.out 1).trans rfl
    have hcz10_2 : w5.cell? ⟨gb534, 2, none⟩ = some (.slice A1_2 l1_2.length c1_2) := (X11 BK534.out 2).trans rfl
    have hfz10_0 := X12 BK534.out 0
    have hfz10_1 := X12 BK534.out 1
    have hfz10_2 := X12 BK534.out 2
    go_wp2
    go_meet
    case rel => exact ⟨_, (((l0_2.length : Int) != (l1_2.length : Int))), (by first | rfl | (simp; done) | (simp [*]; done)), H', ⟨by first | omega | exact Nat.le_refl _⟩, ⟨by (with_reducible repeat (first | refine X7 ?_ _ | refine X8 ?_ | refine X6 ?_ _)); exact BK533.out⟩, ⟨by (with_reducible repeat (first | refine X7 ?_ _ | refine X8 ?_ | refine X6 ?_ _)); exact BK534.out⟩, ⟨by repeat (first | (with_reducible first | exact HB.out | apply X5 | apply X4 | apply X3 | refine X10 ?_ GE533.out | refine X10 ?_ GE534.out) | exact HB.out)⟩⟩
   ·rw [if_neg c7] at H
    have c7b0 : (a0_1 == a1_1) = false := beq_eq_false_iff_ne.mpr c7
    have c7b1 : (a0_1 != a1_1) = true := bne_iff_ne.mpr c7
    have H' := X1 H
    clear H
    have hnb11 := NB533_534.out
    have hnc11 := NB534_533.out
    have hcz12_0 : w5.cell? ⟨gb533, 0, none⟩ = some (.int .i64 a0_0) := (X11 BK533.out 0).trans rfl
    have hcz12_1 : w5.cell? ⟨gb533, 1, none⟩ = some (.int .i64 a0_1) := (X11 BK533.out 1).trans rfl
    have hcz12_2 : w5.cell? ⟨gb533, 2, none⟩ = some (.slice A0_2 l0_2.length c0_2) := (X11 BK533.out 2).trans rfl
    have hfz12_0 := X12 BK533.out 0
    have hfz12_1 := X12 BK533.out 1
    have hfz12_2 := X12 BK533.out 2
    have hcz13_0 : w5.cell? ⟨gb534, 0, none⟩ = some (.int .i64 a1_0) := (X11 BK534.out 0).trans rfl
    have hcz13_1 : w5.cell? ⟨gb534, 1, none⟩ = some (.int .i64 a1_1) := (X11 BK534.out 1).trans rfl
    have hcz13_2 : w5.cell? ⟨gb534, 2, none⟩ = some (.slice A1_2 l1_2.length c1_2) := (X11 BK534.out 2).trans rfl
    have hfz13_0 := X12 BK534.out 0
    have hfz13_1 := X12 BK534.out 1
    have hfz13_2 := X12 BK534.out 2
    go_wp2
    go_meet
    case rel => exact ⟨_, (true), (by first | rfl | (simp; done) | (simp [*]; done)), H', ⟨by first | omega | exact Nat.le_refl _⟩, ⟨by (with_reducible repeat (first | refine X7 ?_ _ | refine X8 ?_ | refine X6 ?_ _)); exact BK533.out⟩, ⟨by (with_reducible repeat (first | refine X7 ?_ _ | refine X8 ?_ | refine X6 ?_ _)); exact BK534.out⟩, ⟨by repeat (first | (with_reducible first | exact HB.out | apply X5 | apply X4 | apply X3 | refine X10 ?_ GE533.out | refine X10 ?_ GE534.out) | exact HB.out)⟩⟩
  ·rw [if_neg c6] at H
   have c6b0 : (a0_0 == a1_0) = false := beq_eq_false_iff_ne.mpr c6
   have c6b1 : (a0_0 != a1_0) = true := bne_iff_ne.mpr c6
   (first | rw [c6b0] | (simp only [i64_w, i32_w]; rw [c6b0]) | skip)
   have H' := X1 H
   clear H
   have hnb14 := NB533_534.out
   have hnc14 := NB534_533.out
   have hcz15_0 : w5.cell? ⟨gb533, 0, none⟩ = some (.int .i64 a0_0) := (X11 BK533.out 0).trans rfl
   have hcz15_1 : w5.cell? ⟨gb533, 1, none⟩ = some (.int .i64 a0_1) := (X11 BK533.out 1).trans rfl
   have hcz15_2 : w5.cell? ⟨gb533, 2, none⟩ = some (.slice A0_2 l0_2.length c0_2) := (X11 BK533.out 2).trans rfl
   have hfz15_0 := X12 BK533.out 0
   have hfz15_1 := X12 BK533.out 1
   have hfz15_2 := X12 BK533.out 2
   have hcz16_0 : w5.cell? ⟨gb534, 0, none⟩ = some (.int .i64 a1_0) := (X11 BK534.out 0).trans rfl
   have hcz16_1 : w5.cell? ⟨gb534, 1, none⟩ = some (.int .i64 a1_1) := (X11 BK534.out 1).trans rfl
   have hcz16_2 : w5.cell? ⟨gb534, 2, none⟩ = some (.slice A1_2 l1_2.length c1_2) := (X11 BK534.out 2).trans rfl
   have hfz16_0 := X12 BK534.out 0
   have hfz16_1 := X12 BK534.out 1
   have hfz16_2 := X12 BK534.out 2
   go_wp2
   go_meet
   case rel => exact ⟨_, (true), (by first | rfl | (simp; done) | (simp [*]; done)), H', ⟨by first | omega | exact Nat.le_refl _⟩, ⟨by (with_reducible repeat (first | refine X7 ?_ _ | refine X8 ?_ | refine X6 ?_ _)); exact BK533.out⟩, ⟨by (with_reducible repeat (first | refine X7 ?_ _ | refine X8 ?_ | refine X6 ?_ _)); exact BK534.out⟩, ⟨by repeat (first | (with_reducible first | exact HB.out | apply X5 | apply X4 | apply X3 | refine X10 ?_ GE533.out | refine X10 ?_ GE534.out) | exact HB.out)⟩⟩
 case rest =>
  clear HC3
  try clear c1
  try clear c2
  try clear p2
  try clear c6
  try clear c6b0
  try clear c6b1
  try clear c7
  try clear c7b0
  try clear c7b1
  try clear c8
  try clear c11
  try clear c14
  try clear hcz10_0
  try clear hcz10_1
  try clear hcz10_2
  try clear hcz12_0
  try clear hcz12_1
  try clear hcz12_2
  try clear hcz13_0
  try clear hcz13_1
  try clear hcz13_2
  try clear hcz15_0
  try clear hcz15_1
  try clear hcz15_2
  try clear hcz16_0
  try clear hcz16_1
  try clear hcz16_2
  try clear hcz9_0
  try clear hcz9_1
  try clear hcz9_2
  try clear hfz10_0
  try clear hfz10_1
  try clear hfz10_2
  try clear hfz12_0
  try clear hfz12_1
  try clear hfz12_2
  try clear hfz13_0
  try clear hfz13_1
  try clear hfz13_2
  try clear hfz15_0
  try clear hfz15_1
  try clear hfz15_2
  try clear hfz16_0
  try clear hfz16_1
  try clear hfz16_2
  try clear hfz9_0
  try clear hfz9_1
  try clear hfz9_2
  obtain ⟨kq, x26_2, rfl, HA, HJ2, BK533, BK534, HB⟩ := hcut
  cases kq with
  | zero => exact absurd HA.out (by simp [laws_sameExpr.j0])
  | succ kj2 =>
   have H := HA.out
   clear HA
   simp only [laws_sameExpr.j0] at H
   by_cases c17 : x26_2 = true
   ·subst c17
    have H1 : (some false) = some r := by rw [if_pos rfl] at H; exact H
    clear H
    have H := H1
    clear H1
    obtain rfl := Option.some.inj H
    go_wp2
    go_ret
    exact ⟨by first | rfl | (simp [errW_none, errW_some] <;> rfl) | (simp [*, errW_none, errW_some] <;> rfl), by repeat (first | (with_reducible first | exact HB.out | apply X5 | apply X4 | apply X3 | refine X10 ?_ GE533.out | refine X10 ?_ GE534.out) | exact HB.out)⟩
   ·replace c17 := Bool.eq_false_iff.mpr c17
    subst c17
    have H1 : (laws_sameExpr.l0 kj2 0 a0_0 a0_1 l0_2 a1_0 a1_1 l1_2) = some r := by rw [if_neg (show ¬ (false = true) by decide)] at H; exact H
    clear H
    have H := H1
    clear H1
    have H' := X1 H
    clear H
    go_wp2
    go_loopg [5] kj2 (fun kq v5 w' => ∃ (x5_2 : Int), v5 = .int .i64 x5_2 ∧ Aside0 (laws_sameExpr.l0 kq x5_2 a0_0 a0_1 l0_2 a1_0 a1_1 l1_2 = some r) ∧ Aside0 (kq ≤ kj2) ∧ Aside0 (w'.heap[gb533]? = some (.cells #[.int .i64 a0_0, .int .i64 a0_1, (.slice A0_2 l0_2.length c0_2)] 29 (0, 0))) ∧ Aside0 (w'.heap[gb534]? = some (.cells #[.int .i64 a1_0, .int .i64 a1_1, (.slice A1_2 l1_2.length c1_2)] 29 (0, 0))) ∧ Aside0 (Below w.heap.size w w'))
    case atStart => exact ⟨(0), (by first | rfl | (simp; done) | (simp [*]; done)), H', ⟨Nat.le_refl _⟩, ⟨by (with_reducible repeat (first | refine X7 ?_ _ | refine X8 ?_ | refine X6 ?_ _)); exact BK533.out⟩, ⟨by (with_reducible repeat (first | refine X7 ?_ _ | refine X8 ?_ | refine X6 ?_ _)); exact BK534.out⟩, ⟨by repeat (first | (with_reducible first | exact HB.out | apply X5 | apply X4 | apply X3 | refine X10 ?_ GE533.out | refine X10 ?_ GE534.out) | exact HB.out)⟩⟩
    case round =>
     clear H'
     try clear c1
     try clear c2
     try clear p2
     try clear c6
     try clear c6b0
     try clear c6b1
     try clear c7
     try clear c7b0
     try clear c7b1
     try clear c8
     try clear c11
     try clear c14
     try clear c17
     try clear hcz10_0
     try clear hcz10_1
     try clear hcz10_2
     try clear hcz12_0
     try clear hcz12_1
     try clear hcz12_2
     try clear hcz13_0
     try clear hcz13_1
     try clear hcz13_2
     try clear hcz15_0
     try clear hcz15_1
     try clear hcz15_2
     try clear hcz16_0
     try clear hcz16_1
     try clear hcz16_2
     try clear hcz9_0
     try clear hcz9_1
     try clear hcz9_2
     try clear hfz10_0
     try clear hfz10_1
     try clear hfz10_2
     try clear hfz12_0
     try clear hfz12_1
     try clear hfz12_2
     try clear hfz13_0
     try clear hfz13_1
     try clear hfz13_2
     try clear hfz15_0
     try clear hfz15_1
     try clear hfz15_2
     try clear hfz16_0
     try clear hfz16_1
     try clear hfz16_2
     try clear hfz9_0
     try clear hfz9_1
     try clear hfz9_2
     try clear p2
     obtain ⟨x5_2, rfl, HA, HK2, BK533, BK534, HB⟩ := hrel
     cases gk with
     | zero => exact absurd HA.out (by simp [laws_sameExpr.l0])
     | succ k2 =>
      have H := HA.out
      clear HA
      simp only [laws_sameExpr.l0] at H
      by_cases c18 : x5_2 < (l0_2.length : Int)
      ·rw [if_pos c18] at H
       have c18b0 : decide (x5_2 < (l0_2.length : Int)) = true := decide_eq_true c18
       clear c18
       by_cases c19 : 0 ≤ x5_2
       ·rw [if_pos c19] at H
        have c19b0 : decide (0 ≤ x5_2) = true := decide_eq_true c19
        clear c19
        by_cases c20 : x5_2 < (l1_2.length : Int)
        ·rw [if_pos c20] at H
         have c20b0 : decide (x5_2 < (l1_2.length : Int)) = true := decide_eq_true c20
         clear c20
         replace H := X2 H
         obtain ⟨t537, A210, H⟩ := H
         replace H : (if t537 = true then (laws_sameExpr.l0 k2 (wrap64 (x5_2 + 1)) a0_0 a0_1 l0_2 a1_0 a1_1 l1_2) else (some false)) = some r := H
         have A21 := X1 A210
         clear A210
         by_cases c22 : t537 = true
         ·subst c22
          have H1 : (laws_sameExpr.l0 k2 (wrap64 (x5_2 + 1)) a0_0 a0_1 l0_2 a1_0 a1_1 l1_2) = some r := by rw [if_pos rfl] at H; exact H
          clear H
          have H := H1
          clear H1
          have H' := X1 H
          clear H
          have hnb23 := NB533_534.out
          have hnc23 := NB534_533.out
          have hcz24_0 : wr.cell? ⟨gb533, 0, none⟩ = some (.int .i64 a0_0) := (X11 BK533.out 0).trans rfl
          have hcz24_1 : wr.cell? ⟨gb533, 1, none⟩ = some (.int .i64 a0_1) := (X11 BK533.out 1).trans rfl
          have hcz24_2 : wr.cell? ⟨gb533, 2, none⟩ = some (.slice A0_2 l0_2.length c0_2) := (X11 BK533.out 2).trans rfl
          have hfz24_0 := X12 BK533.out 0
          have hfz24_1 := X12 BK533.out 1
          have hfz24_2 := X12 BK533.out 2
          try go_wp2
          have n0_ := X1 (X8 BK533.out)
          have n1_ := X1 (X8 BK534.out)
          have n2_ := X1 (X3 HB.out)
          clear BK533
          clear BK534
          clear HB
          have BK533 := n0_
          have BK534 := n1_
          have HB := n2_
          clear n0_ n1_ n2_
          have p535 : 0 ≤ (x5_2 : Int) := of_decide_eq_true (by first | (with_reducible assumption) | assumption)
          have q535 : x5_2 < (l0_2.length : Int) := of_decide_eq_true (by first | (with_reducible assumption) | assumption)
          obtain ⟨ad535, A535_2, c535_2, e535, hx535_0, hx535_1, hx535_2, hl535_2, hi535_2⟩ := at_T29 HR0_2.out x5_2 p535 q535
          have hw535_2 := hx535_2
          have hw535_1 := hx535_1
          have hw535_0 := hx535_0
          cases e535
          replace hx535_0 := (HB.out.cell (X9 w _ hx535_0)).trans hx535_0
          replace hx535_1 := (HB.out.cell (X9 w _ hx535_1)).trans hx535_1
          replace hx535_2 := (HB.out.cell (X9 w _ hx535_2)).trans hx535_2
          have HR535_2 := X1 hi535_2
          have HC535_2 := X1 hl535_2
          clear hi535_2 hl535_2
          replace p535 := eq_true p535
          replace q535 := eq_true q535
          have p536 : 0 ≤ (x5_2 : Int) := of_decide_eq_true (by first | (with_reducible assumption) | assumption)
          have q536 : x5_2 < (l1_2.length : Int) := of_decide_eq_true (by first | (with_reducible assumption) | assumption)
          obtain ⟨ad536, A536_2, c536_2, e536, hx536_0, hx536_1, hx536_2, hl536_2, hi536_2⟩ := at_T29 HR1_2.out x5_2 p536 q536
          have hw536_2 := hx536_2
          have hw536_1 := hx536_1
          have hw536_0 := hx536_0
          cases e536
          replace hx536_0 := (HB.out.cell (X9 w _ hx536_0)).trans hx536_0
          replace hx536_1 := (HB.out.cell (X9 w _ hx536_1)).trans hx536_1
          replace hx536_2 := (HB.out.cell (X9 w _ hx536_2)).trans hx536_2
          have HR536_2 := X1 hi536_2
          have HC536_2 := X1 hl536_2
          clear hi536_2 hl536_2
          replace p536 := eq_true p536
          replace q536 := eq_true q536
          refine start_ (n := 12) (S := fun w' => w'.cell? ⟨gb533, 0, none⟩ = some (.int .i64 a0_0) ∧ w'.cell? ⟨gb533, 1, none⟩ = some (.int .i64 a0_1) ∧ w'.cell? ⟨gb533, 2, none⟩ = some (.slice (some ad535) l0_2.length c0_2) ∧ w'.cell? ⟨gb534, 0, none⟩ = some (.int .i64 a1_0) ∧ w'.cell? ⟨gb534, 1, none⟩ = some (.int .i64 a1_1) ∧ w'.cell? ⟨gb534, 2, none⟩ = some (.slice (some ad536) l1_2.length c1_2) ∧ w'.cell? (ad535.add ((x5_2).toNat * 3)) = some (.int .i64 ((rd_T29 l0_2 x5_2).f0)) ∧ w'.cell? ⟨(ad535.add ((x5_2).toNat * 3)).block, (ad535.add ((x5_2).toNat * 3)).off + 1, none⟩ = some (.int .i64 ((rd_T29 l0_2 x5_2).f1)) ∧ w'.cell? ⟨(ad535.add ((x5_2).toNat * 3)).block, (ad535.add ((x5_2).toNat * 3)).off + 2, none⟩ = some (.slice A535_2 ((rd_T29 l0_2 x5_2).f2).length c535_2) ∧ w'.cell? (ad536.add ((x5_2).toNat * 3)) = some (.int .i64 ((rd_T29 l1_2 x5_2).f0)) ∧ w'.cell? ⟨(ad536.add ((x5_2).toNat * 3)).block, (ad536.add ((x5_2).toNat * 3)).off + 1, none⟩ = some (.int .i64 ((rd_T29 l1_2 x5_2).f1)) ∧ w'.cell? ⟨(ad536.add ((x5_2).toNat * 3)).block, (ad536.add ((x5_2).toNat * 3)).off + 2, none⟩ = some (.slice A536_2 ((rd_T29 l1_2 x5_2).f2).length c536_2)) (ds := []) #[false, false, false, false, false, false, false, false, false, false, false, false] (by kernel_rfl) rfl rfl ⟨(X11 BK533.out 0).trans rfl, (X11 BK533.out 1).trans rfl, (X11 BK533.out 2).trans rfl, (X11 BK534.out 0).trans rfl, (X11 BK534.out 1).trans rfl, (X11 BK534.out 2).trans rfl, ((HB.out.cell (X9 w _ hw535_0)).trans hw535_0), ((HB.out.cell (X9 w _ hw535_1)).trans hw535_1), ((HB.out.cell (X9 w _ hw535_2)).trans hw535_2), ((HB.out.cell (X9 w _ hw536_0)).trans hw536_0), ((HB.out.cell (X9 w _ hw536_1)).trans hw536_1), ((HB.out.cell (X9 w _ hw536_2)).trans hw536_2)⟩ (fun hHeld => ?_); refine with_tabW laws_sameExpr.tab6 laws_sameExpr.bits6 (fun HT_ HW_ => ?_)
          generalize wr.drew = w25 at BK533 BK534 HB HR535_2 HR536_2 hx535_0 hx535_1 hx535_2 hx536_0 hx536_1 hx536_2 hHeld ⊢
          refine pure_ (i := 0) (N := some 34) (v := ?_) (a' := ?_) #[true, false, false, false, false, false, false, false, false, false, false, false] rfl rfl (any_of HT_.out (by kernel_rfl)) (fun _ _ _ h => h) (Or.inl ⟨by rfl, ?_⟩) ?_ ?_
          rotate_left
          ·intro w'
           go_simp
           with_reducible rfl
          rotate_left
          ·simp only [Act.put, List.setIfInBounds_toArray, List.set_cons_zero, List.set_cons_succ, i64_w, i32_w]
           rfl
          refine pure_ (i := 2) (N := some 36) (v := ?_) (a' := ?_) #[true, false, true, false, false, false, false, false, false, false, false, false] rfl rfl (any_of HT_.out (by kernel_rfl)) (fun _ _ _ h => h) (Or.inl ⟨by rfl, ?_⟩) ?_ ?_
          rotate_left
          ·intro w'
           go_simp
           with_reducible rfl
          rotate_left
          ·simp only [Act.put, List.setIfInBounds_toArray, List.set_cons_zero, List.set_cons_succ, i64_w, i32_w]
           rfl
          refine pure_ (i := 5) (N := some 39) (v := ?_) (a' := ?_) #[true, false, true, false, false, true, false, false, false, false, false, false] rfl rfl (any_of HT_.out (by kernel_rfl)) (fun _ _ _ h => h) (Or.inl ⟨by rfl, ?_⟩) ?_ ?_
          rotate_left
          ·intro w'
           go_simp
           with_reducible rfl
          rotate_left
          ·simp only [Act.put, List.setIfInBounds_toArray, List.set_cons_zero, List.set_cons_succ, i64_w, i32_w]
           rfl
          refine pure_ (i := 7) (N := some 41) (v := ?_) (a' := ?_) #[true, false, true, false, false, true, false, true, false, false, false, false] rfl rfl (any_of HT_.out (by kernel_rfl)) (fun _ _ _ h => h) (Or.inl ⟨by rfl, ?_⟩) ?_ ?_
          rotate_left
          ·intro w'
           go_simp
           with_reducible rfl
          rotate_left
          ·simp only [Act.put, List.setIfInBounds_toArray, List.set_cons_zero, List.set_cons_succ, i64_w, i32_w]
           rfl
          refine take_ (i := 1) (N := some 35) (v := ?_) (a' := ?_) #[true, true, true, false, false, true, false, true, false, false, false, false] rfl rfl (take_ofW HT_.out HW_.out (by kernel_rfl)) (fun _ _ _ h => h) (Or.inl ⟨by rfl, ?_⟩) hHeld ?_ ?_
          rotate_left
          ·rintro w' ⟨s0, s1, s2, s3, s4, s5, s6, s7, s8, s9, s10, s11⟩
           go_simp
           with_reducible rfl
          rotate_left
          ·simp only [Act.put, List.setIfInBounds_toArray, List.set_cons_zero, List.set_cons_succ, i64_w, i32_w]
           rfl
          refine pure_ (i := 3) (N := some 37) (v := ?_) (a' := ?_) #[true, true, true, true, false, true, false, true, false, false, false, false] rfl rfl (any_of HT_.out (by kernel_rfl)) (fun _ _ _ h => h) (Or.inl ⟨by rfl, ?_⟩) ?_ ?_
          rotate_left
          ·intro w'
           go_simp
           with_reducible rfl
          rotate_left
          ·simp only [Act.put, List.setIfInBounds_toArray, List.set_cons_zero, List.set_cons_succ, i64_w, i32_w]
           rfl
          refine take_ (i := 4) (N := some 38) (v := ?_) (a' := ?_) #[true, true, true, true, true, true, false, true, false, false, false, false] rfl rfl (take_ofW HT_.out HW_.out (by kernel_rfl)) (fun _ _ _ h => h) (Or.inl ⟨by rfl, ?_⟩) hHeld ?_ ?_
          rotate_left
          ·rintro w' ⟨s0, s1, s2, s3, s4, s5, s6, s7, s8, s9, s10, s11⟩
           go_simp
           with_reducible rfl
          rotate_left
          ·simp only [Act.put, List.setIfInBounds_toArray, List.set_cons_zero, List.set_cons_succ, i64_w, i32_w]
           rfl
          refine take_ (i := 6) (N := some 40) (v := ?_) (a' := ?_) #[true, true, true, true, true, true, true, true, false, false, false, false] rfl rfl (take_ofW HT_.out HW_.out (by kernel_rfl)) (fun _ _ _ h => h) (Or.inl ⟨by rfl, ?_⟩) hHeld ?_ ?_
          rotate_left
          ·rintro w' ⟨s0, s1, s2, s3, s4, s5, s6, s7, s8, s9, s10, s11⟩
           go_simp
           with_reducible rfl
          rotate_left
          ·simp only [Act.put, List.setIfInBounds_toArray, List.set_cons_zero, List.set_cons_succ, i64_w, i32_w]
           rfl
          refine pure_ (i := 8) (N := some 42) (v := ?_) (a' := ?_) #[true, true, true, true, true, true, true, true, true, false, false, false] rfl rfl (any_of HT_.out (by kernel_rfl)) (fun _ _ _ h => h) (Or.inl ⟨by rfl, ?_⟩) ?_ ?_
          rotate_left
          ·intro w'
           go_simp
           with_reducible rfl
          rotate_left
          ·simp only [Act.put, List.setIfInBounds_toArray, List.set_cons_zero, List.set_cons_succ, i64_w, i32_w]
           rfl
          refine take_ (i := 9) (N := some 43) (v := ?_) (a' := ?_) #[true, true, true, true, true, true, true, true, true, true, false, false] rfl rfl (take_ofW HT_.out HW_.out (by kernel_rfl)) (fun _ _ _ h => h) (Or.inl ⟨by rfl, ?_⟩) hHeld ?_ ?_
          rotate_left
          ·rintro w' ⟨s0, s1, s2, s3, s4, s5, s6, s7, s8, s9, s10, s11⟩
           go_simp
           with_reducible rfl
          rotate_left
          ·simp only [Act.put, List.setIfInBounds_toArray, List.set_cons_zero, List.set_cons_succ, i64_w, i32_w]
           rfl
          refine one_ (i := 10) (N := some 44) #[true, true, true, true, true, true, true, true, true, true, true, false] rfl rfl (one_of HT_.out (by kernel_rfl)) (by decide) (fun K hK => ?_)
          refine goes_ Try.func29 (by kernel_rfl) rfl #[.agg #[.int .i64 ((rd_T29 l0_2 x5_2).f0), .int .i64 ((rd_T29 l0_2 x5_2).f1), .slice A535_2 ((rd_T29 l0_2 x5_2).f2).length c535_2], .agg #[.int .i64 ((rd_T29 l1_2 x5_2).f0), .int .i64 ((rd_T29 l1_2 x5_2).f1), .slice A536_2 ((rd_T29 l1_2 x5_2).f2).length c536_2]] (by rfl) rfl rfl (by (try simp only [List.map_toArray, List.map_cons, List.map_nil]); first | done | rfl | (simp only [List.length_drop, List.length_take]; rfl)) ?_
          with_reducible refine (ih k2 (by have := HJ2.out; have := HK2.out; omega) ((rd_T29 l0_2 x5_2).f0) ((rd_T29 l0_2 x5_2).f1) _ _ ((rd_T29 l0_2 x5_2).f2) ((rd_T29 l1_2 x5_2).f0) ((rd_T29 l1_2 x5_2).f1) _ _ ((rd_T29 l1_2 x5_2).f2) true _ ?side1 ?side2 ?side3 ?side4 A21.out).mono ?_
          (case side1 => repeat (first | exact (Kd.C_below HR535_2.out HB.out) | (with_reducible refine Kd.C_alloc ?_ _) | (with_reducible refine Kd.C_drewN ?_ _) | (with_reducible refine Kd.C_drew ?_)))
          (case side2 => exact HC535_2.out)
          (case side3 => repeat (first | exact (Kd.C_below HR536_2.out HB.out) | (with_reducible refine Kd.C_alloc ?_ _) | (with_reducible refine Kd.C_drewN ?_ _) | (with_reducible refine Kd.C_drew ?_)))
          (case side4 => exact HC536_2.out)
          rintro e w26 ⟨rfl, hb⟩
          refine ⟨_, rfl, ?_⟩
          have n0_ := X1 (blk_below (g := gb533) (o := .cells #[.int .i64 a0_0, .int .i64 a0_1, .slice (some ad535) l0_2.length c0_2] 29 (0, 0)) (by (with_reducible repeat (first | refine X7 ?_ _ | refine X8 ?_ | refine X6 ?_ _)); exact BK533.out) hb)
          have n1_ := X1 (blk_below (g := gb534) (o := .cells #[.int .i64 a1_0, .int .i64 a1_1, .slice (some ad536) l1_2.length c1_2] 29 (0, 0)) (by (with_reducible repeat (first | refine X7 ?_ _ | refine X8 ?_ | refine X6 ?_ _)); exact BK534.out) hb)
          have n2_ := X1 (below_step (by repeat (first | (with_reducible first | exact HB.out | apply X5 | apply X4 | apply X3 | refine X10 ?_ GE533.out | refine X10 ?_ GE534.out) | exact HB.out)) hb)
          clear BK533
          clear BK534
          clear HB
          have BK533 := n0_
          have BK534 := n1_
          have HB := n2_
          clear n0_ n1_ n2_
          (try clear hb)
          (try clear hb2)
          (try clear hk)
          (try clear hi)
          refine hK.out _ _ ⟨(X11 BK533.out 0).trans rfl, (X11 BK533.out 1).trans rfl, (X11 BK533.out 2).trans rfl, (X11 BK534.out 0).trans rfl, (X11 BK534.out 1).trans rfl, (X11 BK534.out 2).trans rfl, ((HB.out.cell (X9 w _ hw535_0)).trans hw535_0), ((HB.out.cell (X9 w _ hw535_1)).trans hw535_1), ((HB.out.cell (X9 w _ hw535_2)).trans hw535_2), ((HB.out.cell (X9 w _ hw536_0)).trans hw536_0), ((HB.out.cell (X9 w _ hw536_1)).trans hw536_1), ((HB.out.cell (X9 w _ hw536_2)).trans hw536_2)⟩ (fun hHeld => ?_)
          clear hK K
          refine norm_ (a' := ?_) ?_ ?_
          rotate_left
          ·show Act.put _ (some 44) _ = _
           simp only [Act.put, List.setIfInBounds_toArray, List.set_cons_zero, List.set_cons_succ, i64_w, i32_w]
           rfl
          refine pure_ (i := 11) (N := some 45) (v := ?_) (a' := ?_) #[true, true, true, true, true, true, true, true, true, true, true, true] rfl rfl (any_of HT_.out (by kernel_rfl)) (fun _ _ _ h => h) (Or.inl ⟨by rfl, ?_⟩) ?_ ?_
          rotate_left
          ·intro w'
           go_simp
           with_reducible rfl
          rotate_left
          ·simp only [Act.put, List.setIfInBounds_toArray, List.set_cons_zero, List.set_cons_succ, i64_w, i32_w]
           rfl
          refine done_ (done_of HT_.out (by kernel_rfl)) ?_
          try go_wp2
          go_roundg k2
          case measure => have := HJ2.out; have := HK2.out; omega
          case rel => exact ⟨(wrap64 (x5_2 + 1)), (by first | rfl | (simp; done) | (simp [*]; done)), H', ⟨by have := HJ2.out; have := HK2.out; omega⟩, ⟨by (with_reducible repeat (first | refine X7 ?_ _ | refine X8 ?_ | refine X6 ?_ _)); exact BK533.out⟩, ⟨by (with_reducible repeat (first | refine X7 ?_ _ | refine X8 ?_ | refine X6 ?_ _)); exact BK534.out⟩, ⟨by repeat (first | (with_reducible first | exact HB.out | apply X5 | apply X4 | apply X3 | refine X10 ?_ GE533.out | refine X10 ?_ GE534.out) | exact HB.out)⟩⟩
         ·replace c22 := Bool.eq_false_iff.mpr c22
          subst c22
          have H1 : (some false) = some r := by rw [if_neg (show ¬ (false = true) by decide)] at H; exact H
          clear H
          have H := H1
          clear H1
          obtain rfl := Option.some.inj H
          have hnb27 := NB533_534.out
          have hnc27 := NB534_533.out
          have hcz28_0 : wr.cell? ⟨gb533, 0, none⟩ = some (.int .i64 a0_0) := (X11 BK533.out 0).trans rfl
          have hcz28_1 : wr.cell? ⟨gb533, 1, none⟩ = some (.int .i64 a0_1) := (X11 BK533.out 1).trans rfl
          have hcz28_2 : wr.cell? ⟨gb533, 2, none⟩ = some (.slice A0_2 l0_2.length c0_2) := (X11 BK533.out 2).trans rfl
          have hfz28_0 := X12 BK533.out 0
          have hfz28_1 := X12 BK533.out 1
          have hfz28_2 := X12 BK533.out 2
          try go_wp2
          have n0_ := X1 (X8 BK533.out)
          have n1_ := X1 (X8 BK534.out)
          have n2_ := X1 (X3 HB.out)
          clear BK533
          clear BK534
          clear HB
          have BK533 := n0_
          have BK534 := n1_
          have HB := n2_
          clear n0_ n1_ n2_
          have p535 : 0 ≤ (x5_2 : Int) := of_decide_eq_true (by first | (with_reducible assumption) | assumption)
          have q535 : x5_2 < (l0_2.length : Int) := of_decide_eq_true (by first | (with_reducible assumption) | assumption)
          obtain ⟨ad535, A535_2, c535_2, e535, hx535_0, hx535_1, hx535_2, hl535_2, hi535_2⟩ := at_T29 HR0_2.out x5_2 p535 q535
          have hw535_2 := hx535_2
          have hw535_1 := hx535_1
          have hw535_0 := hx535_0
          cases e535
          replace hx535_0 := (HB.out.cell (X9 w _ hx535_0)).trans hx535_0
          replace hx535_1 := (HB.out.cell (X9 w _ hx535_1)).trans hx535_1
          replace hx535_2 := (HB.out.cell (X9 w _ hx535_2)).trans hx535_2
          have HR535_2 := X1 hi535_2
          have HC535_2 := X1 hl535_2
          clear hi535_2 hl535_2
          replace p535 := eq_true p535
          replace q535 := eq_true q535
          have p536 : 0 ≤ (x5_2 : Int) := of_decide_eq_true (by first | (with_reducible assumption) | assumption)
          have q536 : x5_2 < (l1_2.length : Int) := of_decide_eq_true (by first | (with_reducible assumption) | assumption)
          obtain ⟨ad536, A536_2, c536_2, e536, hx536_0, hx536_1, hx536_2, hl536_2, hi536_2⟩ := at_T29 HR1_2.out x5_2 p536 q536
          have hw536_2 := hx536_2
          have hw536_1 := hx536_1
          have hw536_0 := hx536_0
          cases e536
          replace hx536_0 := (HB.out.cell (X9 w _ hx536_0)).trans hx536_0
          replace hx536_1 := (HB.out.cell (X9 w _ hx536_1)).trans hx536_1
          replace hx536_2 := (HB.out.cell (X9 w _ hx536_2)).trans hx536_2
          have HR536_2 := X1 hi536_2
          have HC536_2 := X1 hl536_2
          clear hi536_2 hl536_2
          replace p536 := eq_true p536
          replace q536 := eq_true q536
          refine start_ (n := 12) (S := fun w' => w'.cell? ⟨gb533, 0, none⟩ = some (.int .i64 a0_0) ∧ w'.cell? ⟨gb533, 1, none⟩ = some (.int .i64 a0_1) ∧ w'.cell? ⟨gb533, 2, none⟩ = some (.slice (some ad535) l0_2.length c0_2) ∧ w'.cell? ⟨gb534, 0, none⟩ = some (.int .i64 a1_0) ∧ w'.cell? ⟨gb534, 1, none⟩ = some (.int .i64 a1_1) ∧ w'.cell? ⟨gb534, 2, none⟩ = some (.slice (some ad536) l1_2.length c1_2) ∧ w'.cell? (ad535.add ((x5_2).toNat * 3)) = some (.int .i64 ((rd_T29 l0_2 x5_2).f0)) ∧ w'.cell? ⟨(ad535.add ((x5_2).toNat * 3)).block, (ad535.add ((x5_2).toNat * 3)).off + 1, none⟩ = some (.int .i64 ((rd_T29 l0_2 x5_2).f1)) ∧ w'.cell? ⟨(ad535.add ((x5_2).toNat * 3)).block, (ad535.add ((x5_2).toNat * 3)).off + 2, none⟩ = some (.slice A535_2 ((rd_T29 l0_2 x5_2).f2).length c535_2) ∧ w'.cell? (ad536.add ((x5_2).toNat * 3)) = some (.int .i64 ((rd_T29 l1_2 x5_2).f0)) ∧ w'.cell? ⟨(ad536.add ((x5_2).toNat * 3)).block, (ad536.add ((x5_2).toNat * 3)).off + 1, none⟩ = some (.int .i64 ((rd_T29 l1_2 x5_2).f1)) ∧ w'.cell? ⟨(ad536.add ((x5_2).toNat * 3)).block, (ad536.add ((x5_2).toNat * 3)).off + 2, none⟩ = some (.slice A536_2 ((rd_T29 l1_2 x5_2).f2).length c536_2)) (ds := []) #[false, false, false, false, false, false, false, false, false, false, false, false] (by kernel_rfl) rfl rfl ⟨(X11 BK533.out 0).trans rfl, (X11 BK533.out 1).trans rfl, (X11 BK533.out 2).trans rfl, (X11 BK534.out 0).trans rfl, (X11 BK534.out 1).trans rfl, (X11 BK534.out 2).trans rfl, ((HB.out.cell (X9 w _ hw535_0)).trans hw535_0), ((HB.out.cell (X9 w _ hw535_1)).trans hw535_1), ((HB.out.cell (X9 w _ hw535_2)).trans hw535_2), ((HB.out.cell (X9 w _ hw536_0)).trans hw536_0), ((HB.out.cell (X9 w _ hw536_1)).trans hw536_1), ((HB.out.cell (X9 w _ hw536_2)).trans hw536_2)⟩ (fun hHeld => ?_); refine with_tabW laws_sameExpr.tab6 laws_sameExpr.bits6 (fun HT_ HW_ => ?_)
          generalize wr.drew = w29 at BK533 BK534 HB HR535_2 HR536_2 hx535_0 hx535_1 hx535_2 hx536_0 hx536_1 hx536_2 hHeld ⊢
          refine pure_ (i := 0) (N := some 34) (v := ?_) (a' := ?_) #[true, false, false, false, false, false, false, false, false, false, false, false] rfl rfl (any_of HT_.out (by kernel_rfl)) (fun _ _ _ h => h) (Or.inl ⟨by rfl, ?_⟩) ?_ ?_
          rotate_left
          ·intro w'
           go_simp
           with_reducible rfl
          rotate_left
          ·simp only [Act.put, List.setIfInBounds_toArray, List.set_cons_zero, List.set_cons_succ, i64_w, i32_w]
           rfl
          refine pure_ (i := 2) (N := some 36) (v := ?_) (a' := ?_) #[true, false, true, false, false, false, false, false, false, false, false, false] rfl rfl (any_of HT_.out (by kernel_rfl)) (fun _ _ _ h => h) (Or.inl ⟨by rfl, ?_⟩) ?_ ?_
          rotate_left
          ·intro w'
           go_simp
           with_reducible rfl
          rotate_left
          ·simp only [Act.put, List.setIfInBounds_toArray, List.set_cons_zero, List.set_cons_succ, i64_w, i32_w]
           rfl
          refine pure_ (i := 5) (N := some 39) (v := ?_) (a' := ?_) #[true, false, true, false, false, true, false, false, false, false, false, false] rfl rfl (any_of HT_.out (by kernel_rfl)) (fun _ _ _ h => h) (Or.inl ⟨by rfl, ?_⟩) ?_ ?_
          rotate_left
          ·intro w'
           go_simp
           with_reducible rfl
          rotate_left
          ·simp only [Act.put, List.setIfInBounds_toArray, List.set_cons_zero, List.set_cons_succ, i64_w, i32_w]
           rfl
          refine pure_ (i := 7) (N := some 41) (v := ?_) (a' := ?_) #[true, false, true, false, false, true, false, true, false, false, false, false] rfl rfl (any_of HT_.out (by kernel_rfl)) (fun _ _ _ h => h) (Or.inl ⟨by rfl, ?_⟩) ?_ ?_
          rotate_left
          ·intro w'
           go_simp
           with_reducible rfl
          rotate_left
          ·simp only [Act.put, List.setIfInBounds_toArray, List.set_cons_zero, List.set_cons_succ, i64_w, i32_w]
           rfl
          refine take_ (i := 1) (N := some 35) (v := ?_) (a' := ?_) #[true, true, true, false, false, true, false, true, false, false, false, false] rfl rfl (take_ofW HT_.out HW_.out (by kernel_rfl)) (fun _ _ _ h => h) (Or.inl ⟨by rfl, ?_⟩) hHeld ?_ ?_
          rotate_left
          ·rintro w' ⟨s0, s1, s2, s3, s4, s5, s6, s7, s8, s9, s10, s11⟩
           go_simp
           with_reducible rfl
          rotate_left
          ·simp only [Act.put, List.setIfInBounds_toArray, List.set_cons_zero, List.set_cons_succ, i64_w, i32_w]
           rfl
          refine pure_ (i := 3) (N := some 37) (v := ?_) (a' := ?_) #[true, true, true, true, false, true, false, true, false, false, false, false] rfl rfl (any_of HT_.out (by kernel_rfl)) (fun _ _ _ h => h) (Or.inl ⟨by rfl, ?_⟩) ?_ ?_
          rotate_left
          ·intro w'
           go_simp
           with_reducible rfl
          rotate_left
          ·simp only [Act.put, List.setIfInBounds_toArray, List.set_cons_zero, List.set_cons_succ, i64_w, i32_w]
           rfl
          refine take_ (i := 4) (N := some 38) (v := ?_) (a' := ?_) #[true, true, true, true, true, true, false, true, false, false, false, false] rfl rfl (take_ofW HT_.out HW_.out (by kernel_rfl)) (fun _ _ _ h => h) (Or.inl ⟨by rfl, ?_⟩) hHeld ?_ ?_
          rotate_left
          ·rintro w' ⟨s0, s1, s2, s3, s4, s5, s6, s7, s8, s9, s10, s11⟩
           go_simp
           with_reducible rfl
          rotate_left
          ·simp only [Act.put, List.setIfInBounds_toArray, List.set_cons_zero, List.set_cons_succ, i64_w, i32_w]
           rfl
          refine take_ (i := 6) (N := some 40) (v := ?_) (a' := ?_) #[true, true, true, true, true, true, true, true, false, false, false, false] rfl rfl (take_ofW HT_.out HW_.out (by kernel_rfl)) (fun _ _ _ h => h) (Or.inl ⟨by rfl, ?_⟩) hHeld ?_ ?_
          rotate_left
          ·rintro w' ⟨s0, s1, s2, s3, s4, s5, s6, s7, s8, s9, s10, s11⟩
           go_simp
           with_reducible rfl
          rotate_left
          ·simp only [Act.put, List.setIfInBounds_toArray, List.set_cons_zero, List.set_cons_succ, i64_w, i32_w]
           rfl
          refine pure_ (i := 8) (N := some 42) (v := ?_) (a' := ?_) #[true, true, true, true, true, true, true, true, true, false, false, false] rfl rfl (any_of HT_.out (by kernel_rfl)) (fun _ _ _ h => h) (Or.inl ⟨by rfl, ?_⟩) ?_ ?_
          rotate_left
          ·intro w'
           go_simp
           with_reducible rfl
          rotate_left
          ·simp only [Act.put, List.setIfInBounds_toArray, List.set_cons_zero, List.set_cons_succ, i64_w, i32_w]
           rfl
          refine take_ (i := 9) (N := some 43) (v := ?_) (a' := ?_) #[true, true, true, true, true, true, true, true, true, true, false, false] rfl rfl (take_ofW HT_.out HW_.out (by kernel_rfl)) (fun _ _ _ h => h) (Or.inl ⟨by rfl, ?_⟩) hHeld ?_ ?_
          rotate_left
          ·rintro w' ⟨s0, s1, s2, s3, s4, s5, s6, s7, s8, s9, s10, s11⟩
           go_simp
           with_reducible rfl
          rotate_left
          ·simp only [Act.put, List.setIfInBounds_toArray, List.set_cons_zero, List.set_cons_succ, i64_w, i32_w]
           rfl
          refine one_ (i := 10) (N := some 44) #[true, true, true, true, true, true, true, true, true, true, true, false] rfl rfl (one_of HT_.out (by kernel_rfl)) (by decide) (fun K hK => ?_)
          refine goes_ Try.func29 (by kernel_rfl) rfl #[.agg #[.int .i64 ((rd_T29 l0_2 x5_2).f0), .int .i64 ((rd_T29 l0_2 x5_2).f1), .slice A535_2 ((rd_T29 l0_2 x5_2).f2).length c535_2], .agg #[.int .i64 ((rd_T29 l1_2 x5_2).f0), .int .i64 ((rd_T29 l1_2 x5_2).f1), .slice A536_2 ((rd_T29 l1_2 x5_2).f2).length c536_2]] (by rfl) rfl rfl (by (try simp only [List.map_toArray, List.map_cons, List.map_nil]); first | done | rfl | (simp only [List.length_drop, List.length_take]; rfl)) ?_
          with_reducible refine (ih k2 (by have := HJ2.out; have := HK2.out; omega) ((rd_T29 l0_2 x5_2).f0) ((rd_T29 l0_2 x5_2).f1) _ _ ((rd_T29 l0_2 x5_2).f2) ((rd_T29 l1_2 x5_2).f0) ((rd_T29 l1_2 x5_2).f1) _ _ ((rd_T29 l1_2 x5_2).f2) false _ ?side1 ?side2 ?side3 ?side4 A21.out).mono ?_
          (case side1 => repeat (first | exact (Kd.C_below HR535_2.out HB.out) | (with_reducible refine Kd.C_alloc ?_ _) | (with_reducible refine Kd.C_drewN ?_ _) | (with_reducible refine Kd.C_drew ?_)))
          (case side2 => exact HC535_2.out)
          (case side3 => repeat (first | exact (Kd.C_below HR536_2.out HB.out) | (with_reducible refine Kd.C_alloc ?_ _) | (with_reducible refine Kd.C_drewN ?_ _) | (with_reducible refine Kd.C_drew ?_)))
          (case side4 => exact HC536_2.out)
          rintro e w30 ⟨rfl, hb⟩
          refine ⟨_, rfl, ?_⟩
          have n0_ := X1 (blk_below (g := gb533) (o := .cells #[.int .i64 a0_0, .int .i64 a0_1, .slice (some ad535) l0_2.length c0_2] 29 (0, 0)) (by (with_reducible repeat (first | refine X7 ?_ _ | refine X8 ?_ | refine X6 ?_ _)); exact BK533.out) hb)
          have n1_ := X1 (blk_below (g := gb534) (o := .cells #[.int .i64 a1_0, .int .i64 a1_1, .slice (some ad536) l1_2.length c1_2] 29 (0, 0)) (by (with_reducible repeat (first | refine X7 ?_ _ | refine X8 ?_ | refine X6 ?_ _)); exact BK534.out) hb)
          have n2_ := X1 (below_step (by repeat (first | (with_reducible first | exact HB.out | apply X5 | apply X4 | apply X3 | refine X10 ?_ GE533.out | refine X10 ?_ GE534.out) | exact HB.out)) hb)
          clear BK533
          clear BK534
          clear HB
          have BK533 := n0_
          have BK534 := n1_
          have HB := n2_
          clear n0_ n1_ n2_
          (try clear hb)
          (try clear hb2)
          (try clear hk)
          (try clear hi)
          refine hK.out _ _ ⟨(X11 BK533.out 0).trans rfl, (X11 BK533.out 1).trans rfl, (X11 BK533.out 2).trans rfl, (X11 BK534.out 0).trans rfl, (X11 BK534.out 1).trans rfl, (X11 BK534.out 2).trans rfl, ((HB.out.cell (X9 w _ hw535_0)).trans hw535_0), ((HB.out.cell (X9 w _ hw535_1)).trans hw535_1), ((HB.out.cell (X9 w _ hw535_2)).trans hw535_2), ((HB.out.cell (X9 w _ hw536_0)).trans hw536_0), ((HB.out.cell (X9 w _ hw536_1)).trans hw536_1), ((HB.out.cell (X9 w _ hw536_2)).trans hw536_2)⟩ (fun hHeld => ?_)
          clear hK K
          refine norm_ (a' := ?_) ?_ ?_
          rotate_left
          ·show Act.put _ (some 44) _ = _
           simp only [Act.put, List.setIfInBounds_toArray, List.set_cons_zero, List.set_cons_succ, i64_w, i32_w]
           rfl
          refine pure_ (i := 11) (N := some 45) (v := ?_) (a' := ?_) #[true, true, true, true, true, true, true, true, true, true, true, true] rfl rfl (any_of HT_.out (by kernel_rfl)) (fun _ _ _ h => h) (Or.inl ⟨by rfl, ?_⟩) ?_ ?_
          rotate_left
          ·intro w'
           go_simp
           with_reducible rfl
          rotate_left
          ·simp only [Act.put, List.setIfInBounds_toArray, List.set_cons_zero, List.set_cons_succ, i64_w, i32_w]
           rfl
          refine done_ (done_of HT_.out (by kernel_rfl)) ?_
          try go_wp2
          go_ret
          exact ⟨by first | rfl | (simp [errW_none, errW_some] <;> rfl) | (simp [*, errW_none, errW_some] <;> rfl), by repeat (first | (with_reducible first | exact HB.out | apply X5 | apply X4 | apply X3 | refine X10 ?_ GE533.out | refine X10 ?_ GE534.out) | exact HB.out)⟩
        ·rw [if_neg c20] at H
         exact absurd H (by simp)
       ·rw [if_neg c19] at H
        exact absurd H (by simp)
      ·rw [if_neg c18] at H
       have c18b0 : decide (x5_2 < (l0_2.length : Int)) = false := decide_eq_false c18
       clear c18
       obtain rfl := Option.some.inj H
       have hnb31 := NB533_534.out
       have hnc31 := NB534_533.out
       have hcz32_0 : wr.cell? ⟨gb533, 0, none⟩ = some (.int .i64 a0_0) := (X11 BK533.out 0).trans rfl
       have hcz32_1 : wr.cell? ⟨gb533, 1, none⟩ = some (.int .i64 a0_1) := (X11 BK533.out 1).trans rfl
       have hcz32_2 : wr.cell? ⟨gb533, 2, none⟩ = some (.slice A0_2 l0_2.length c0_2) := (X11 BK533.out 2).trans rfl
       have hfz32_0 := X12 BK533.out 0
       have hfz32_1 := X12 BK533.out 1
       have hfz32_2 := X12 BK533.out 2
       go_wp2
       go_ret
       exact ⟨by first | rfl | (simp [errW_none, errW_some] <;> rfl) | (simp [*, errW_none, errW_some] <;> rfl), by repeat (first | (with_reducible first | exact HB.out | apply X5 | apply X4 | apply X3 | refine X10 ?_ GE533.out | refine X10 ?_ GE534.out) | exact HB.out)⟩

/-! ### impl_WordValid: function 52 -/
def impl_WordValid.f (a0 : Int) : Option (Bool) := if a0 ≥ (-2147483648) then (some (decide (a0 ≤ 2147483647))) else (some false)
set_option maxHeartbeats 8000000 in
set_option maxRecDepth 100000 in
theorem impl_WordValid.calls (a0 : Int) (r : Bool) (w : World) (h : impl_WordValid.f a0 = some r) :
  Calls Try.prog 52 #[.int .i64 a0] w fun e w' => e = .returned (.bool r) ∧ Drawn0 w w' := by
 have H : (if a0 ≥ (-2147483648) then (some (decide (a0 ≤ 2147483647))) else (some false)) = some r := h
 clear h
 by_cases c2 : a0 ≥ (-2147483648)
 ·rw [if_pos c2] at H
  have c2b0 : decide ((-2147483648) ≤ a0) = true := decide_eq_true c2
  clear c2
  obtain rfl := Option.some.inj H
  go_enter Try.func52, Try.ntmps52
  go_wp2
  go_ret
  exact ⟨by first | rfl | (simp; done) | (simp [*]; done), by repeat (first | exact Drawn0.refl _ | apply Drawn0.step)⟩
 ·rw [if_neg c2] at H
  have c2b0 : decide ((-2147483648) ≤ a0) = false := decide_eq_false c2
  clear c2
  obtain rfl := Option.some.inj H
  go_enter Try.func52, Try.ntmps52
  go_wp2
  go_ret
  exact ⟨by first | rfl | (simp; done) | (simp [*]; done), by repeat (first | exact Drawn0.refl _ | apply Drawn0.step)⟩

/-! ### impl_Apply: function 30 -/
def impl_Apply.f (a0 : Int) (a1 : Int) (a2 : Int) : Option (Int × Bool) := (impl_OpValid.f a0).bind fun t538 => (if t538 = true then ((impl_WordValid.f a1).bind fun t539 => (if t539 = true then ((impl_WordValid.f a2).bind fun t540 => (if t540 = true then ((impl_apply.f a0 a1 a2).bind fun t541 => (some (t541, true))) else (some (0, false)))) else (some (0, false)))) else (some (0, false)))
set_option maxHeartbeats 8000000 in
set_option maxRecDepth 100000 in
theorem impl_Apply.calls (a0 : Int) (a1 : Int) (a2 : Int) (r1 : Int) (r2 : Bool) (w : World) (h : impl_Apply.f a0 a1 a2 = some (r1, r2)) :
  Calls Try.prog 30 #[.int .i64 a0, .int .i64 a1, .int .i64 a2] w fun e w' => e = .returned (.tuple #[.int .i64 r1, .bool r2]) ∧ Drawn0 w w' := by
 have H : ((impl_OpValid.f a0).bind fun t538 => (if t538 = true then ((impl_WordValid.f a1).bind fun t539 => (if t539 = true then ((impl_WordValid.f a2).bind fun t540 => (if t540 = true then ((impl_apply.f a0 a1 a2).bind fun t541 => (some (t541, true))) else (some (0, false)))) else (some (0, false)))) else (some (0, false)))) = some (r1, r2) := h
 clear h
 replace H := X2 H
 obtain ⟨t538, A40, H⟩ := H
 replace H : (if t538 = true then ((impl_WordValid.f a1).bind fun t539 => (if t539 = true then ((impl_WordValid.f a2).bind fun t540 => (if t540 = true then ((impl_apply.f a0 a1 a2).bind fun t541 => (some (t541, true))) else (some (0, false)))) else (some (0, false)))) else (some (0, false))) = some (r1, r2) := H
 have A4 := X1 A40
 clear A40
 by_cases c5 : t538 = true
 ·subst c5
  have H1 : ((impl_WordValid.f a1).bind fun t539 => (if t539 = true then ((impl_WordValid.f a2).bind fun t540 => (if t540 = true then ((impl_apply.f a0 a1 a2).bind fun t541 => (some (t541, true))) else (some (0, false)))) else (some (0, false)))) = some (r1, r2) := by rw [if_pos rfl] at H; exact H
  clear H
  have H := H1
  clear H1
  replace H := X2 H
  obtain ⟨t539, A60, H⟩ := H
  replace H : (if t539 = true then ((impl_WordValid.f a2).bind fun t540 => (if t540 = true then ((impl_apply.f a0 a1 a2).bind fun t541 => (some (t541, true))) else (some (0, false)))) else (some (0, false))) = some (r1, r2) := H
  have A6 := X1 A60
  clear A60
  by_cases c7 : t539 = true
  ·subst c7
   have H1 : ((impl_WordValid.f a2).bind fun t540 => (if t540 = true then ((impl_apply.f a0 a1 a2).bind fun t541 => (some (t541, true))) else (some (0, false)))) = some (r1, r2) := by rw [if_pos rfl] at H; exact H
   clear H
   have H := H1
   clear H1
   replace H := X2 H
   obtain ⟨t540, A80, H⟩ := H
   replace H : (if t540 = true then ((impl_apply.f a0 a1 a2).bind fun t541 => (some (t541, true))) else (some (0, false))) = some (r1, r2) := H
   have A8 := X1 A80
   clear A80
   by_cases c9 : t540 = true
   ·subst c9
    have H1 : ((impl_apply.f a0 a1 a2).bind fun t541 => (some (t541, true))) = some (r1, r2) := by rw [if_pos rfl] at H; exact H
    clear H
    have H := H1
    clear H1
    replace H := X2 H
    obtain ⟨t541, A100, H⟩ := H
    replace H : (some (t541, true)) = some (r1, r2) := H
    have A10 := X1 A100
    clear A100
    simp only [Option.some.injEq, Prod.mk.injEq] at H
    obtain ⟨rfl, rfl⟩ := H
    go_enter Try.func30, Try.ntmps30
    go_wp2_with (first | ((with_reducible refine gate_callee (f := 51) rfl ?_); refine goesL_ (some 9) rfl rfl Try.func51 (by kernel_rfl) rfl #[.int .i64 a0] rfl (by (try simp only [List.map_toArray, List.map_cons, List.map_nil]); first | done | rfl | (simp only [List.length_drop, List.length_take]; rfl)) ?_; (with_reducible refine (impl_OpValid.calls a0 true _ A4.out).mono ?_); rintro e w' ⟨rfl, ⟨nd, rfl⟩⟩; refine ⟨_, rfl, ?_⟩) | (go_at_call 52; (with_reducible refine (impl_WordValid.calls a1 true _ A6.out).mono ?_); rintro e w' ⟨rfl, ⟨nd, rfl⟩⟩) | (go_at_call 52; (with_reducible refine (impl_WordValid.calls a2 true _ A8.out).mono ?_); rintro e w' ⟨rfl, ⟨nd, rfl⟩⟩) | ((with_reducible refine gate_callee (f := 53) rfl ?_); refine goesL_ (some 24) rfl rfl Try.func53 (by kernel_rfl) rfl #[.int .i64 a0, .int .i64 a1, .int .i64 a2] rfl (by (try simp only [List.map_toArray, List.map_cons, List.map_nil]); first | done | rfl | (simp only [List.length_drop, List.length_take]; rfl)) ?_; (with_reducible refine (impl_apply.calls a0 a1 a2 t541 _ A10.out).mono ?_); rintro e w' ⟨rfl, ⟨nd, rfl⟩⟩; refine ⟨_, rfl, ?_⟩))
    go_ret2
    exact ⟨by first | rfl | (simp; done) | (simp [*]; done), by repeat (first | exact Drawn0.refl _ | apply Drawn0.step)⟩
   ·replace c9 := Bool.eq_false_iff.mpr c9
    subst c9
    have H1 : (some (0, false)) = some (r1, r2) := by rw [if_neg (show ¬ (false = true) by decide)] at H; exact H
    clear H
    have H := H1
    clear H1
    simp only [Option.some.injEq, Prod.mk.injEq] at H
    obtain ⟨rfl, rfl⟩ := H
    go_enter Try.func30, Try.ntmps30
    go_wp2_with (first | ((with_reducible refine gate_callee (f := 51) rfl ?_); refine goesL_ (some 9) rfl rfl Try.func51 (by kernel_rfl) rfl #[.int .i64 a0] rfl (by (try simp only [List.map_toArray, List.map_cons, List.map_nil]); first | done | rfl | (simp only [List.length_drop, List.length_take]; rfl)) ?_; (with_reducible refine (impl_OpValid.calls a0 true _ A4.out).mono ?_); rintro e w' ⟨rfl, ⟨nd, rfl⟩⟩; refine ⟨_, rfl, ?_⟩) | (go_at_call 52; (with_reducible refine (impl_WordValid.calls a1 true _ A6.out).mono ?_); rintro e w' ⟨rfl, ⟨nd, rfl⟩⟩) | (go_at_call 52; (with_reducible refine (impl_WordValid.calls a2 false _ A8.out).mono ?_); rintro e w' ⟨rfl, ⟨nd, rfl⟩⟩))
    go_ret2
    exact ⟨by first | rfl | (simp; done) | (simp [*]; done), by repeat (first | exact Drawn0.refl _ | apply Drawn0.step)⟩
  ·replace c7 := Bool.eq_false_iff.mpr c7
   subst c7
   have H1 : (some (0, false)) = some (r1, r2) := by rw [if_neg (show ¬ (false = true) by decide)] at H; exact H
   clear H
   have H := H1
   clear H1
   simp only [Option.some.injEq, Prod.mk.injEq] at H
   obtain ⟨rfl, rfl⟩ := H
   go_enter Try.func30, Try.ntmps30
   go_wp2_with (first | ((with_reducible refine gate_callee (f := 51) rfl ?_); refine goesL_ (some 9) rfl rfl Try.func51 (by kernel_rfl) rfl #[.int .i64 a0] rfl (by (try simp only [List.map_toArray, List.map_cons, List.map_nil]); first | done | rfl | (simp only [List.length_drop, List.length_take]; rfl)) ?_; (with_reducible refine (impl_OpValid.calls a0 true _ A4.out).mono ?_); rintro e w' ⟨rfl, ⟨nd, rfl⟩⟩; refine ⟨_, rfl, ?_⟩) | (go_at_call 52; (with_reducible refine (impl_WordValid.calls a1 false _ A6.out).mono ?_); rintro e w' ⟨rfl, ⟨nd, rfl⟩⟩))
   go_ret2
   exact ⟨by first | rfl | (simp; done) | (simp [*]; done), by repeat (first | exact Drawn0.refl _ | apply Drawn0.step)⟩
 ·replace c5 := Bool.eq_false_iff.mpr c5
  subst c5
  have H1 : (some (0, false)) = some (r1, r2) := by rw [if_neg (show ¬ (false = true) by decide)] at H; exact H
  clear H
  have H := H1
  clear H1
  simp only [Option.some.injEq, Prod.mk.injEq] at H
  obtain ⟨rfl, rfl⟩ := H
  go_enter Try.func30, Try.ntmps30
  go_wp2_with (first | ((with_reducible refine gate_callee (f := 51) rfl ?_); refine goesL_ (some 9) rfl rfl Try.func51 (by kernel_rfl) rfl #[.int .i64 a0] rfl (by (try simp only [List.map_toArray, List.map_cons, List.map_nil]); first | done | rfl | (simp only [List.length_drop, List.length_take]; rfl)) ?_; (with_reducible refine (impl_OpValid.calls a0 false _ A4.out).mono ?_); rintro e w' ⟨rfl, ⟨nd, rfl⟩⟩; refine ⟨_, rfl, ?_⟩))
  go_ret2
  exact ⟨by first | rfl | (simp; done) | (simp [*]; done), by repeat (first | exact Drawn0.refl _ | apply Drawn0.step)⟩

-- NOT PRINTED: function 10 (laws_FnFoldParts)

end Go.Proofs.Ytjohbglkocgdjaa.Q
