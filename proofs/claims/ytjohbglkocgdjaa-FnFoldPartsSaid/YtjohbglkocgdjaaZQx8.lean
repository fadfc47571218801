/- Written for this claim by the kit's print program, over contracts that are this seat's own (): not the print's own text. -/
import Derived.Test.YtjohbglkocgdjaaZQx0
import Derived.Test.YtjohbglkocgdjaaZQx3
import Derived.Test.YtjohbglkocgdjaaZQx4
import Derived.Test.YtjohbglkocgdjaaZQx5
namespace Go.Proofs.Ytjohbglkocgdjaa.Q
open Go.RowKit Go.Proofs.YtjohbglkocgdjaaW.PrintWords Go.Proofs.YtjohbglkocgdjaaW.PrintLast Go.Proofs.YtjohbglkocgdjaaW.PrintMore
attribute [local go_sem] max2_int min2_int max_two min_two max_three min_three max_four min_four   -- for this text's walks alone
set_option linter.unusedVariables false
set_option linter.unusedSimpArgs false

/-! ### spec_DrawExprFold: function 26 -/
def spec_DrawExprFold.f (k : Nat) (l0 : List Int) : Option (Int × Int × (List (S29))) := (spec_l6Open.f l0).bind fun bt385 => ((spec_l6Rd_pick.f k bt385.1 bt385.2 3).bind fun bt388 => (if bt388.1 = 0 then ((spec_l91Op.f k bt385.1 bt388.2).bind fun bt390 => ((spec_l91Op.f k bt385.1 bt390.2).bind fun bt392 => ((spec_l6Rd_pick.f k bt385.1 bt392.2 9).bind fun bt394 => ((spec_l4Leaf.f 0 bt394.1).bind fun bt396 => ((spec_l6Rd_pick.f k bt385.1 bt394.2 9).bind fun bt401 => ((spec_l4Leaf.f 0 bt401.1).bind fun bt403 => ((spec_l4Both.f bt392.1 bt396.1 bt396.2.1 bt396.2.2 bt403.1 bt403.2.1 bt403.2.2).bind fun bt408 => ((spec_l91Leaf.f k bt385.1 bt401.2).bind fun bt413 => ((spec_l4Both.f bt390.1 bt408.1 bt408.2.1 bt408.2.2 bt413.1 bt413.2.1 bt413.2.2.1).bind fun bt419 => (some (bt419.1, bt419.2.1, bt419.2.2))))))))))) else ((spec_l91Spoilt.f k bt385.1 bt388.2).bind fun bt424 => (some (bt424.1, bt424.2.1, bt424.2.2.1)))))
set_option maxHeartbeats 8000000 in
set_option maxRecDepth 100000 in
theorem spec_DrawExprFold.calls (k : Nat) (A0 : Option Addr) (c0 : Nat) (l0 : List Int) (r1 : Int) (r2 : Int) (r3 : List (S29)) (w : World) (hr0 : Kd.C (Kd.int .u8) w A0 l0.length l0) (hc0 : l0.length ≤ c0) (h : spec_DrawExprFold.f k l0 = some (r1, r2, r3)) :
  Calls Try.prog 26 #[.slice A0 l0.length c0] w fun e w' => ∃ v2_ : Value, e = .returned (.agg #[.int .i64 r1, .int .i64 r2, v2_]) ∧ Kd.N k29 29 w' w.heap.size (fun k_ => (w.heap.size ≤ k_)) v2_ r3 ∧ Below w.heap.size w w' := by
 have hu29 := Try.underlying29
 have HR0 := X1 hr0
 have HC0 := X1 hc0
 clear hr0 hc0
 have HB := X1 (Below.refl w.heap.size w)
 have H : ((spec_l6Open.f l0).bind fun bt385 => ((spec_l6Rd_pick.f k bt385.1 bt385.2 3).bind fun bt388 => (if bt388.1 = 0 then ((spec_l91Op.f k bt385.1 bt388.2).bind fun bt390 => ((spec_l91Op.f k bt385.1 bt390.2).bind fun bt392 => ((spec_l6Rd_pick.f k bt385.1 bt392.2 9).bind fun bt394 => ((spec_l4Leaf.f 0 bt394.1).bind fun bt396 => ((spec_l6Rd_pick.f k bt385.1 bt394.2 9).bind fun bt401 => ((spec_l4Leaf.f 0 bt401.1).bind fun bt403 => ((spec_l4Both.f bt392.1 bt396.1 bt396.2.1 bt396.2.2 bt403.1 bt403.2.1 bt403.2.2).bind fun bt408 => ((spec_l91Leaf.f k bt385.1 bt401.2).bind fun bt413 => ((spec_l4Both.f bt390.1 bt408.1 bt408.2.1 bt408.2.2 bt413.1 bt413.2.1 bt413.2.2.1).bind fun bt419 => (some (bt419.1, bt419.2.1, bt419.2.2))))))))))) else ((spec_l91Spoilt.f k bt385.1 bt388.2).bind fun bt424 => (some (bt424.1, bt424.2.1, bt424.2.2.1)))))) = some (r1, r2, r3) := h
 clear h
 replace H := X2 H
 obtain ⟨⟨t385, t386⟩, A20, H⟩ := H
 replace H : ((spec_l6Rd_pick.f k t385 t386 3).bind fun bt388 => (if bt388.1 = 0 then ((spec_l91Op.f k t385 bt388.2).bind fun bt390 => ((spec_l91Op.f k t385 bt390.2).bind fun bt392 => ((spec_l6Rd_pick.f k t385 bt392.2 9).bind fun bt394 => ((spec_l4Leaf.f 0 bt394.1).bind fun bt396 => ((spec_l6Rd_pick.f k t385 bt394.2 9).bind fun bt401 => ((spec_l4Leaf.f 0 bt401.1).bind fun bt403 => ((spec_l4Both.f bt392.1 bt396.1 bt396.2.1 bt396.2.2 bt403.1 bt403.2.1 bt403.2.2).bind fun bt408 => ((spec_l91Leaf.f k t385 bt401.2).bind fun bt413 => ((spec_l4Both.f bt390.1 bt408.1 bt408.2.1 bt408.2.2 bt413.1 bt413.2.1 bt413.2.2.1).bind fun bt419 => (some (bt419.1, bt419.2.1, bt419.2.2))))))))))) else ((spec_l91Spoilt.f k t385 bt388.2).bind fun bt424 => (some (bt424.1, bt424.2.1, bt424.2.2.1))))) = some (r1, r2, r3) := H
 have A2 := X1 A20
 clear A20
 replace H := X2 H
 obtain ⟨⟨t388, t389⟩, A30, H⟩ := H
 replace H : (if t388 = 0 then ((spec_l91Op.f k t385 t389).bind fun bt390 => ((spec_l91Op.f k t385 bt390.2).bind fun bt392 => ((spec_l6Rd_pick.f k t385 bt392.2 9).bind fun bt394 => ((spec_l4Leaf.f 0 bt394.1).bind fun bt396 => ((spec_l6Rd_pick.f k t385 bt394.2 9).bind fun bt401 => ((spec_l4Leaf.f 0 bt401.1).bind fun bt403 => ((spec_l4Both.f bt392.1 bt396.1 bt396.2.1 bt396.2.2 bt403.1 bt403.2.1 bt403.2.2).bind fun bt408 => ((spec_l91Leaf.f k t385 bt401.2).bind fun bt413 => ((spec_l4Both.f bt390.1 bt408.1 bt408.2.1 bt408.2.2 bt413.1 bt413.2.1 bt413.2.2.1).bind fun bt419 => (some (bt419.1, bt419.2.1, bt419.2.2))))))))))) else ((spec_l91Spoilt.f k t385 t389).bind fun bt424 => (some (bt424.1, bt424.2.1, bt424.2.2.1)))) = some (r1, r2, r3) := H
 have A3 := X1 A30
 clear A30
 by_cases c4 : t388 = 0
 ·rw [if_pos c4] at H
  have c4b0 : (t388 == 0) = true := beq_iff_eq.mpr c4
  have c4b1 : (t388 != 0) = false := bne_eq_false_iff_eq.mpr c4
  clear c4
  replace H := X2 H
  obtain ⟨⟨t390, t391⟩, A50, H⟩ := H
  replace H : ((spec_l91Op.f k t385 t391).bind fun bt392 => ((spec_l6Rd_pick.f k t385 bt392.2 9).bind fun bt394 => ((spec_l4Leaf.f 0 bt394.1).bind fun bt396 => ((spec_l6Rd_pick.f k t385 bt394.2 9).bind fun bt401 => ((spec_l4Leaf.f 0 bt401.1).bind fun bt403 => ((spec_l4Both.f bt392.1 bt396.1 bt396.2.1 bt396.2.2 bt403.1 bt403.2.1 bt403.2.2).bind fun bt408 => ((spec_l91Leaf.f k t385 bt401.2).bind fun bt413 => ((spec_l4Both.f t390 bt408.1 bt408.2.1 bt408.2.2 bt413.1 bt413.2.1 bt413.2.2.1).bind fun bt419 => (some (bt419.1, bt419.2.1, bt419.2.2)))))))))) = some (r1, r2, r3) := H
  have A5 := X1 A50
  clear A50
  replace H := X2 H
  obtain ⟨⟨t392, t393⟩, A60, H⟩ := H
  replace H : ((spec_l6Rd_pick.f k t385 t393 9).bind fun bt394 => ((spec_l4Leaf.f 0 bt394.1).bind fun bt396 => ((spec_l6Rd_pick.f k t385 bt394.2 9).bind fun bt401 => ((spec_l4Leaf.f 0 bt401.1).bind fun bt403 => ((spec_l4Both.f t392 bt396.1 bt396.2.1 bt396.2.2 bt403.1 bt403.2.1 bt403.2.2).bind fun bt408 => ((spec_l91Leaf.f k t385 bt401.2).bind fun bt413 => ((spec_l4Both.f t390 bt408.1 bt408.2.1 bt408.2.2 bt413.1 bt413.2.1 bt413.2.2.1).bind fun bt419 => (some (bt419.1, bt419.2.1, bt419.2.2))))))))) = some (r1, r2, r3) := H
  have A6 := X1 A60
  clear A60
  replace H := X2 H
  obtain ⟨⟨t394, t395⟩, A70, H⟩ := H
  replace H : ((spec_l4Leaf.f 0 t394).bind fun bt396 => ((spec_l6Rd_pick.f k t385 t395 9).bind fun bt401 => ((spec_l4Leaf.f 0 bt401.1).bind fun bt403 => ((spec_l4Both.f t392 bt396.1 bt396.2.1 bt396.2.2 bt403.1 bt403.2.1 bt403.2.2).bind fun bt408 => ((spec_l91Leaf.f k t385 bt401.2).bind fun bt413 => ((spec_l4Both.f t390 bt408.1 bt408.2.1 bt408.2.2 bt413.1 bt413.2.1 bt413.2.2.1).bind fun bt419 => (some (bt419.1, bt419.2.1, bt419.2.2)))))))) = some (r1, r2, r3) := H
  have A7 := X1 A70
  clear A70
  replace H := X2 H
  obtain ⟨⟨t396, t397, t398⟩, A80, H⟩ := H
  replace H : ((spec_l6Rd_pick.f k t385 t395 9).bind fun bt401 => ((spec_l4Leaf.f 0 bt401.1).bind fun bt403 => ((spec_l4Both.f t392 t396 t397 t398 bt403.1 bt403.2.1 bt403.2.2).bind fun bt408 => ((spec_l91Leaf.f k t385 bt401.2).bind fun bt413 => ((spec_l4Both.f t390 bt408.1 bt408.2.1 bt408.2.2 bt413.1 bt413.2.1 bt413.2.2.1).bind fun bt419 => (some (bt419.1, bt419.2.1, bt419.2.2))))))) = some (r1, r2, r3) := H
  have A8 := X1 A80
  clear A80
  replace H := X2 H
  obtain ⟨⟨t401, t402⟩, A90, H⟩ := H
  replace H : ((spec_l4Leaf.f 0 t401).bind fun bt403 => ((spec_l4Both.f t392 t396 t397 t398 bt403.1 bt403.2.1 bt403.2.2).bind fun bt408 => ((spec_l91Leaf.f k t385 t402).bind fun bt413 => ((spec_l4Both.f t390 bt408.1 bt408.2.1 bt408.2.2 bt413.1 bt413.2.1 bt413.2.2.1).bind fun bt419 => (some (bt419.1, bt419.2.1, bt419.2.2)))))) = some (r1, r2, r3) := H
  have A9 := X1 A90
  clear A90
  replace H := X2 H
  obtain ⟨⟨t403, t404, t405⟩, A100, H⟩ := H
  replace H : ((spec_l4Both.f t392 t396 t397 t398 t403 t404 t405).bind fun bt408 => ((spec_l91Leaf.f k t385 t402).bind fun bt413 => ((spec_l4Both.f t390 bt408.1 bt408.2.1 bt408.2.2 bt413.1 bt413.2.1 bt413.2.2.1).bind fun bt419 => (some (bt419.1, bt419.2.1, bt419.2.2))))) = some (r1, r2, r3) := H
  have A10 := X1 A100
  clear A100
  replace H := X2 H
  obtain ⟨⟨t408, t409, t410⟩, A110, H⟩ := H
  replace H : ((spec_l91Leaf.f k t385 t402).bind fun bt413 => ((spec_l4Both.f t390 t408 t409 t410 bt413.1 bt413.2.1 bt413.2.2.1).bind fun bt419 => (some (bt419.1, bt419.2.1, bt419.2.2)))) = some (r1, r2, r3) := H
  have A11 := X1 A110
  clear A110
  replace H := X2 H
  obtain ⟨⟨t413, t414, t415, t418⟩, A120, H⟩ := H
  replace H : ((spec_l4Both.f t390 t408 t409 t410 t413 t414 t415).bind fun bt419 => (some (bt419.1, bt419.2.1, bt419.2.2))) = some (r1, r2, r3) := H
  have A12 := X1 A120
  clear A120
  replace H := X2 H
  obtain ⟨⟨t419, t420, t421⟩, A130, H⟩ := H
  replace H : (some (t419, t420, t421)) = some (r1, r2, r3) := H
  have A13 := X1 A130
  clear A130
  simp only [Option.some.injEq, Prod.mk.injEq] at H
  obtain ⟨rfl, rfl, rfl⟩ := H
  go_enter Try.func26, Try.ntmps26
  go_wp2_with (first | ((with_reducible refine gate_dst (N := 2) rfl ?_); refine box_event ?hg (N := 2) ?hd (cs := #[.int .i64 0, .int .i64 0, .slice none 0 0]) (t := 29) ?hr ?_; (case hd => rfl); (case hg => rfl); (case hr => first | (go_simp; done) | (go_simp; rfl)); intro gb384 hg w14 hbox hb; have n0_ := X1 (below_step (by repeat (first | (with_reducible first | exact HB.out | apply X5 | apply X4 | apply X3) | exact HB.out)) hb); have n1_ := X1 (hbox); have n2_ := X1 ((by rw [hg]; exact (below_size (by repeat (first | (with_reducible first | exact HB.out | apply X5 | apply X4 | apply X3) | exact HB.out))) : w.heap.size ≤ gb384)); have n3_ := X1 ((by rw [hg]; exact (below_size (by repeat (first | (with_reducible first | exact HB.out | apply X5 | apply X4 | apply X3) | exact HB.out))) : w.heap.size ≤ gb384)); clear HB; have HB := n0_; have BK384 := n1_; have GW384 := n2_; have GE384 := n3_; clear n0_ n1_ n2_ n3_; clear hb hbox hg) | ((with_reducible refine gate_callee (f := 43) rfl ?_); refine goesL_ (some 5) rfl rfl Try.func43 (by kernel_rfl) rfl #[.slice A0 l0.length c0] rfl (by (try simp only [List.map_toArray, List.map_cons, List.map_nil]); first | done | rfl | (simp only [List.length_drop, List.length_take]; rfl)) ?_; (with_reducible refine (spec_l6Open.calls _ _ l0 t385 t386 w _ ?side1 ?side2 ?side3 A2.out).mono ?_); (case side1 => repeat (first | (with_reducible first | exact HB.out | apply X5 | apply X4 | apply X3 | refine X10 ?_ GE384.out) | exact HB.out)); (case side2 => exact HR0.out); (case side3 => exact HC0.out); rintro e w15 ⟨g387, rfl, hi, hb, hb2⟩; refine ⟨_, rfl, ?_⟩; have n0_ := X1 (blk_below (g := gb384) (o := .cells #[.int .i64 0, .int .i64 0, .slice none 0 0] 29 (0, 0)) (by (with_reducible repeat (first | refine X7 ?_ _ | refine X8 ?_ | refine X6 ?_ _)); exact BK384.out) hb2); have n1_ := X1 (hb); have n2_ := X1 (hi); have n3_ := X1 (IsS60.ne_blk hi (blk_below (g := gb384) (o := .cells #[.int .i64 0, .int .i64 0, .slice none 0 0] 29 (0, 0)) (by (with_reducible repeat (first | refine X7 ?_ _ | refine X8 ?_ | refine X6 ?_ _)); exact BK384.out) hb2) (by decide)); have n4_ := X1 (Ne.symm (IsS60.ne_blk hi (blk_below (g := gb384) (o := .cells #[.int .i64 0, .int .i64 0, .slice none 0 0] 29 (0, 0)) (by (with_reducible repeat (first | refine X7 ?_ _ | refine X8 ?_ | refine X6 ?_ _)); exact BK384.out) hb2) (by decide))); clear BK384; clear HB; have BK384 := n0_; have HB := n1_; have HI387 := n2_; have NB387_384 := n3_; have NB384_387 := n4_; clear n0_ n1_ n2_ n3_ n4_; (try clear hb); (try clear hb2); (try clear hk); (try clear hi)) | ((with_reducible refine gate_callee (f := 44) rfl ?_); refine goesL_ (some 7) rfl rfl Try.func44 (by kernel_rfl) rfl #[.pointer (some ⟨g387, 0, none⟩), .int .i64 3] rfl (by (try simp only [List.map_toArray, List.map_cons, List.map_nil]); first | done | rfl | (simp only [List.length_drop, List.length_take]; rfl)) ?_; (with_reducible refine (spec_l6Rd_pick.calls k g387 t385 t386 3 t388 t389 w _ ?side1 ?side2 A3.out).mono ?_); (case side1 => repeat (first | (with_reducible first | exact HI387.out | apply IsS60.alloc | apply IsS60.drewN | apply IsS60.drew | apply IsS60.set_1 | refine IsS60.far ?_ NB387_384.out _) | exact HI387.out)); (case side2 => repeat (first | (with_reducible first | exact HB.out | apply X5 | apply X4 | apply X3 | refine X10 ?_ (IsS60.ge HI387.out) | refine X10 ?_ GE384.out) | exact HB.out)); rintro e w16 ⟨rfl, hi, hb, hk⟩; refine ⟨_, rfl, ?_⟩; have n0_ := X1 (KeepBut.blk hk (g' := gb384) (o := .cells #[.int .i64 0, .int .i64 0, .slice none 0 0] 29 (0, 0)) (by (with_reducible repeat (first | refine X7 ?_ _ | refine X8 ?_ | refine X6 ?_ _)); exact BK384.out) NB384_387.out (by simp)); have n1_ := X1 (hb); have n2_ := X1 (hi); clear BK384; clear HB; clear HI387; have BK384 := n0_; have HB := n1_; have HI387 := n2_; clear n0_ n1_ n2_; (try clear hb); (try clear hb2); (try clear hk); (try clear hi)) | ((with_reducible refine gate_callee (f := 46) rfl ?_); refine goesL_ (some 10) rfl rfl Try.func46 (by kernel_rfl) rfl #[.pointer (some ⟨g387, 0, none⟩)] rfl (by (try simp only [List.map_toArray, List.map_cons, List.map_nil]); first | done | rfl | (simp only [List.length_drop, List.length_take]; rfl)) ?_; (with_reducible refine (spec_l91Op.calls k g387 t385 t389 t390 t391 w _ ?side1 ?side2 A5.out).mono ?_); (case side1 => repeat (first | (with_reducible first | exact HI387.out | apply IsS60.alloc | apply IsS60.drewN | apply IsS60.drew | apply IsS60.set_1 | refine IsS60.far ?_ NB387_384.out _) | exact HI387.out)); (case side2 => repeat (first | (with_reducible first | exact HB.out | apply X5 | apply X4 | apply X3 | refine X10 ?_ (IsS60.ge HI387.out) | refine X10 ?_ GE384.out) | exact HB.out)); rintro e w17 ⟨rfl, hi, hb, hk⟩; refine ⟨_, rfl, ?_⟩; have n0_ := X1 (KeepBut.blk hk (g' := gb384) (o := .cells #[.int .i64 0, .int .i64 0, .slice none 0 0] 29 (0, 0)) (by (with_reducible repeat (first | refine X7 ?_ _ | refine X8 ?_ | refine X6 ?_ _)); exact BK384.out) NB384_387.out (by simp)); have n1_ := X1 (hb); have n2_ := X1 (hi); clear BK384; clear HB; clear HI387; have BK384 := n0_; have HB := n1_; have HI387 := n2_; clear n0_ n1_ n2_; (try clear hb); (try clear hb2); (try clear hk); (try clear hi)) | ((with_reducible refine gate_callee (f := 46) rfl ?_); refine goesL_ (some 12) rfl rfl Try.func46 (by kernel_rfl) rfl #[.pointer (some ⟨g387, 0, none⟩)] rfl (by (try simp only [List.map_toArray, List.map_cons, List.map_nil]); first | done | rfl | (simp only [List.length_drop, List.length_take]; rfl)) ?_; (with_reducible refine (spec_l91Op.calls k g387 t385 t391 t392 t393 w _ ?side1 ?side2 A6.out).mono ?_); (case side1 => repeat (first | (with_reducible first | exact HI387.out | apply IsS60.alloc | apply IsS60.drewN | apply IsS60.drew | apply IsS60.set_1 | refine IsS60.far ?_ NB387_384.out _) | exact HI387.out)); (case side2 => repeat (first | (with_reducible first | exact HB.out | apply X5 | apply X4 | apply X3 | refine X10 ?_ (IsS60.ge HI387.out) | refine X10 ?_ GE384.out) | exact HB.out)); rintro e w18 ⟨rfl, hi, hb, hk⟩; refine ⟨_, rfl, ?_⟩; have n0_ := X1 (KeepBut.blk hk (g' := gb384) (o := .cells #[.int .i64 0, .int .i64 0, .slice none 0 0] 29 (0, 0)) (by (with_reducible repeat (first | refine X7 ?_ _ | refine X8 ?_ | refine X6 ?_ _)); exact BK384.out) NB384_387.out (by simp)); have n1_ := X1 (hb); have n2_ := X1 (hi); clear BK384; clear HB; clear HI387; have BK384 := n0_; have HB := n1_; have HI387 := n2_; clear n0_ n1_ n2_; (try clear hb); (try clear hb2); (try clear hk); (try clear hi)) | ((with_reducible refine gate_callee (f := 44) rfl ?_); refine goesL_ (some 14) rfl rfl Try.func44 (by kernel_rfl) rfl #[.pointer (some ⟨g387, 0, none⟩), .int .i64 9] rfl (by (try simp only [List.map_toArray, List.map_cons, List.map_nil]); first | done | rfl | (simp only [List.length_drop, List.length_take]; rfl)) ?_; (with_reducible refine (spec_l6Rd_pick.calls k g387 t385 t393 9 t394 t395 w _ ?side1 ?side2 A7.out).mono ?_); (case side1 => repeat (first | (with_reducible first | exact HI387.out | apply IsS60.alloc | apply IsS60.drewN | apply IsS60.drew | apply IsS60.set_1 | refine IsS60.far ?_ NB387_384.out _) | exact HI387.out)); (case side2 => repeat (first | (with_reducible first | exact HB.out | apply X5 | apply X4 | apply X3 | refine X10 ?_ (IsS60.ge HI387.out) | refine X10 ?_ GE384.out) | exact HB.out)); rintro e w19 ⟨rfl, hi, hb, hk⟩; refine ⟨_, rfl, ?_⟩; have n0_ := X1 (KeepBut.blk hk (g' := gb384) (o := .cells #[.int .i64 0, .int .i64 0, .slice none 0 0] 29 (0, 0)) (by (with_reducible repeat (first | refine X7 ?_ _ | refine X8 ?_ | refine X6 ?_ _)); exact BK384.out) NB384_387.out (by simp)); have n1_ := X1 (hb); have n2_ := X1 (hi); clear BK384; clear HB; clear HI387; have BK384 := n0_; have HB := n1_; have HI387 := n2_; clear n0_ n1_ n2_; (try clear hb); (try clear hb2); (try clear hk); (try clear hi)) | ((with_reducible refine gate_callee (f := 47) rfl ?_); refine goesL_ (some 15) rfl rfl Try.func47 (by kernel_rfl) rfl #[.int .i64 0, .int .i64 t394] rfl (by (try simp only [List.map_toArray, List.map_cons, List.map_nil]); first | done | rfl | (simp only [List.length_drop, List.length_take]; rfl)) ?_; (with_reducible refine (spec_l4Leaf.calls 0 t394 t396 t397 t398 _ A8.out).mono ?_); rintro e w20 ⟨v399, rfl, ho0, hb⟩; refine ⟨_, rfl, ?_⟩; have n0_ := X1 (Kd.N_lower (Kd.N_mono (ok' := fun k_ => (w.heap.size ≤ k_) ∧ k_ ≠ gb384 ∧ k_ ≠ g387) (Kd.R_N (Kd.R_bound ho0)) (fun k_ hk_ => ⟨(Nat.le_trans (below_size (by repeat (first | (with_reducible first | exact HB.out | apply X5 | apply X4 | apply X3 | refine X10 ?_ (IsS60.ge HI387.out) | refine X10 ?_ GE384.out) | exact HB.out))) hk_.2.1), (Kd.freshB (g := gb384) (o := .cells #[.int .i64 0, .int .i64 0, .slice none 0 0] 29 (0, 0)) (by (with_reducible repeat (first | refine X7 ?_ _ | refine X8 ?_ | refine X6 ?_ _)); exact BK384.out) k_ hk_.2.1), (IsS60.fresh (by repeat (first | (with_reducible first | exact HI387.out | apply IsS60.alloc | apply IsS60.drewN | apply IsS60.drew | apply IsS60.set_1 | refine IsS60.far ?_ NB387_384.out _) | exact HI387.out)) k_ hk_.2.1)⟩)) (below_size (by repeat (first | (with_reducible first | exact HB.out | apply X5 | apply X4 | apply X3 | refine X10 ?_ (IsS60.ge HI387.out) | refine X10 ?_ GE384.out) | exact HB.out)))); have n1_ := X1 (blk_below (g := gb384) (o := .cells #[.int .i64 0, .int .i64 0, .slice none 0 0] 29 (0, 0)) (by (with_reducible repeat (first | refine X7 ?_ _ | refine X8 ?_ | refine X6 ?_ _)); exact BK384.out) hb); have n2_ := X1 (IsS60.below (by repeat (first | (with_reducible first | exact HI387.out | apply IsS60.alloc | apply IsS60.drewN | apply IsS60.drew | apply IsS60.set_1 | refine IsS60.far ?_ NB387_384.out _) | exact HI387.out)) hb); have n3_ := X1 (below_step (by repeat (first | (with_reducible first | exact HB.out | apply X5 | apply X4 | apply X3 | refine X10 ?_ (IsS60.ge HI387.out) | refine X10 ?_ GE384.out) | exact HB.out)) hb); clear BK384; clear HI387; clear HB; have HO400 := n0_; have BK384 := n1_; have HI387 := n2_; have HB := n3_; clear n0_ n1_ n2_ n3_; (try clear hb); (try clear hb2); (try clear hk); (try clear hi); (try clear ho0)) | ((with_reducible refine gate_callee (f := 44) rfl ?_); refine goesL_ (some 17) rfl rfl Try.func44 (by kernel_rfl) rfl #[.pointer (some ⟨g387, 0, none⟩), .int .i64 9] rfl (by (try simp only [List.map_toArray, List.map_cons, List.map_nil]); first | done | rfl | (simp only [List.length_drop, List.length_take]; rfl)) ?_; (with_reducible refine (spec_l6Rd_pick.calls k g387 t385 t395 9 t401 t402 w _ ?side1 ?side2 A9.out).mono ?_); (case side1 => repeat (first | (with_reducible first | exact HI387.out | apply IsS60.alloc | apply IsS60.drewN | apply IsS60.drew | apply IsS60.set_1 | refine IsS60.far ?_ NB387_384.out _) | exact HI387.out)); (case side2 => repeat (first | (with_reducible first | exact HB.out | apply X5 | apply X4 | apply X3 | refine X10 ?_ (IsS60.ge HI387.out) | refine X10 ?_ GE384.out) | exact HB.out)); rintro e w21 ⟨rfl, hi, hb, hk⟩; refine ⟨_, rfl, ?_⟩; have n0_ := X1 (KeepBut.blk hk (g' := gb384) (o := .cells #[.int .i64 0, .int .i64 0, .slice none 0 0] 29 (0, 0)) (by (with_reducible repeat (first | refine X7 ?_ _ | refine X8 ?_ | refine X6 ?_ _)); exact BK384.out) NB384_387.out (by simp)); have n1_ := X1 (Kd.N_mono (Kd.N_keep (Kd.N_mono (ok := fun k_ => (((w.heap.size ≤ k_)) ∧ (k_ ≠ gb384 ∧ k_ ≠ g387))) (by (with_reducible repeat (first | apply Kd.N_alloc | apply Kd.N_drewN | apply Kd.N_drew)); exact HO400.out) (fun k_ hk_ => (⟨hk_, hk_.2.2⟩ : _ ∧ k_ ≠ g387))) hk (fun _ h => h.2)) (fun _ h => h.1)); have n2_ := X1 (hb); have n3_ := X1 (hi); clear BK384; clear HO400; clear HB; clear HI387; have BK384 := n0_; have HO400 := n1_; have HB := n2_; have HI387 := n3_; clear n0_ n1_ n2_ n3_; (try clear hb); (try clear hb2); (try clear hk); (try clear hi)) | ((with_reducible refine gate_callee (f := 47) rfl ?_); refine goesL_ (some 18) rfl rfl Try.func47 (by kernel_rfl) rfl #[.int .i64 0, .int .i64 t401] rfl (by (try simp only [List.map_toArray, List.map_cons, List.map_nil]); first | done | rfl | (simp only [List.length_drop, List.length_take]; rfl)) ?_; (with_reducible refine (spec_l4Leaf.calls 0 t401 t403 t404 t405 _ A10.out).mono ?_); rintro e w22 ⟨v406, rfl, ho0, hb⟩; refine ⟨_, rfl, ?_⟩; have n0_ := X1 (Kd.N_elder' (by (with_reducible repeat (first | apply Kd.N_alloc | apply Kd.N_drewN | apply Kd.N_drew)); exact HO400.out) (by first | exact Kd.N_base ho0 | exact Kd.R_base ho0) hb); have n1_ := X1 (Kd.N_lower (Kd.N_mono (ok' := fun k_ => (w.heap.size ≤ k_) ∧ some k_ ≠ (v399 : Value).ownBlock ∧ k_ ≠ gb384 ∧ k_ ≠ g387) (Kd.R_N (Kd.R_bound ho0)) (fun k_ hk_ => ⟨(Nat.le_trans (below_size (by repeat (first | (with_reducible first | exact HB.out | apply X5 | apply X4 | apply X3 | refine X10 ?_ (IsS60.ge HI387.out) | refine X10 ?_ GE384.out) | exact HB.out))) hk_.2.1), (Kd.fresh' (Kd.N_lt (by (with_reducible repeat (first | apply Kd.N_alloc | apply Kd.N_drewN | apply Kd.N_drew)); exact HO400.out)) k_ hk_.2.1), (Kd.freshB (g := gb384) (o := .cells #[.int .i64 0, .int .i64 0, .slice none 0 0] 29 (0, 0)) (by (with_reducible repeat (first | refine X7 ?_ _ | refine X8 ?_ | refine X6 ?_ _)); exact BK384.out) k_ hk_.2.1), (IsS60.fresh (by repeat (first | (with_reducible first | exact HI387.out | apply IsS60.alloc | apply IsS60.drewN | apply IsS60.drew | apply IsS60.set_1 | refine IsS60.far ?_ NB387_384.out _) | exact HI387.out)) k_ hk_.2.1)⟩)) (below_size (by repeat (first | (with_reducible first | exact HB.out | apply X5 | apply X4 | apply X3 | refine X10 ?_ (IsS60.ge HI387.out) | refine X10 ?_ GE384.out) | exact HB.out)))); have n2_ := X1 (blk_below (g := gb384) (o := .cells #[.int .i64 0, .int .i64 0, .slice none 0 0] 29 (0, 0)) (by (with_reducible repeat (first | refine X7 ?_ _ | refine X8 ?_ | refine X6 ?_ _)); exact BK384.out) hb); have n3_ := X1 (IsS60.below (by repeat (first | (with_reducible first | exact HI387.out | apply IsS60.alloc | apply IsS60.drewN | apply IsS60.drew | apply IsS60.set_1 | refine IsS60.far ?_ NB387_384.out _) | exact HI387.out)) hb); have n4_ := X1 (below_step (by repeat (first | (with_reducible first | exact HB.out | apply X5 | apply X4 | apply X3 | refine X10 ?_ (IsS60.ge HI387.out) | refine X10 ?_ GE384.out) | exact HB.out)) hb); clear HO400; clear BK384; clear HI387; clear HB; have HO400 := n0_; have HO407 := n1_; have BK384 := n2_; have HI387 := n3_; have HB := n4_; clear n0_ n1_ n2_ n3_ n4_; (try clear hb); (try clear hb2); (try clear hk); (try clear hi); (try clear ho0); obtain ⟨Ao23, co23, eo23⟩ := Kd.N_slice HO400.out; subst eo23; obtain ⟨Ao24, co24, eo24⟩ := Kd.N_slice HO407.out; subst eo24) | ((with_reducible refine gate_callee (f := 45) rfl ?_); refine goesL_ (some 19) rfl rfl Try.func45 (by kernel_rfl) rfl #[.int .i64 t392, .agg #[.int .i64 t396, .int .i64 t397, .slice Ao23 t398.length co23], .agg #[.int .i64 t403, .int .i64 t404, .slice Ao24 t405.length co24]] rfl (by (try simp only [List.map_toArray, List.map_cons, List.map_nil]); first | done | rfl | (simp only [List.length_drop, List.length_take]; rfl)) ?_; (with_reducible refine (spec_l4Both.calls t392 t396 t397 (fun k_ => (((w.heap.size ≤ k_) ∧ (k_ ≠ gb384 ∧ k_ ≠ g387)) ∧ some k_ ≠ (.slice Ao24 t405.length co24 : Value).ownBlock)) _ _ t398 t403 t404 (fun k_ => ((w.heap.size ≤ k_) ∧ (some k_ ≠ (.slice Ao23 t398.length co23 : Value).ownBlock ∧ (k_ ≠ gb384 ∧ k_ ≠ g387)))) _ _ t405 t408 t409 t410 _ ?side1 ?side2 A11.out).mono ?_); (case side1 => exact Kd.N_V (HO400.out)); (case side2 => exact Kd.N_V (HO407.out)); rintro e w25 ⟨v411, rfl, ho0, hb⟩; refine ⟨_, rfl, ?_⟩; have n0_ := X1 (Kd.N_elder' (by (with_reducible repeat (first | apply Kd.N_alloc | apply Kd.N_drewN | apply Kd.N_drew)); exact HO400.out) (by first | exact Kd.N_base ho0 | exact Kd.R_base ho0) hb); have n1_ := X1 (Kd.N_elder' (by (with_reducible repeat (first | apply Kd.N_alloc | apply Kd.N_drewN | apply Kd.N_drew)); exact HO407.out) (by first | exact Kd.N_base ho0 | exact Kd.R_base ho0) hb); have n2_ := X1 (Kd.N_lower (Kd.N_mono (ok' := fun k_ => (w.heap.size ≤ k_) ∧ k_ ≠ gb384 ∧ k_ ≠ g387) ho0 (fun k_ hk_ => ⟨Or.elim hk_ (fun hs_ => Or.elim hs_ (fun hs_ => hs_.1.1) (fun hs_ => hs_.1)) (fun hn_ => (Nat.le_trans (below_size (by repeat (first | (with_reducible first | exact HB.out | apply X5 | apply X4 | apply X3 | refine X10 ?_ (IsS60.ge HI387.out) | refine X10 ?_ GE384.out) | exact HB.out))) hn_)), Or.elim hk_ (fun hs_ => Or.elim hs_ (fun hs_ => hs_.1.2.1) (fun hs_ => hs_.2.2.1)) (fun hn_ => (Kd.freshB (g := gb384) (o := .cells #[.int .i64 0, .int .i64 0, .slice none 0 0] 29 (0, 0)) (by (with_reducible repeat (first | refine X7 ?_ _ | refine X8 ?_ | refine X6 ?_ _)); exact BK384.out) k_ hn_)), Or.elim hk_ (fun hs_ => Or.elim hs_ (fun hs_ => hs_.1.2.2) (fun hs_ => hs_.2.2.2)) (fun hn_ => (IsS60.fresh (by repeat (first | (with_reducible first | exact HI387.out | apply IsS60.alloc | apply IsS60.drewN | apply IsS60.drew | apply IsS60.set_1 | refine IsS60.far ?_ NB387_384.out _) | exact HI387.out)) k_ hn_))⟩)) (below_size (by repeat (first | (with_reducible first | exact HB.out | apply X5 | apply X4 | apply X3 | refine X10 ?_ (IsS60.ge HI387.out) | refine X10 ?_ GE384.out) | exact HB.out)))); have n3_ := X1 (blk_below (g := gb384) (o := .cells #[.int .i64 0, .int .i64 0, .slice none 0 0] 29 (0, 0)) (by (with_reducible repeat (first | refine X7 ?_ _ | refine X8 ?_ | refine X6 ?_ _)); exact BK384.out) hb); have n4_ := X1 (IsS60.below (by repeat (first | (with_reducible first | exact HI387.out | apply IsS60.alloc | apply IsS60.drewN | apply IsS60.drew | apply IsS60.set_1 | refine IsS60.far ?_ NB387_384.out _) | exact HI387.out)) hb); have n5_ := X1 (below_step (by repeat (first | (with_reducible first | exact HB.out | apply X5 | apply X4 | apply X3 | refine X10 ?_ (IsS60.ge HI387.out) | refine X10 ?_ GE384.out) | exact HB.out)) hb); clear HO400; clear HO407; clear BK384; clear HI387; clear HB; have HO400 := n0_; have HO407 := n1_; have HO412 := n2_; have BK384 := n3_; have HI387 := n4_; have HB := n5_; clear n0_ n1_ n2_ n3_ n4_ n5_; (try clear hb); (try clear hb2); (try clear hk); (try clear hi); (try clear ho0)) | ((with_reducible refine gate_callee (f := 48) rfl ?_); refine goesL_ (some 21) rfl rfl Try.func48 (by kernel_rfl) rfl #[.pointer (some ⟨g387, 0, none⟩)] rfl (by (try simp only [List.map_toArray, List.map_cons, List.map_nil]); first | done | rfl | (simp only [List.length_drop, List.length_take]; rfl)) ?_; (with_reducible refine (spec_l91Leaf.calls k g387 t385 t402 t413 t414 t415 t418 w _ ?side1 ?side2 A12.out).mono ?_); (case side1 => repeat (first | (with_reducible first | exact HI387.out | apply IsS60.alloc | apply IsS60.drewN | apply IsS60.drew | apply IsS60.set_1 | refine IsS60.far ?_ NB387_384.out _) | exact HI387.out)); (case side2 => repeat (first | (with_reducible first | exact HB.out | apply X5 | apply X4 | apply X3 | refine X10 ?_ (IsS60.ge HI387.out) | refine X10 ?_ GE384.out) | exact HB.out)); rintro e w26 ⟨v416, rfl, ho0, hi, hb, hk⟩; refine ⟨_, rfl, ?_⟩; have n0_ := X1 (KeepBut.blk hk (g' := gb384) (o := .cells #[.int .i64 0, .int .i64 0, .slice none 0 0] 29 (0, 0)) (by (with_reducible repeat (first | refine X7 ?_ _ | refine X8 ?_ | refine X6 ?_ _)); exact BK384.out) NB384_387.out (by simp)); have n1_ := X1 (Kd.N_mono (Kd.N_told (Kd.N_oldK (Kd.N_mono (ok := fun k_ => (((((w.heap.size ≤ k_)) ∧ (k_ ≠ gb384 ∧ k_ ≠ g387)) ∧ some k_ ≠ (.slice Ao24 t405.length co24 : Value).ownBlock) ∧ some k_ ≠ (v411 : Value).ownBlock)) (by (with_reducible repeat (first | apply Kd.N_alloc | apply Kd.N_drewN | apply Kd.N_drew)); exact HO400.out) (fun k_ hk_ => (⟨hk_, hk_.1.1.2.2⟩ : _ ∧ k_ ≠ g387))) hk) (by first | exact Kd.N_base ho0 | exact Kd.R_base ho0)) (fun _ h_ => h_.1)); have n2_ := X1 (Kd.N_mono (Kd.N_told (Kd.N_oldK (Kd.N_mono (ok := fun k_ => ((((w.heap.size ≤ k_)) ∧ (some k_ ≠ (.slice Ao23 t398.length co23 : Value).ownBlock ∧ (k_ ≠ gb384 ∧ k_ ≠ g387))) ∧ some k_ ≠ (v411 : Value).ownBlock)) (by (with_reducible repeat (first | apply Kd.N_alloc | apply Kd.N_drewN | apply Kd.N_drew)); exact HO407.out) (fun k_ hk_ => (⟨hk_, hk_.1.2.2.2⟩ : _ ∧ k_ ≠ g387))) hk) (by first | exact Kd.N_base ho0 | exact Kd.R_base ho0)) (fun _ h_ => h_.1)); have n3_ := X1 (Kd.N_mono (Kd.N_told (Kd.N_oldK (Kd.N_mono (ok := fun k_ => (((w.heap.size ≤ k_)) ∧ (k_ ≠ gb384 ∧ k_ ≠ g387))) (by (with_reducible repeat (first | apply Kd.N_alloc | apply Kd.N_drewN | apply Kd.N_drew)); exact HO412.out) (fun k_ hk_ => (⟨hk_, hk_.2.2⟩ : _ ∧ k_ ≠ g387))) hk) (by first | exact Kd.N_base ho0 | exact Kd.R_base ho0)) (fun _ h_ => h_.1)); have n4_ := X1 (Kd.N_lower (Kd.N_mono (ok' := fun k_ => (w.heap.size ≤ k_) ∧ some k_ ≠ (.slice Ao23 t398.length co23 : Value).ownBlock ∧ some k_ ≠ (.slice Ao24 t405.length co24 : Value).ownBlock ∧ some k_ ≠ (v411 : Value).ownBlock ∧ k_ ≠ gb384 ∧ k_ ≠ g387) (Kd.R_N (Kd.R_bound ho0)) (fun k_ hk_ => ⟨(Nat.le_trans (below_size (by repeat (first | (with_reducible first | exact HB.out | apply X5 | apply X4 | apply X3 | refine X10 ?_ (IsS60.ge HI387.out) | refine X10 ?_ GE384.out) | exact HB.out))) hk_.2.1), (Kd.fresh' (Kd.N_lt (by (with_reducible repeat (first | apply Kd.N_alloc | apply Kd.N_drewN | apply Kd.N_drew)); exact HO400.out)) k_ hk_.2.1), (Kd.fresh' (Kd.N_lt (by (with_reducible repeat (first | apply Kd.N_alloc | apply Kd.N_drewN | apply Kd.N_drew)); exact HO407.out)) k_ hk_.2.1), (Kd.fresh' (Kd.N_lt (by (with_reducible repeat (first | apply Kd.N_alloc | apply Kd.N_drewN | apply Kd.N_drew)); exact HO412.out)) k_ hk_.2.1), (Kd.freshB (g := gb384) (o := .cells #[.int .i64 0, .int .i64 0, .slice none 0 0] 29 (0, 0)) (by (with_reducible repeat (first | refine X7 ?_ _ | refine X8 ?_ | refine X6 ?_ _)); exact BK384.out) k_ hk_.2.1), (IsS60.fresh (by repeat (first | (with_reducible first | exact HI387.out | apply IsS60.alloc | apply IsS60.drewN | apply IsS60.drew | apply IsS60.set_1 | refine IsS60.far ?_ NB387_384.out _) | exact HI387.out)) k_ hk_.2.1)⟩)) (below_size (by repeat (first | (with_reducible first | exact HB.out | apply X5 | apply X4 | apply X3 | refine X10 ?_ (IsS60.ge HI387.out) | refine X10 ?_ GE384.out) | exact HB.out)))); have n5_ := X1 (hb); have n6_ := X1 (hi); clear BK384; clear HO400; clear HO407; clear HO412; clear HB; clear HI387; have BK384 := n0_; have HO400 := n1_; have HO407 := n2_; have HO412 := n3_; have HO417 := n4_; have HB := n5_; have HI387 := n6_; clear n0_ n1_ n2_ n3_ n4_ n5_ n6_; (try clear hb); (try clear hb2); (try clear hk); (try clear hi); (try clear ho0); obtain ⟨Ao27, co27, eo27⟩ := Kd.N_slice HO412.out; subst eo27; obtain ⟨Ao28, co28, eo28⟩ := Kd.N_slice HO417.out; subst eo28) | ((with_reducible refine gate_callee (f := 45) rfl ?_); refine goesL_ (some 22) rfl rfl Try.func45 (by kernel_rfl) rfl #[.int .i64 t390, .agg #[.int .i64 t408, .int .i64 t409, .slice Ao27 t410.length co27], .agg #[.int .i64 t413, .int .i64 t414, .slice Ao28 t415.length co28]] rfl (by (try simp only [List.map_toArray, List.map_cons, List.map_nil]); first | done | rfl | (simp only [List.length_drop, List.length_take]; rfl)) ?_; (with_reducible refine (spec_l4Both.calls t390 t408 t409 (fun k_ => (((w.heap.size ≤ k_) ∧ (k_ ≠ gb384 ∧ k_ ≠ g387)) ∧ some k_ ≠ (.slice Ao28 t415.length co28 : Value).ownBlock)) _ _ t410 t413 t414 (fun k_ => ((w.heap.size ≤ k_) ∧ (some k_ ≠ (.slice Ao23 t398.length co23 : Value).ownBlock ∧ (some k_ ≠ (.slice Ao24 t405.length co24 : Value).ownBlock ∧ (some k_ ≠ (.slice Ao27 t410.length co27 : Value).ownBlock ∧ (k_ ≠ gb384 ∧ k_ ≠ g387)))))) _ _ t415 t419 t420 t421 _ ?side1 ?side2 A13.out).mono ?_); (case side1 => exact Kd.N_V (HO412.out)); (case side2 => exact Kd.N_V (HO417.out)); rintro e w29 ⟨v422, rfl, ho0, hb⟩; refine ⟨_, rfl, ?_⟩; have n0_ := X1 (Kd.N_elder' (by (with_reducible repeat (first | apply Kd.N_alloc | apply Kd.N_drewN | apply Kd.N_drew)); exact HO400.out) (by first | exact Kd.N_base ho0 | exact Kd.R_base ho0) hb); have n1_ := X1 (Kd.N_elder' (by (with_reducible repeat (first | apply Kd.N_alloc | apply Kd.N_drewN | apply Kd.N_drew)); exact HO407.out) (by first | exact Kd.N_base ho0 | exact Kd.R_base ho0) hb); have n2_ := X1 (Kd.N_elder' (by (with_reducible repeat (first | apply Kd.N_alloc | apply Kd.N_drewN | apply Kd.N_drew)); exact HO412.out) (by first | exact Kd.N_base ho0 | exact Kd.R_base ho0) hb); have n3_ := X1 (Kd.N_elder' (by (with_reducible repeat (first | apply Kd.N_alloc | apply Kd.N_drewN | apply Kd.N_drew)); exact HO417.out) (by first | exact Kd.N_base ho0 | exact Kd.R_base ho0) hb); have n4_ := X1 (Kd.N_lower (Kd.N_mono (ok' := fun k_ => (w.heap.size ≤ k_) ∧ k_ ≠ gb384 ∧ k_ ≠ g387) ho0 (fun k_ hk_ => ⟨Or.elim hk_ (fun hs_ => Or.elim hs_ (fun hs_ => hs_.1.1) (fun hs_ => hs_.1)) (fun hn_ => (Nat.le_trans (below_size (by repeat (first | (with_reducible first | exact HB.out | apply X5 | apply X4 | apply X3 | refine X10 ?_ (IsS60.ge HI387.out) | refine X10 ?_ GE384.out) | exact HB.out))) hn_)), Or.elim hk_ (fun hs_ => Or.elim hs_ (fun hs_ => hs_.1.2.1) (fun hs_ => hs_.2.2.2.2.1)) (fun hn_ => (Kd.freshB (g := gb384) (o := .cells #[.int .i64 0, .int .i64 0, .slice none 0 0] 29 (0, 0)) (by (with_reducible repeat (first | refine X7 ?_ _ | refine X8 ?_ | refine X6 ?_ _)); exact BK384.out) k_ hn_)), Or.elim hk_ (fun hs_ => Or.elim hs_ (fun hs_ => hs_.1.2.2) (fun hs_ => hs_.2.2.2.2.2)) (fun hn_ => (IsS60.fresh (by repeat (first | (with_reducible first | exact HI387.out | apply IsS60.alloc | apply IsS60.drewN | apply IsS60.drew | apply IsS60.set_1 | refine IsS60.far ?_ NB387_384.out _) | exact HI387.out)) k_ hn_))⟩)) (below_size (by repeat (first | (with_reducible first | exact HB.out | apply X5 | apply X4 | apply X3 | refine X10 ?_ (IsS60.ge HI387.out) | refine X10 ?_ GE384.out) | exact HB.out)))); have n5_ := X1 (blk_below (g := gb384) (o := .cells #[.int .i64 0, .int .i64 0, .slice none 0 0] 29 (0, 0)) (by (with_reducible repeat (first | refine X7 ?_ _ | refine X8 ?_ | refine X6 ?_ _)); exact BK384.out) hb); have n6_ := X1 (IsS60.below (by repeat (first | (with_reducible first | exact HI387.out | apply IsS60.alloc | apply IsS60.drewN | apply IsS60.drew | apply IsS60.set_1 | refine IsS60.far ?_ NB387_384.out _) | exact HI387.out)) hb); have n7_ := X1 (below_step (by repeat (first | (with_reducible first | exact HB.out | apply X5 | apply X4 | apply X3 | refine X10 ?_ (IsS60.ge HI387.out) | refine X10 ?_ GE384.out) | exact HB.out)) hb); clear HO400; clear HO407; clear HO412; clear HO417; clear BK384; clear HI387; clear HB; have HO400 := n0_; have HO407 := n1_; have HO412 := n2_; have HO417 := n3_; have HO423 := n4_; have BK384 := n5_; have HI387 := n6_; have HB := n7_; clear n0_ n1_ n2_ n3_ n4_ n5_ n6_ n7_; (try clear hb); (try clear hb2); (try clear hk); (try clear hi); (try clear ho0); have hnb30 := NB384_387.out; have hnc30 := NB387_384.out; have hcz31_0 : w29.cell? ⟨gb384, 0, none⟩ = some (.int .i64 0) := (X11 BK384.out 0).trans rfl; have hcz31_1 : w29.cell? ⟨gb384, 1, none⟩ = some (.int .i64 0) := (X11 BK384.out 1).trans rfl; have hcz31_2 : w29.cell? ⟨gb384, 2, none⟩ = some (.slice none 0 0) := (X11 BK384.out 2).trans rfl; have hfz31_0 := X12 BK384.out 0; have hfz31_1 := X12 BK384.out 1; have hfz31_2 := X12 BK384.out 2; obtain ⟨Ao32, co32, eo32⟩ := Kd.N_slice HO423.out; subst eo32))
  refine bodyPost_ret (results_cell_row rfl _ _ gb384 29 #[.int .i64 t419, .int .i64 t420, .slice Ao32 t421.length co32] (0, 0) _ rfl (by (with_reducible repeat (first | refine X7 ?_ _ | refine X8 ?_ | refine X6 ?_ _)); refine blk_put (cs := #[.int .i64 t419, .int .i64 t420, .slice none 0 0]) ?_ 2 _ rfl; (with_reducible repeat (first | refine X7 ?_ _ | refine X8 ?_ | refine X6 ?_ _)); refine blk_put (cs := #[.int .i64 t419, .int .i64 0, .slice none 0 0]) ?_ 1 _ rfl; (with_reducible repeat (first | refine X7 ?_ _ | refine X8 ?_ | refine X6 ?_ _)); refine blk_put (cs := #[.int .i64 0, .int .i64 0, .slice none 0 0]) ?_ 0 _ rfl; (with_reducible repeat (first | refine X7 ?_ _ | refine X8 ?_ | refine X6 ?_ _)); exact BK384.out) Try.underlying29 rfl (by kernel_rfl)) rfl ?_
  exact ⟨_, by first | rfl | (simp [errW_none, errW_some] <;> rfl) | (simp [*, errW_none, errW_some] <;> rfl), by (with_reducible repeat (first | apply Kd.N_alloc | apply Kd.N_drewN | apply Kd.N_drew)); exact Kd.N_mono (Kd.N_far (p := ⟨gb384, 2, none⟩) (Kd.N_far (p := ⟨gb384, 1, none⟩) (Kd.N_far (p := ⟨gb384, 0, none⟩) (Kd.N_mono HO423.out (fun k_ hk => (⟨hk, hk.2.1⟩ : _ ∧ k_ ≠ gb384))) (fun _ hk => hk.2) (.int .i64 t419)) (fun _ hk => hk.2) (.int .i64 t420)) (fun _ hk => hk.2) (.slice Ao32 t421.length co32)) (fun _ hk => hk.1.1), by repeat (first | (with_reducible first | exact HB.out | apply X5 | apply X4 | apply X3 | refine X10 ?_ (IsS60.ge HI387.out) | refine X10 ?_ GE384.out) | exact HB.out)⟩
 ·rw [if_neg c4] at H
  have c4b0 : (t388 == 0) = false := beq_eq_false_iff_ne.mpr c4
  have c4b1 : (t388 != 0) = true := bne_iff_ne.mpr c4
  replace H := X2 H
  obtain ⟨⟨t424, t425, t426, t429⟩, A330, H⟩ := H
  replace H : (some (t424, t425, t426)) = some (r1, r2, r3) := H
  have A33 := X1 A330
  clear A330
  simp only [Option.some.injEq, Prod.mk.injEq] at H
  obtain ⟨rfl, rfl, rfl⟩ := H
  go_enter Try.func26, Try.ntmps26
  go_wp2_with (first | ((with_reducible refine gate_dst (N := 2) rfl ?_); refine box_event ?hg (N := 2) ?hd (cs := #[.int .i64 0, .int .i64 0, .slice none 0 0]) (t := 29) ?hr ?_; (case hd => rfl); (case hg => rfl); (case hr => first | (go_simp; done) | (go_simp; rfl)); intro gb384 hg w34 hbox hb; have n0_ := X1 (below_step (by repeat (first | (with_reducible first | exact HB.out | apply X5 | apply X4 | apply X3) | exact HB.out)) hb); have n1_ := X1 (hbox); have n2_ := X1 ((by rw [hg]; exact (below_size (by repeat (first | (with_reducible first | exact HB.out | apply X5 | apply X4 | apply X3) | exact HB.out))) : w.heap.size ≤ gb384)); have n3_ := X1 ((by rw [hg]; exact (below_size (by repeat (first | (with_reducible first | exact HB.out | apply X5 | apply X4 | apply X3) | exact HB.out))) : w.heap.size ≤ gb384)); clear HB; have HB := n0_; have BK384 := n1_; have GW384 := n2_; have GE384 := n3_; clear n0_ n1_ n2_ n3_; clear hb hbox hg) | ((with_reducible refine gate_callee (f := 43) rfl ?_); refine goesL_ (some 5) rfl rfl Try.func43 (by kernel_rfl) rfl #[.slice A0 l0.length c0] rfl (by (try simp only [List.map_toArray, List.map_cons, List.map_nil]); first | done | rfl | (simp only [List.length_drop, List.length_take]; rfl)) ?_; (with_reducible refine (spec_l6Open.calls _ _ l0 t385 t386 w _ ?side1 ?side2 ?side3 A2.out).mono ?_); (case side1 => repeat (first | (with_reducible first | exact HB.out | apply X5 | apply X4 | apply X3 | refine X10 ?_ GE384.out) | exact HB.out)); (case side2 => exact HR0.out); (case side3 => exact HC0.out); rintro e w35 ⟨g387, rfl, hi, hb, hb2⟩; refine ⟨_, rfl, ?_⟩; have n0_ := X1 (blk_below (g := gb384) (o := .cells #[.int .i64 0, .int .i64 0, .slice none 0 0] 29 (0, 0)) (by (with_reducible repeat (first | refine X7 ?_ _ | refine X8 ?_ | refine X6 ?_ _)); exact BK384.out) hb2); have n1_ := X1 (hb); have n2_ := X1 (hi); have n3_ := X1 (IsS60.ne_blk hi (blk_below (g := gb384) (o := .cells #[.int .i64 0, .int .i64 0, .slice none 0 0] 29 (0, 0)) (by (with_reducible repeat (first | refine X7 ?_ _ | refine X8 ?_ | refine X6 ?_ _)); exact BK384.out) hb2) (by decide)); have n4_ := X1 (Ne.symm (IsS60.ne_blk hi (blk_below (g := gb384) (o := .cells #[.int .i64 0, .int .i64 0, .slice none 0 0] 29 (0, 0)) (by (with_reducible repeat (first | refine X7 ?_ _ | refine X8 ?_ | refine X6 ?_ _)); exact BK384.out) hb2) (by decide))); clear BK384; clear HB; have BK384 := n0_; have HB := n1_; have HI387 := n2_; have NB387_384 := n3_; have NB384_387 := n4_; clear n0_ n1_ n2_ n3_ n4_; (try clear hb); (try clear hb2); (try clear hk); (try clear hi)) | ((with_reducible refine gate_callee (f := 44) rfl ?_); refine goesL_ (some 7) rfl rfl Try.func44 (by kernel_rfl) rfl #[.pointer (some ⟨g387, 0, none⟩), .int .i64 3] rfl (by (try simp only [List.map_toArray, List.map_cons, List.map_nil]); first | done | rfl | (simp only [List.length_drop, List.length_take]; rfl)) ?_; (with_reducible refine (spec_l6Rd_pick.calls k g387 t385 t386 3 t388 t389 w _ ?side1 ?side2 A3.out).mono ?_); (case side1 => repeat (first | (with_reducible first | exact HI387.out | apply IsS60.alloc | apply IsS60.drewN | apply IsS60.drew | apply IsS60.set_1 | refine IsS60.far ?_ NB387_384.out _) | exact HI387.out)); (case side2 => repeat (first | (with_reducible first | exact HB.out | apply X5 | apply X4 | apply X3 | refine X10 ?_ (IsS60.ge HI387.out) | refine X10 ?_ GE384.out) | exact HB.out)); rintro e w36 ⟨rfl, hi, hb, hk⟩; refine ⟨_, rfl, ?_⟩; have n0_ := X1 (KeepBut.blk hk (g' := gb384) (o := .cells #[.int .i64 0, .int .i64 0, .slice none 0 0] 29 (0, 0)) (by (with_reducible repeat (first | refine X7 ?_ _ | refine X8 ?_ | refine X6 ?_ _)); exact BK384.out) NB384_387.out (by simp)); have n1_ := X1 (hb); have n2_ := X1 (hi); clear BK384; clear HB; clear HI387; have BK384 := n0_; have HB := n1_; have HI387 := n2_; clear n0_ n1_ n2_; (try clear hb); (try clear hb2); (try clear hk); (try clear hi)) | ((with_reducible refine gate_callee (f := 42) rfl ?_); refine goesL_ (some 24) rfl rfl Try.func42 (by kernel_rfl) rfl #[.pointer (some ⟨g387, 0, none⟩)] rfl (by (try simp only [List.map_toArray, List.map_cons, List.map_nil]); first | done | rfl | (simp only [List.length_drop, List.length_take]; rfl)) ?_; (with_reducible refine (spec_l91Spoilt.calls k g387 t385 t389 t424 t425 t426 t429 w _ ?side1 ?side2 A33.out).mono ?_); (case side1 => repeat (first | (with_reducible first | exact HI387.out | apply IsS60.alloc | apply IsS60.drewN | apply IsS60.drew | apply IsS60.set_1 | refine IsS60.far ?_ NB387_384.out _) | exact HI387.out)); (case side2 => repeat (first | (with_reducible first | exact HB.out | apply X5 | apply X4 | apply X3 | refine X10 ?_ (IsS60.ge HI387.out) | refine X10 ?_ GE384.out) | exact HB.out)); rintro e w37 ⟨v427, rfl, ho0, hi, hb, hk⟩; refine ⟨_, rfl, ?_⟩; have n0_ := X1 (KeepBut.blk hk (g' := gb384) (o := .cells #[.int .i64 0, .int .i64 0, .slice none 0 0] 29 (0, 0)) (by (with_reducible repeat (first | refine X7 ?_ _ | refine X8 ?_ | refine X6 ?_ _)); exact BK384.out) NB384_387.out (by simp)); have n1_ := X1 (Kd.N_lower (Kd.N_mono (ok' := fun k_ => (w.heap.size ≤ k_) ∧ k_ ≠ gb384 ∧ k_ ≠ g387) ho0 (fun k_ hk_ => ⟨(Nat.le_trans (below_size (by repeat (first | (with_reducible first | exact HB.out | apply X5 | apply X4 | apply X3 | refine X10 ?_ (IsS60.ge HI387.out) | refine X10 ?_ GE384.out) | exact HB.out))) hk_), (Kd.freshB (g := gb384) (o := .cells #[.int .i64 0, .int .i64 0, .slice none 0 0] 29 (0, 0)) (by (with_reducible repeat (first | refine X7 ?_ _ | refine X8 ?_ | refine X6 ?_ _)); exact BK384.out) k_ hk_), (IsS60.fresh (by repeat (first | (with_reducible first | exact HI387.out | apply IsS60.alloc | apply IsS60.drewN | apply IsS60.drew | apply IsS60.set_1 | refine IsS60.far ?_ NB387_384.out _) | exact HI387.out)) k_ hk_)⟩)) (below_size (by repeat (first | (with_reducible first | exact HB.out | apply X5 | apply X4 | apply X3 | refine X10 ?_ (IsS60.ge HI387.out) | refine X10 ?_ GE384.out) | exact HB.out)))); have n2_ := X1 (hb); have n3_ := X1 (hi); clear BK384; clear HB; clear HI387; have BK384 := n0_; have HO428 := n1_; have HB := n2_; have HI387 := n3_; clear n0_ n1_ n2_ n3_; (try clear hb); (try clear hb2); (try clear hk); (try clear hi); (try clear ho0); have hnb38 := NB384_387.out; have hnc38 := NB387_384.out; have hcz39_0 : w37.cell? ⟨gb384, 0, none⟩ = some (.int .i64 0) := (X11 BK384.out 0).trans rfl; have hcz39_1 : w37.cell? ⟨gb384, 1, none⟩ = some (.int .i64 0) := (X11 BK384.out 1).trans rfl; have hcz39_2 : w37.cell? ⟨gb384, 2, none⟩ = some (.slice none 0 0) := (X11 BK384.out 2).trans rfl; have hfz39_0 := X12 BK384.out 0; have hfz39_1 := X12 BK384.out 1; have hfz39_2 := X12 BK384.out 2; obtain ⟨Ao40, co40, eo40⟩ := Kd.N_slice HO428.out; subst eo40))
  refine bodyPost_ret (results_cell_row rfl _ _ gb384 29 #[.int .i64 t424, .int .i64 t425, .slice Ao40 t426.length co40] (0, 0) _ rfl (by (with_reducible repeat (first | refine X7 ?_ _ | refine X8 ?_ | refine X6 ?_ _)); refine blk_put (cs := #[.int .i64 t424, .int .i64 t425, .slice none 0 0]) ?_ 2 _ rfl; (with_reducible repeat (first | refine X7 ?_ _ | refine X8 ?_ | refine X6 ?_ _)); refine blk_put (cs := #[.int .i64 t424, .int .i64 0, .slice none 0 0]) ?_ 1 _ rfl; (with_reducible repeat (first | refine X7 ?_ _ | refine X8 ?_ | refine X6 ?_ _)); refine blk_put (cs := #[.int .i64 0, .int .i64 0, .slice none 0 0]) ?_ 0 _ rfl; (with_reducible repeat (first | refine X7 ?_ _ | refine X8 ?_ | refine X6 ?_ _)); exact BK384.out) Try.underlying29 rfl (by kernel_rfl)) rfl ?_
  exact ⟨_, by first | rfl | (simp [errW_none, errW_some] <;> rfl) | (simp [*, errW_none, errW_some] <;> rfl), by (with_reducible repeat (first | apply Kd.N_alloc | apply Kd.N_drewN | apply Kd.N_drew)); exact Kd.N_mono (Kd.N_far (p := ⟨gb384, 2, none⟩) (Kd.N_far (p := ⟨gb384, 1, none⟩) (Kd.N_far (p := ⟨gb384, 0, none⟩) (Kd.N_mono HO428.out (fun k_ hk => (⟨hk, hk.2.1⟩ : _ ∧ k_ ≠ gb384))) (fun _ hk => hk.2) (.int .i64 t424)) (fun _ hk => hk.2) (.int .i64 t425)) (fun _ hk => hk.2) (.slice Ao40 t426.length co40)) (fun _ hk => hk.1.1), by repeat (first | (with_reducible first | exact HB.out | apply X5 | apply X4 | apply X3 | refine X10 ?_ (IsS60.ge HI387.out) | refine X10 ?_ GE384.out) | exact HB.out)⟩

/-! ### impl_truth: function 58 -/
def impl_truth.f (a0 : Bool) : Option (Int) := if a0 = true then (some 1) else (some 0)
set_option maxHeartbeats 8000000 in
set_option maxRecDepth 100000 in
theorem impl_truth.calls (a0 : Bool) (r : Int) (w : World) (h : impl_truth.f a0 = some r) :
  Calls Try.prog 58 #[.bool a0] w fun e w' => e = .returned (.int .i64 r) ∧ Drawn0 w w' := by
 have H : (if a0 = true then (some 1) else (some 0)) = some r := h
 clear h
 by_cases c2 : a0 = true
 ·subst c2
  have H1 : (some 1) = some r := by rw [if_pos rfl] at H; exact H
  clear H
  have H := H1
  clear H1
  obtain rfl := Option.some.inj H
  go_enter Try.func58, Try.ntmps58
  go_wp2
  go_ret
  exact ⟨by first | rfl | (simp; done) | (simp [*]; done), by repeat (first | exact Drawn0.refl _ | apply Drawn0.step)⟩
 ·replace c2 := Bool.eq_false_iff.mpr c2
  subst c2
  have H1 : (some 0) = some r := by rw [if_neg (show ¬ (false = true) by decide)] at H; exact H
  clear H
  have H := H1
  clear H1
  obtain rfl := Option.some.inj H
  go_enter Try.func58, Try.ntmps58
  go_wp2
  go_ret
  exact ⟨by first | rfl | (simp; done) | (simp [*]; done), by repeat (first | exact Drawn0.refl _ | apply Drawn0.step)⟩

/-! ### impl_Wrap: function 59 -/
def impl_Wrap.f (a0 : Int) : Option (Int) := some (wrap64 (wrap32 (a0)))
set_option maxHeartbeats 8000000 in
set_option maxRecDepth 100000 in
theorem impl_Wrap.calls (a0 : Int) (r : Int) (w : World) (h : impl_Wrap.f a0 = some r) :
  Calls Try.prog 59 #[.int .i64 a0] w fun e w' => e = .returned (.int .i64 r) ∧ Drawn0 w w' := by
 have H : (some (wrap64 (wrap32 (a0)))) = some r := h
 clear h
 obtain rfl := Option.some.inj H
 go_enter Try.func59, Try.ntmps59
 go_wp2
 go_ret
 exact ⟨by first | rfl | (simp; done) | (simp [*]; done), by repeat (first | exact Drawn0.refl _ | apply Drawn0.step)⟩

/-! ### impl_apply: function 53 -/
def impl_apply.f (a0 : Int) (a1 : Int) (a2 : Int) : Option (Int) := if a0 = 1 then (some (Go.bits .or .i64 a1 a2)) else (if a0 = 2 then (some (Go.bits .xor .i64 a1 a2)) else (if a0 = 3 then (some (Go.bits .and .i64 a1 a2)) else (if a0 = 4 then ((impl_truth.f (a1 == a2)).bind fun t430 => (some t430)) else (if a0 = 5 then ((impl_truth.f (decide (a1 < a2))).bind fun t431 => (some t431)) else (if a0 = 6 then (if 0 ≤ (Go.bits .and .i64 a2 31) then ((impl_Wrap.f (shl .i64 a1 (Go.bits .and .i64 a2 31))).bind fun t432 => (some t432)) else (none)) else (if a0 = 7 then (if 0 ≤ (Go.bits .and .i64 a2 31) then (some (shr .i64 a1 (Go.bits .and .i64 a2 31))) else (none)) else (if a0 = 8 then ((impl_Wrap.f (wrap64 (a1 + a2))).bind fun t433 => (some t433)) else (if a0 = 9 then ((impl_Wrap.f (wrap64 (a1 - a2))).bind fun t434 => (some t434)) else (if a0 = 10 then ((impl_Wrap.f (wrap64 (a1 * a2))).bind fun t435 => (some t435)) else (if a0 = 11 then (if a2 = 0 then (some (-1)) else ((impl_Wrap.f (wrap64 (Int.tdiv a1 a2))).bind fun t436 => (some t436))) else (if a2 = 0 then (some a1) else (some (Int.tmod a1 a2)))))))))))))
set_option maxHeartbeats 8000000 in
set_option maxRecDepth 100000 in
theorem impl_apply.calls (a0 : Int) (a1 : Int) (a2 : Int) (r : Int) (w : World) (h : impl_apply.f a0 a1 a2 = some r) :
  Calls Try.prog 53 #[.int .i64 a0, .int .i64 a1, .int .i64 a2] w fun e w' => e = .returned (.int .i64 r) ∧ Drawn0 w w' := by
 have H : (if a0 = 1 then (some (Go.bits .or .i64 a1 a2)) else (if a0 = 2 then (some (Go.bits .xor .i64 a1 a2)) else (if a0 = 3 then (some (Go.bits .and .i64 a1 a2)) else (if a0 = 4 then ((impl_truth.f (a1 == a2)).bind fun t430 => (some t430)) else (if a0 = 5 then ((impl_truth.f (decide (a1 < a2))).bind fun t431 => (some t431)) else (if a0 = 6 then (if 0 ≤ (Go.bits .and .i64 a2 31) then ((impl_Wrap.f (shl .i64 a1 (Go.bits .and .i64 a2 31))).bind fun t432 => (some t432)) else (none)) else (if a0 = 7 then (if 0 ≤ (Go.bits .and .i64 a2 31) then (some (shr .i64 a1 (Go.bits .and .i64 a2 31))) else (none)) else (if a0 = 8 then ((impl_Wrap.f (wrap64 (a1 + a2))).bind fun t433 => (some t433)) else (if a0 = 9 then ((impl_Wrap.f (wrap64 (a1 - a2))).bind fun t434 => (some t434)) else (if a0 = 10 then ((impl_Wrap.f (wrap64 (a1 * a2))).bind fun t435 => (some t435)) else (if a0 = 11 then (if a2 = 0 then (some (-1)) else ((impl_Wrap.f (wrap64 (Int.tdiv a1 a2))).bind fun t436 => (some t436))) else (if a2 = 0 then (some a1) else (some (Int.tmod a1 a2)))))))))))))) = some r := h
 clear h
 by_cases c4 : a0 = 1
 ·rw [if_pos c4] at H
  have c4b0 : (a0 == 1) = true := beq_iff_eq.mpr c4
  have c4b1 : (a0 != 1) = false := bne_eq_false_iff_eq.mpr c4
  clear c4
  obtain rfl := Option.some.inj H
  go_enter Try.func53, Try.ntmps53
  go_wp2
  go_ret
  exact ⟨by first | rfl | (simp; done) | (simp [*]; done), by repeat (first | exact Drawn0.refl _ | apply Drawn0.step)⟩
 ·rw [if_neg c4] at H
  have c4b0 : (a0 == 1) = false := beq_eq_false_iff_ne.mpr c4
  have c4b1 : (a0 != 1) = true := bne_iff_ne.mpr c4
  by_cases c5 : a0 = 2
  ·rw [if_pos c5] at H
   have c5b0 : (a0 == 2) = true := beq_iff_eq.mpr c5
   have c5b1 : (a0 != 2) = false := bne_eq_false_iff_eq.mpr c5
   clear c5
   obtain rfl := Option.some.inj H
   go_enter Try.func53, Try.ntmps53
   go_wp2
   go_ret
   exact ⟨by first | rfl | (simp; done) | (simp [*]; done), by repeat (first | exact Drawn0.refl _ | apply Drawn0.step)⟩
  ·rw [if_neg c5] at H
   have c5b0 : (a0 == 2) = false := beq_eq_false_iff_ne.mpr c5
   have c5b1 : (a0 != 2) = true := bne_iff_ne.mpr c5
   by_cases c6 : a0 = 3
   ·rw [if_pos c6] at H
    have c6b0 : (a0 == 3) = true := beq_iff_eq.mpr c6
    have c6b1 : (a0 != 3) = false := bne_eq_false_iff_eq.mpr c6
    clear c6
    obtain rfl := Option.some.inj H
    go_enter Try.func53, Try.ntmps53
    go_wp2
    go_ret
    exact ⟨by first | rfl | (simp; done) | (simp [*]; done), by repeat (first | exact Drawn0.refl _ | apply Drawn0.step)⟩
   ·rw [if_neg c6] at H
    have c6b0 : (a0 == 3) = false := beq_eq_false_iff_ne.mpr c6
    have c6b1 : (a0 != 3) = true := bne_iff_ne.mpr c6
    by_cases c7 : a0 = 4
    ·rw [if_pos c7] at H
     have c7b0 : (a0 == 4) = true := beq_iff_eq.mpr c7
     have c7b1 : (a0 != 4) = false := bne_eq_false_iff_eq.mpr c7
     clear c7
     replace H := X2 H
     obtain ⟨t430, A80, H⟩ := H
     replace H : (some t430) = some r := H
     have A8 := X1 A80
     clear A80
     obtain rfl := Option.some.inj H
     go_enter Try.func53, Try.ntmps53
     go_wp2_with (first | ((with_reducible refine gate_callee (f := 58) rfl ?_); refine goesL_ (some 28) rfl rfl Try.func58 (by kernel_rfl) rfl #[.bool (a1 == a2)] rfl (by (try simp only [List.map_toArray, List.map_cons, List.map_nil]); first | done | rfl | (simp only [List.length_drop, List.length_take]; rfl)) ?_; (with_reducible refine (impl_truth.calls (a1 == a2) t430 _ A8.out).mono ?_); rintro e w' ⟨rfl, ⟨nd, rfl⟩⟩; refine ⟨_, rfl, ?_⟩))
     go_ret
     exact ⟨by first | rfl | (simp; done) | (simp [*]; done), by repeat (first | exact Drawn0.refl _ | apply Drawn0.step)⟩
    ·rw [if_neg c7] at H
     have c7b0 : (a0 == 4) = false := beq_eq_false_iff_ne.mpr c7
     have c7b1 : (a0 != 4) = true := bne_iff_ne.mpr c7
     by_cases c9 : a0 = 5
     ·rw [if_pos c9] at H
      have c9b0 : (a0 == 5) = true := beq_iff_eq.mpr c9
      have c9b1 : (a0 != 5) = false := bne_eq_false_iff_eq.mpr c9
      clear c9
      replace H := X2 H
      obtain ⟨t431, A100, H⟩ := H
      replace H : (some t431) = some r := H
      have A10 := X1 A100
      clear A100
      obtain rfl := Option.some.inj H
      go_enter Try.func53, Try.ntmps53
      go_wp2_with (first | ((with_reducible refine gate_callee (f := 58) rfl ?_); refine goesL_ (some 34) rfl rfl Try.func58 (by kernel_rfl) rfl #[.bool (decide (a1 < a2))] rfl (by (try simp only [List.map_toArray, List.map_cons, List.map_nil]); first | done | rfl | (simp only [List.length_drop, List.length_take]; rfl)) ?_; (with_reducible refine (impl_truth.calls (decide (a1 < a2)) t431 _ A10.out).mono ?_); rintro e w' ⟨rfl, ⟨nd, rfl⟩⟩; refine ⟨_, rfl, ?_⟩))
      go_ret
      exact ⟨by first | rfl | (simp; done) | (simp [*]; done), by repeat (first | exact Drawn0.refl _ | apply Drawn0.step)⟩
     ·rw [if_neg c9] at H
      have c9b0 : (a0 == 5) = false := beq_eq_false_iff_ne.mpr c9
      have c9b1 : (a0 != 5) = true := bne_iff_ne.mpr c9
      by_cases c11 : a0 = 6
      ·rw [if_pos c11] at H
       have c11b0 : (a0 == 6) = true := beq_iff_eq.mpr c11
       have c11b1 : (a0 != 6) = false := bne_eq_false_iff_eq.mpr c11
       clear c11
       by_cases c12 : 0 ≤ (Go.bits .and .i64 a2 31)
       ·rw [if_pos c12] at H
        have c12b0 := eq_true c12
        have c12b1 : decide (0 ≤ (Go.bits .and .i64 a2 31)) = true := decide_eq_true c12
        clear c12
        obtain ⟨ji13, hji13⟩ : ∃ j_ : Int, (shl .i64 a1 (Go.bits .and .i64 a2 31)) = j_ := ⟨_, rfl⟩
        replace H : ((impl_Wrap.f (ji13)).bind fun t432 => (some t432)) = some r := by first | (rw [hji13] at H; exact H) | (simp only [hji13] at H ⊢; exact H)
        have hji13_ : (IntKind.i64.wrap (a1 * 2 ^ min (Go.bits .and .i64 a2 31).toNat 64)) = ji13 := hji13
        have hji13z : (Go.bits .and .i64 a2 31) ≤ 64 → (IntKind.i64.wrap (a1 * 2 ^ (Go.bits .and .i64 a2 31).toNat)) = ji13 := shl_small hji13
        have hji13y : (wrap64 (a1 * 2 ^ min (Go.bits .and .i64 a2 31).toNat 64)) = ji13 := (i64_w _).symm.trans hji13_
        have hji13x : (Go.bits .and .i64 a2 31) ≤ 64 → (wrap64 (a1 * 2 ^ (Go.bits .and .i64 a2 31).toNat)) = ji13 := fun h_ => (i64_w _).symm.trans (hji13z h_)
        replace H := X2 H
        obtain ⟨t432, A140, H⟩ := H
        replace H : (some t432) = some r := H
        have A14 := X1 A140
        clear A140
        obtain rfl := Option.some.inj H
        go_enter Try.func53, Try.ntmps53
        go_wp2_with (first | ((with_reducible refine gate_callee (f := 59) rfl ?_); refine goesL_ (some 41) rfl rfl Try.func59 (by kernel_rfl) rfl #[.int .i64 ji13] rfl (by (try simp only [List.map_toArray, List.map_cons, List.map_nil]); first | done | (simp only [hji13]; rfl) | rfl | (simp only [List.length_drop, List.length_take]; rfl)) ?_; (with_reducible refine (impl_Wrap.calls ji13 t432 _ A14.out).mono ?_); rintro e w' ⟨rfl, ⟨nd, rfl⟩⟩; refine ⟨_, rfl, ?_⟩))
        go_ret
        exact ⟨by first | rfl | (simp; done) | (simp only [← hji13] <;> (first | rfl | simp)) | (simp [*]; done), by repeat (first | exact Drawn0.refl _ | apply Drawn0.step)⟩
       ·rw [if_neg c12] at H
        exact absurd H (by simp)
      ·rw [if_neg c11] at H
       have c11b0 : (a0 == 6) = false := beq_eq_false_iff_ne.mpr c11
       have c11b1 : (a0 != 6) = true := bne_iff_ne.mpr c11
       by_cases c15 : a0 = 7
       ·rw [if_pos c15] at H
        have c15b0 : (a0 == 7) = true := beq_iff_eq.mpr c15
        have c15b1 : (a0 != 7) = false := bne_eq_false_iff_eq.mpr c15
        clear c15
        by_cases c16 : 0 ≤ (Go.bits .and .i64 a2 31)
        ·rw [if_pos c16] at H
         have c16b0 := eq_true c16
         have c16b1 : decide (0 ≤ (Go.bits .and .i64 a2 31)) = true := decide_eq_true c16
         clear c16
         obtain ⟨ji17, hji17⟩ : ∃ j_ : Int, (shr .i64 a1 (Go.bits .and .i64 a2 31)) = j_ := ⟨_, rfl⟩
         replace H : (some ji17) = some r := by first | (rw [hji17] at H; exact H) | (simp only [hji17] at H ⊢; exact H)
         have hji17_ : (a1 / 2 ^ min (Go.bits .and .i64 a2 31).toNat 64) = ji17 := hji17
         have hji17z : (Go.bits .and .i64 a2 31) ≤ 64 → (a1 / 2 ^ (Go.bits .and .i64 a2 31).toNat) = ji17 := shr_small hji17
         obtain rfl := Option.some.inj H
         go_enter Try.func53, Try.ntmps53
         go_wp2
         go_ret
         exact ⟨by first | rfl | (simp; done) | (simp only [← hji17] <;> (first | rfl | simp)) | (simp [*]; done), by repeat (first | exact Drawn0.refl _ | apply Drawn0.step)⟩
        ·rw [if_neg c16] at H
         exact absurd H (by simp)
       ·rw [if_neg c15] at H
        have c15b0 : (a0 == 7) = false := beq_eq_false_iff_ne.mpr c15
        have c15b1 : (a0 != 7) = true := bne_iff_ne.mpr c15
        by_cases c18 : a0 = 8
        ·rw [if_pos c18] at H
         have c18b0 : (a0 == 8) = true := beq_iff_eq.mpr c18
         have c18b1 : (a0 != 8) = false := bne_eq_false_iff_eq.mpr c18
         clear c18
         replace H := X2 H
         obtain ⟨t433, A190, H⟩ := H
         replace H : (some t433) = some r := H
         have A19 := X1 A190
         clear A190
         obtain rfl := Option.some.inj H
         go_enter Try.func53, Try.ntmps53
         go_wp2_with (first | ((with_reducible refine gate_callee (f := 59) rfl ?_); refine goesL_ (some 53) rfl rfl Try.func59 (by kernel_rfl) rfl #[.int .i64 (wrap64 (a1 + a2))] rfl (by (try simp only [List.map_toArray, List.map_cons, List.map_nil]); first | done | rfl | (simp only [List.length_drop, List.length_take]; rfl)) ?_; (with_reducible refine (impl_Wrap.calls (wrap64 (a1 + a2)) t433 _ A19.out).mono ?_); rintro e w' ⟨rfl, ⟨nd, rfl⟩⟩; refine ⟨_, rfl, ?_⟩))
         go_ret
         exact ⟨by first | rfl | (simp; done) | (simp [*]; done), by repeat (first | exact Drawn0.refl _ | apply Drawn0.step)⟩
        ·rw [if_neg c18] at H
         have c18b0 : (a0 == 8) = false := beq_eq_false_iff_ne.mpr c18
         have c18b1 : (a0 != 8) = true := bne_iff_ne.mpr c18
         by_cases c20 : a0 = 9
         ·rw [if_pos c20] at H
          have c20b0 : (a0 == 9) = true := beq_iff_eq.mpr c20
          have c20b1 : (a0 != 9) = false := bne_eq_false_iff_eq.mpr c20
          clear c20
          replace H := X2 H
          obtain ⟨t434, A210, H⟩ := H
          replace H : (some t434) = some r := H
          have A21 := X1 A210
          clear A210
          obtain rfl := Option.some.inj H
          go_enter Try.func53, Try.ntmps53
          go_wp2_with (first | ((with_reducible refine gate_callee (f := 59) rfl ?_); refine goesL_ (some 59) rfl rfl Try.func59 (by kernel_rfl) rfl #[.int .i64 (wrap64 (a1 - a2))] rfl (by (try simp only [List.map_toArray, List.map_cons, List.map_nil]); first | done | rfl | (simp only [List.length_drop, List.length_take]; rfl)) ?_; (with_reducible refine (impl_Wrap.calls (wrap64 (a1 - a2)) t434 _ A21.out).mono ?_); rintro e w' ⟨rfl, ⟨nd, rfl⟩⟩; refine ⟨_, rfl, ?_⟩))
          go_ret
          exact ⟨by first | rfl | (simp; done) | (simp [*]; done), by repeat (first | exact Drawn0.refl _ | apply Drawn0.step)⟩
         ·rw [if_neg c20] at H
          have c20b0 : (a0 == 9) = false := beq_eq_false_iff_ne.mpr c20
          have c20b1 : (a0 != 9) = true := bne_iff_ne.mpr c20
          by_cases c22 : a0 = 10
          ·rw [if_pos c22] at H
           have c22b0 : (a0 == 10) = true := beq_iff_eq.mpr c22
           have c22b1 : (a0 != 10) = false := bne_eq_false_iff_eq.mpr c22
           clear c22
           replace H := X2 H
           obtain ⟨t435, A230, H⟩ := H
           replace H : (some t435) = some r := H
           have A23 := X1 A230
           clear A230
           obtain rfl := Option.some.inj H
           go_enter Try.func53, Try.ntmps53
           go_wp2_with (first | ((with_reducible refine gate_callee (f := 59) rfl ?_); refine goesL_ (some 65) rfl rfl Try.func59 (by kernel_rfl) rfl #[.int .i64 (wrap64 (a1 * a2))] rfl (by (try simp only [List.map_toArray, List.map_cons, List.map_nil]); first | done | rfl | (simp only [List.length_drop, List.length_take]; rfl)) ?_; (with_reducible refine (impl_Wrap.calls (wrap64 (a1 * a2)) t435 _ A23.out).mono ?_); rintro e w' ⟨rfl, ⟨nd, rfl⟩⟩; refine ⟨_, rfl, ?_⟩))
           go_ret
           exact ⟨by first | rfl | (simp; done) | (simp [*]; done), by repeat (first | exact Drawn0.refl _ | apply Drawn0.step)⟩
          ·rw [if_neg c22] at H
           have c22b0 : (a0 == 10) = false := beq_eq_false_iff_ne.mpr c22
           have c22b1 : (a0 != 10) = true := bne_iff_ne.mpr c22
           by_cases c24 : a0 = 11
           ·rw [if_pos c24] at H
            have c24b0 : (a0 == 11) = true := beq_iff_eq.mpr c24
            have c24b1 : (a0 != 11) = false := bne_eq_false_iff_eq.mpr c24
            clear c24
            by_cases c25 : a2 = 0
            ·rw [if_pos c25] at H
             have c25b0 : (a2 == 0) = true := beq_iff_eq.mpr c25
             have c25b1 : (a2 != 0) = false := bne_eq_false_iff_eq.mpr c25
             clear c25
             obtain rfl := Option.some.inj H
             go_enter Try.func53, Try.ntmps53
             go_wp2
             go_ret
             exact ⟨by first | rfl | (simp; done) | (simp [*]; done), by repeat (first | exact Drawn0.refl _ | apply Drawn0.step)⟩
            ·rw [if_neg c25] at H
             have c25b0 : (a2 == 0) = false := beq_eq_false_iff_ne.mpr c25
             have c25b1 : (a2 != 0) = true := bne_iff_ne.mpr c25
             replace H := X2 H
             obtain ⟨t436, A260, H⟩ := H
             replace H : (some t436) = some r := H
             have A26 := X1 A260
             clear A260
             obtain rfl := Option.some.inj H
             go_enter Try.func53, Try.ntmps53
             go_wp2_with (first | ((with_reducible refine gate_callee (f := 59) rfl ?_); refine goesL_ (some 73) rfl rfl Try.func59 (by kernel_rfl) rfl #[.int .i64 (wrap64 (Int.tdiv a1 a2))] rfl (by (try simp only [List.map_toArray, List.map_cons, List.map_nil]); first | done | rfl | (simp only [List.length_drop, List.length_take]; rfl)) ?_; (with_reducible refine (impl_Wrap.calls (wrap64 (Int.tdiv a1 a2)) t436 _ A26.out).mono ?_); rintro e w' ⟨rfl, ⟨nd, rfl⟩⟩; refine ⟨_, rfl, ?_⟩))
             go_ret
             exact ⟨by first | rfl | (simp; done) | (simp [*]; done), by repeat (first | exact Drawn0.refl _ | apply Drawn0.step)⟩
           ·rw [if_neg c24] at H
            have c24b0 : (a0 == 11) = false := beq_eq_false_iff_ne.mpr c24
            have c24b1 : (a0 != 11) = true := bne_iff_ne.mpr c24
            by_cases c27 : a2 = 0
            ·rw [if_pos c27] at H
             have c27b0 : (a2 == 0) = true := beq_iff_eq.mpr c27
             have c27b1 : (a2 != 0) = false := bne_eq_false_iff_eq.mpr c27
             clear c27
             obtain rfl := Option.some.inj H
             go_enter Try.func53, Try.ntmps53
             go_wp2
             go_ret
             exact ⟨by first | rfl | (simp; done) | (simp [*]; done), by repeat (first | exact Drawn0.refl _ | apply Drawn0.step)⟩
            ·rw [if_neg c27] at H
             have c27b0 : (a2 == 0) = false := beq_eq_false_iff_ne.mpr c27
             have c27b1 : (a2 != 0) = true := bne_iff_ne.mpr c27
             obtain rfl := Option.some.inj H
             go_enter Try.func53, Try.ntmps53
             go_wp2
             go_ret
             exact ⟨by first | rfl | (simp; done) | (simp [*]; done), by repeat (first | exact Drawn0.refl _ | apply Drawn0.step)⟩

end Go.Proofs.Ytjohbglkocgdjaa.Q
