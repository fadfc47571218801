/- Written for this claim by the kit's print program, over contracts that are this seat's own (): not the print's own text. -/
import Derived.Test.YtjohbglkocgdjaaZQx0
import Derived.Test.YtjohbglkocgdjaaZQx3
namespace Go.Proofs.Ytjohbglkocgdjaa.Q
open Go.RowKit Go.Proofs.YtjohbglkocgdjaaW.PrintWords Go.Proofs.YtjohbglkocgdjaaW.PrintLast Go.Proofs.YtjohbglkocgdjaaW.PrintMore
attribute [local go_sem] max2_int min2_int max_two min_two max_three min_three max_four min_four   -- for this text's walks alone
set_option linter.unusedVariables false
set_option linter.unusedSimpArgs false

/-! ### spec_l91Op: function 46 -/
def spec_l91Op.f (k : Nat) (s0_0 : List Int) (s0_1 : Int) : Option (Int × Int) := (spec_l6Rd_pick.f k s0_0 s0_1 12).bind fun bt191 => (some (wrap64 (1 + bt191.1), bt191.2))
set_option maxHeartbeats 8000000 in
set_option maxRecDepth 100000 in
theorem spec_l91Op.calls (k : Nat) (g : Nat) (s0_0 : List Int) (s0_1 : Int) (r1 : Int) (r2 : Int) (w0 w : World) (hI : IsS60 w0 w g s0_0 s0_1) (hB : Below w0.heap.size w0 w) (h : spec_l91Op.f k s0_0 s0_1 = some (r1, r2)) :
  Calls Try.prog 46 #[.pointer (some ⟨g, 0, none⟩)] w fun e w' => e = .returned (.int .i64 r1) ∧ IsS60 w0 w' g s0_0 r2 ∧ Below w0.heap.size w0 w' ∧ KeepBut w w' g none := by
 have HI0 := X1 hI
 have HK := X1 (KeepBut.refl w g none)
 have HL := X1 hB.size
 clear hI
 have HW0 := X1 hB.size
 have HB := X1 hB
 clear hB
 have H : ((spec_l6Rd_pick.f k s0_0 s0_1 12).bind fun bt191 => (some (wrap64 (1 + bt191.1), bt191.2))) = some (r1, r2) := h
 clear h
 replace H := X2 H
 obtain ⟨⟨t191, t192⟩, A20, H⟩ := H
 replace H : (some (wrap64 (1 + t191), t192)) = some (r1, r2) := H
 have A2 := X1 A20
 clear A20
 simp only [Option.some.injEq, Prod.mk.injEq] at H
 obtain ⟨rfl, rfl⟩ := H
 go_enter Try.func46, Try.ntmps46
 go_wp2_with (first | ((with_reducible refine gate_callee (f := 44) rfl ?_); refine goesL_ (some 4) rfl rfl Try.func44 (by kernel_rfl) rfl #[.pointer (some ⟨g, 0, none⟩), .int .i64 12] rfl (by (try simp only [List.map_toArray, List.map_cons, List.map_nil]); first | done | rfl | (simp only [List.length_drop, List.length_take]; rfl)) ?_; (with_reducible refine (spec_l6Rd_pick.calls k g s0_0 s0_1 12 t191 t192 w0 _ ?side1 ?side2 A2.out).mono ?_); (case side1 => repeat (first | (with_reducible first | exact HI0.out | apply IsS60.alloc | apply IsS60.drewN | apply IsS60.drew | apply IsS60.set_1) | exact HI0.out)); (case side2 => repeat (first | (with_reducible first | exact HB.out | apply X5 | apply X4 | apply X3 | refine X10 ?_ (IsS60.ge HI0.out)) | exact HB.out)); rintro e w3 ⟨rfl, hi, hb, hk⟩; refine ⟨_, rfl, ?_⟩; have n0_ := X1 (KeepBut.trans (by repeat (first | (with_reducible first | exact HK.out | apply KeepBut.set_ | apply keep_drewN | apply keep_drew | apply keep_alloc) | exact HK.out)) hk (.inl rfl)); have n1_ := X1 (hb); have n2_ := X1 (hi); clear HK; clear HB; clear HI0; have HK := n0_; have HB := n1_; have HI0 := n2_; clear n0_ n1_ n2_; (try clear hb); (try clear hb2); (try clear hk); (try clear hi)))
 go_ret
 exact ⟨by first | rfl | (simp [errW_none, errW_some] <;> rfl) | (simp [*, errW_none, errW_some] <;> rfl), by repeat (first | (with_reducible first | exact HI0.out | apply IsS60.alloc | apply IsS60.drewN | apply IsS60.drew | apply IsS60.set_1) | exact HI0.out), by repeat (first | (with_reducible first | exact HB.out | apply X5 | apply X4 | apply X3 | refine X10 ?_ (IsS60.ge HI0.out)) | exact HB.out), by repeat (first | (with_reducible first | exact HK.out | apply KeepBut.set_ | apply keep_drewN | apply keep_drew | apply keep_alloc) | exact HK.out)⟩

/-! ### spec_l4Leaf: function 47 -/
def spec_l4Leaf.f (a0 : Int) (a1 : Int) : Option (Int × Int × (List (S29))) := some (a0, a1, (([] : List (S29))))
set_option maxHeartbeats 8000000 in
set_option maxRecDepth 100000 in
theorem spec_l4Leaf.calls (a0 : Int) (a1 : Int) (r1 : Int) (r2 : Int) (r3 : List (S29)) (w : World) (h : spec_l4Leaf.f a0 a1 = some (r1, r2, r3)) :
  Calls Try.prog 47 #[.int .i64 a0, .int .i64 a1] w fun e w' => ∃ v2_ : Value, e = .returned (.agg #[.int .i64 r1, .int .i64 r2, v2_]) ∧ Kd.R k29 29 w' w.heap.size (fun _ => True) v2_ r3 ∧ Below w.heap.size w w' := by
 have hu29 := Try.underlying29
 have HB := X1 (Below.refl w.heap.size w)
 have H : (some (a0, a1, (([] : List (S29))))) = some (r1, r2, r3) := h
 clear h
 obtain ⟨y194, hy194⟩ : ∃ y_ : List (S29), y_ = (([] : List (S29))) := ⟨_, rfl⟩
 replace H : (some (a0, a1, y194)) = some (r1, r2, r3) := by first | (rw [hy194]; with_reducible exact H) | (have H2_ := (Option.bind_some _ _).symm.trans H; rw [hy194]; with_reducible exact H2_) | (have H2_ := (Option.bind_some _ _).symm.trans H; with_reducible exact H2_) | with_reducible exact H | (rw [hy194]; exact H) | exact H
 have Ny194 := X1 hy194
 clear hy194
 simp only [Option.some.injEq, Prod.mk.injEq] at H
 obtain ⟨rfl, rfl, rfl⟩ := H
 go_enter Try.func47, Try.ntmps47
 go_wp2_with (first | ((with_reducible refine gate_dst (N := 4) rfl ?_); refine box_event ?hg (N := 4) ?hd (cs := #[.int .i64 0, .int .i64 0, .slice none 0 0]) (t := 29) ?hr ?_; (case hd => rfl); (case hg => rfl); (case hr => first | (go_simp; done) | (go_simp; rfl)); intro gb193 hg w3 hbox hb; have n0_ := X1 (below_step (by repeat (first | (with_reducible first | exact HB.out | apply X5 | apply X4 | apply X3) | exact HB.out)) hb); have n1_ := X1 (hbox); have n2_ := X1 ((by rw [hg]; exact (below_size (by repeat (first | (with_reducible first | exact HB.out | apply X5 | apply X4 | apply X3) | exact HB.out))) : w.heap.size ≤ gb193)); have n3_ := X1 ((by rw [hg]; exact (below_size (by repeat (first | (with_reducible first | exact HB.out | apply X5 | apply X4 | apply X3) | exact HB.out))) : w.heap.size ≤ gb193)); clear HB; have HB := n0_; have BK193 := n1_; have GW193 := n2_; have GE193 := n3_; clear n0_ n1_ n2_ n3_; clear hb hbox hg) | ((with_reducible refine gate_dst (N := 7) rfl ?_); refine Kd.R_lit k29 _ 29 ?hg (N := 7) ?hd (xs := ([] : List (S29))) (inner := []) (ok := fun _ => True) (okp := fun _ => True) ?hr ?hp (fun _ hk => hk) trivial (Below.refl _ _) (Nat.le_refl _) (by simp) ?_; (case hd => rfl); (case hg => rfl); (case hr => first | (go_simp; done) | (go_simp; rfl)); (case hp => exact (Reps.none _ _)); intro v195 w4 ho5 hb hg_ hnew_; clear hg_ hnew_; (first | rw [← Ny194.out] at ho5 | (simp only [Int.reduceToNat] at ho5; rw [← Ny194.out] at ho5)); have n0_ := X1 (Kd.R_lower (Kd.R_newB ho5 (g := gb193) (o := .cells #[.int .i64 0, .int .i64 0, .slice none 0 0] 29 (0, 0)) (by (with_reducible repeat (first | refine X7 ?_ _ | refine X8 ?_ | refine X6 ?_ _)); exact BK193.out)) (below_size (by repeat (first | (with_reducible first | exact HB.out | apply X5 | apply X4 | apply X3 | refine X10 ?_ GE193.out) | exact HB.out)))); have n1_ := X1 (blk_below (g := gb193) (o := .cells #[.int .i64 0, .int .i64 0, .slice none 0 0] 29 (0, 0)) (by (with_reducible repeat (first | refine X7 ?_ _ | refine X8 ?_ | refine X6 ?_ _)); exact BK193.out) hb); have n2_ := X1 (below_step (by repeat (first | (with_reducible first | exact HB.out | apply X5 | apply X4 | apply X3 | refine X10 ?_ GE193.out) | exact HB.out)) hb); clear BK193; clear HB; have HO196 := n0_; have BK193 := n1_; have HB := n2_; clear n0_ n1_ n2_; clear hb ho5; obtain ⟨Ao6, co6, eo6⟩ := Kd.R_slice HO196.out; subst eo6; have hcz7_0 : w4.cell? ⟨gb193, 0, none⟩ = some (.int .i64 0) := (X11 BK193.out 0).trans rfl; have hcz7_1 : w4.cell? ⟨gb193, 1, none⟩ = some (.int .i64 0) := (X11 BK193.out 1).trans rfl; have hcz7_2 : w4.cell? ⟨gb193, 2, none⟩ = some (.slice none 0 0) := (X11 BK193.out 2).trans rfl; have hfz7_0 := X12 BK193.out 0; have hfz7_1 := X12 BK193.out 1; have hfz7_2 := X12 BK193.out 2))
 refine bodyPost_ret (results_cell_row rfl _ _ gb193 29 #[.int .i64 a0, .int .i64 a1, .slice Ao6 y194.length co6] (0, 0) _ rfl (by (with_reducible repeat (first | refine X7 ?_ _ | refine X8 ?_ | refine X6 ?_ _)); refine blk_put (cs := #[.int .i64 a0, .int .i64 a1, .slice none 0 0]) ?_ 2 _ rfl; (with_reducible repeat (first | refine X7 ?_ _ | refine X8 ?_ | refine X6 ?_ _)); refine blk_put (cs := #[.int .i64 a0, .int .i64 0, .slice none 0 0]) ?_ 1 _ rfl; (with_reducible repeat (first | refine X7 ?_ _ | refine X8 ?_ | refine X6 ?_ _)); refine blk_put (cs := #[.int .i64 0, .int .i64 0, .slice none 0 0]) ?_ 0 _ rfl; (with_reducible repeat (first | refine X7 ?_ _ | refine X8 ?_ | refine X6 ?_ _)); exact BK193.out) Try.underlying29 rfl (by kernel_rfl)) rfl ?_
 exact ⟨_, by first | rfl | (simp [errW_none, errW_some] <;> rfl) | (simp [*, errW_none, errW_some] <;> rfl), by (with_reducible repeat (first | apply Kd.R_alloc | apply Kd.R_drewN | apply Kd.R_drew)); exact Kd.R_mono (Kd.R_far (p := ⟨gb193, 2, none⟩) (Kd.R_far (p := ⟨gb193, 1, none⟩) (Kd.R_far (p := ⟨gb193, 0, none⟩) (Kd.R_mono HO196.out (fun k_ hk => (⟨hk, hk.2⟩ : _ ∧ k_ ≠ gb193))) (fun _ hk => hk.2) (.int .i64 a0)) (fun _ hk => hk.2) (.int .i64 a1)) (fun _ hk => hk.2) (.slice Ao6 y194.length co6)) (fun _ hk => trivial), by repeat (first | (with_reducible first | exact HB.out | apply X5 | apply X4 | apply X3 | refine X10 ?_ GE193.out) | exact HB.out)⟩

/-! ### spec_l91Leaf: function 48 -/
def spec_l91Leaf.f (k : Nat) (s0_0 : List Int) (s0_1 : Int) : Option (Int × Int × (List (S29)) × Int) := (spec_l6Rd_pick.f k s0_0 s0_1 4).bind fun bt198 => (if bt198.1 = 0 then ((spec_l6Rd_pick.f k s0_0 bt198.2 4).bind fun bt200 => ((spec_l4Leaf.f 0 bt200.1).bind fun bt202 => (some (bt202.1, bt202.2.1, bt202.2.2, bt200.2)))) else (if bt198.1 = 1 then ((some (([5, 31, 32, 100, 2047, 2048, 65536, 99999] : List Int) : List Int)).bind fun y207 => ((spec_l6Rd_pick.f k s0_0 bt198.2 8).bind fun bt210 => (if 0 ≤ bt210.1 then (if bt210.1 < (y207.length : Int) then ((spec_l4Leaf.f 0 (rd y207 bt210.1)).bind fun bt213 => (some (bt213.1, bt213.2.1, bt213.2.2, bt210.2))) else (none)) else (none)))) else ((spec_l6Rd_pick.f k s0_0 bt198.2 4).bind fun bt218 => ((spec_l4Leaf.f 13 bt218.1).bind fun bt220 => (some (bt220.1, bt220.2.1, bt220.2.2, bt218.2))))))
set_option maxHeartbeats 8000000 in
set_option maxRecDepth 100000 in
theorem spec_l91Leaf.calls (k : Nat) (g : Nat) (s0_0 : List Int) (s0_1 : Int) (r1 : Int) (r2 : Int) (r3 : List (S29)) (r4 : Int) (w0 w : World) (hI : IsS60 w0 w g s0_0 s0_1) (hB : Below w0.heap.size w0 w) (h : spec_l91Leaf.f k s0_0 s0_1 = some (r1, r2, r3, r4)) :
  Calls Try.prog 48 #[.pointer (some ⟨g, 0, none⟩)] w fun e w' => ∃ v2_ : Value, e = .returned (.agg #[.int .i64 r1, .int .i64 r2, v2_]) ∧ Kd.R k29 29 w' w.heap.size (fun _ => True) v2_ r3 ∧ IsS60 w0 w' g s0_0 r4 ∧ Below w0.heap.size w0 w' ∧ KeepBut w w' g none := by
 have hu29 := Try.underlying29
 have HI0 := X1 hI
 have HK := X1 (KeepBut.refl w g none)
 have HL := X1 hB.size
 clear hI
 have HW0 := X1 hB.size
 have HB := X1 hB
 clear hB
 have H : ((spec_l6Rd_pick.f k s0_0 s0_1 4).bind fun bt198 => (if bt198.1 = 0 then ((spec_l6Rd_pick.f k s0_0 bt198.2 4).bind fun bt200 => ((spec_l4Leaf.f 0 bt200.1).bind fun bt202 => (some (bt202.1, bt202.2.1, bt202.2.2, bt200.2)))) else (if bt198.1 = 1 then ((some (([5, 31, 32, 100, 2047, 2048, 65536, 99999] : List Int) : List Int)).bind fun y207 => ((spec_l6Rd_pick.f k s0_0 bt198.2 8).bind fun bt210 => (if 0 ≤ bt210.1 then (if bt210.1 < (y207.length : Int) then ((spec_l4Leaf.f 0 (rd y207 bt210.1)).bind fun bt213 => (some (bt213.1, bt213.2.1, bt213.2.2, bt210.2))) else (none)) else (none)))) else ((spec_l6Rd_pick.f k s0_0 bt198.2 4).bind fun bt218 => ((spec_l4Leaf.f 13 bt218.1).bind fun bt220 => (some (bt220.1, bt220.2.1, bt220.2.2, bt218.2))))))) = some (r1, r2, r3, r4) := h
 clear h
 replace H := X2 H
 obtain ⟨⟨t198, t199⟩, A20, H⟩ := H
 replace H : (if t198 = 0 then ((spec_l6Rd_pick.f k s0_0 t199 4).bind fun bt200 => ((spec_l4Leaf.f 0 bt200.1).bind fun bt202 => (some (bt202.1, bt202.2.1, bt202.2.2, bt200.2)))) else (if t198 = 1 then ((some (([5, 31, 32, 100, 2047, 2048, 65536, 99999] : List Int) : List Int)).bind fun y207 => ((spec_l6Rd_pick.f k s0_0 t199 8).bind fun bt210 => (if 0 ≤ bt210.1 then (if bt210.1 < (y207.length : Int) then ((spec_l4Leaf.f 0 (rd y207 bt210.1)).bind fun bt213 => (some (bt213.1, bt213.2.1, bt213.2.2, bt210.2))) else (none)) else (none)))) else ((spec_l6Rd_pick.f k s0_0 t199 4).bind fun bt218 => ((spec_l4Leaf.f 13 bt218.1).bind fun bt220 => (some (bt220.1, bt220.2.1, bt220.2.2, bt218.2)))))) = some (r1, r2, r3, r4) := H
 have A2 := X1 A20
 clear A20
 by_cases c3 : t198 = 0
 ·rw [if_pos c3] at H
  have c3b0 : (t198 == 0) = true := beq_iff_eq.mpr c3
  have c3b1 : (t198 != 0) = false := bne_eq_false_iff_eq.mpr c3
  clear c3
  replace H := X2 H
  obtain ⟨⟨t200, t201⟩, A40, H⟩ := H
  replace H : ((spec_l4Leaf.f 0 t200).bind fun bt202 => (some (bt202.1, bt202.2.1, bt202.2.2, t201))) = some (r1, r2, r3, r4) := H
  have A4 := X1 A40
  clear A40
  replace H := X2 H
  obtain ⟨⟨t202, t203, t204⟩, A50, H⟩ := H
  replace H : (some (t202, t203, t204, t201)) = some (r1, r2, r3, r4) := H
  have A5 := X1 A50
  clear A50
  simp only [Option.some.injEq, Prod.mk.injEq] at H
  obtain ⟨rfl, rfl, rfl, rfl⟩ := H
  go_enter Try.func48, Try.ntmps48
  go_wp2_with (first | ((with_reducible refine gate_dst (N := 2) rfl ?_); refine box_event ?hg (N := 2) ?hd (cs := #[.int .i64 0, .int .i64 0, .slice none 0 0]) (t := 29) ?hr ?_; (case hd => rfl); (case hg => rfl); (case hr => first | (go_simp; done) | (go_simp; rfl)); intro gb197 hg w6 hbox hb; have n0_ := X1 (IsS60.below (by repeat (first | (with_reducible first | exact HI0.out | apply IsS60.alloc | apply IsS60.drewN | apply IsS60.drew | apply IsS60.set_1) | exact HI0.out)) hb); have n1_ := X1 (KeepBut.trans (by repeat (first | (with_reducible first | exact HK.out | apply KeepBut.set_ | apply keep_drewN | apply keep_drew | apply keep_alloc) | exact HK.out)) (KeepBut.of_below hb g none) (.inl rfl)); have n2_ := X1 (below_step (by repeat (first | (with_reducible first | exact HB.out | apply X5 | apply X4 | apply X3 | refine X10 ?_ (IsS60.ge HI0.out)) | exact HB.out)) hb); have n3_ := X1 (hbox); have n4_ := X1 ((by rw [hg]; exact (keep_size (w := w) (g := g) (row := none) (by repeat (first | (with_reducible first | exact HK.out | apply KeepBut.set_ | apply keep_drewN | apply keep_drew | apply keep_alloc) | exact HK.out))) : w.heap.size ≤ gb197)); have n5_ := X1 ((Nat.le_trans HW0.out (by rw [hg]; exact (keep_size (w := w) (g := g) (row := none) (by repeat (first | (with_reducible first | exact HK.out | apply KeepBut.set_ | apply keep_drewN | apply keep_drew | apply keep_alloc) | exact HK.out))) : w.heap.size ≤ gb197) : w0.heap.size ≤ gb197)); have n6_ := X1 ((by rw [hg]; exact Nat.ne_of_lt (IsS60.lt (show IsS60 w0 _ g s0_0 s0_1 from by repeat (first | (with_reducible first | exact HI0.out | apply IsS60.alloc | apply IsS60.drewN | apply IsS60.drew | apply IsS60.set_1) | exact HI0.out))) : g ≠ gb197)); have n7_ := X1 ((by rw [hg]; exact Nat.ne_of_gt (IsS60.lt (show IsS60 w0 _ g s0_0 s0_1 from by repeat (first | (with_reducible first | exact HI0.out | apply IsS60.alloc | apply IsS60.drewN | apply IsS60.drew | apply IsS60.set_1) | exact HI0.out))) : gb197 ≠ g)); clear HI0; clear HK; clear HB; have HI0 := n0_; have HK := n1_; have HB := n2_; have BK197 := n3_; have GW197 := n4_; have GE197 := n5_; have NB0_197 := n6_; have NB197_0 := n7_; clear n0_ n1_ n2_ n3_ n4_ n5_ n6_ n7_; clear hb hbox hg) | ((with_reducible refine gate_callee (f := 44) rfl ?_); refine goesL_ (some 4) rfl rfl Try.func44 (by kernel_rfl) rfl #[.pointer (some ⟨g, 0, none⟩), .int .i64 4] rfl (by (try simp only [List.map_toArray, List.map_cons, List.map_nil]); first | done | rfl | (simp only [List.length_drop, List.length_take]; rfl)) ?_; (with_reducible refine (spec_l6Rd_pick.calls k g s0_0 s0_1 4 t198 t199 w0 _ ?side1 ?side2 A2.out).mono ?_); (case side1 => repeat (first | (with_reducible first | exact HI0.out | apply IsS60.alloc | apply IsS60.drewN | apply IsS60.drew | apply IsS60.set_1 | refine IsS60.far ?_ NB0_197.out _) | exact HI0.out)); (case side2 => repeat (first | (with_reducible first | exact HB.out | apply X5 | apply X4 | apply X3 | refine X10 ?_ (IsS60.ge HI0.out) | refine X10 ?_ GE197.out) | exact HB.out)); rintro e w7 ⟨rfl, hi, hb, hk⟩; refine ⟨_, rfl, ?_⟩; have n0_ := X1 (KeepBut.blk hk (g' := gb197) (o := .cells #[.int .i64 0, .int .i64 0, .slice none 0 0] 29 (0, 0)) (by (with_reducible repeat (first | refine X7 ?_ _ | refine X8 ?_ | refine X6 ?_ _)); exact BK197.out) NB197_0.out (by simp)); have n1_ := X1 (KeepBut.trans (by repeat (first | (with_reducible first | exact HK.out | apply KeepBut.set_ | apply keep_drewN | apply keep_drew | apply keep_alloc | refine keep_far ?_ GW197.out _) | exact HK.out)) hk (.inl rfl)); have n2_ := X1 (hb); have n3_ := X1 (hi); clear BK197; clear HK; clear HB; clear HI0; have BK197 := n0_; have HK := n1_; have HB := n2_; have HI0 := n3_; clear n0_ n1_ n2_ n3_; (try clear hb); (try clear hb2); (try clear hk); (try clear hi)) | ((with_reducible refine gate_callee (f := 44) rfl ?_); refine goesL_ (some 8) rfl rfl Try.func44 (by kernel_rfl) rfl #[.pointer (some ⟨g, 0, none⟩), .int .i64 4] rfl (by (try simp only [List.map_toArray, List.map_cons, List.map_nil]); first | done | rfl | (simp only [List.length_drop, List.length_take]; rfl)) ?_; (with_reducible refine (spec_l6Rd_pick.calls k g s0_0 t199 4 t200 t201 w0 _ ?side1 ?side2 A4.out).mono ?_); (case side1 => repeat (first | (with_reducible first | exact HI0.out | apply IsS60.alloc | apply IsS60.drewN | apply IsS60.drew | apply IsS60.set_1 | refine IsS60.far ?_ NB0_197.out _) | exact HI0.out)); (case side2 => repeat (first | (with_reducible first | exact HB.out | apply X5 | apply X4 | apply X3 | refine X10 ?_ (IsS60.ge HI0.out) | refine X10 ?_ GE197.out) | exact HB.out)); rintro e w8 ⟨rfl, hi, hb, hk⟩; refine ⟨_, rfl, ?_⟩; have n0_ := X1 (KeepBut.blk hk (g' := gb197) (o := .cells #[.int .i64 0, .int .i64 0, .slice none 0 0] 29 (0, 0)) (by (with_reducible repeat (first | refine X7 ?_ _ | refine X8 ?_ | refine X6 ?_ _)); exact BK197.out) NB197_0.out (by simp)); have n1_ := X1 (KeepBut.trans (by repeat (first | (with_reducible first | exact HK.out | apply KeepBut.set_ | apply keep_drewN | apply keep_drew | apply keep_alloc | refine keep_far ?_ GW197.out _) | exact HK.out)) hk (.inl rfl)); have n2_ := X1 (hb); have n3_ := X1 (hi); clear BK197; clear HK; clear HB; clear HI0; have BK197 := n0_; have HK := n1_; have HB := n2_; have HI0 := n3_; clear n0_ n1_ n2_ n3_; (try clear hb); (try clear hb2); (try clear hk); (try clear hi)) | ((with_reducible refine gate_callee (f := 47) rfl ?_); refine goesL_ (some 9) rfl rfl Try.func47 (by kernel_rfl) rfl #[.int .i64 0, .int .i64 t200] rfl (by (try simp only [List.map_toArray, List.map_cons, List.map_nil]); first | done | rfl | (simp only [List.length_drop, List.length_take]; rfl)) ?_; (with_reducible refine (spec_l4Leaf.calls 0 t200 t202 t203 t204 _ A5.out).mono ?_); rintro e w9 ⟨v205, rfl, ho0, hb⟩; refine ⟨_, rfl, ?_⟩; have n0_ := X1 (Kd.R_lower (Kd.R_newB ho0 (g := gb197) (o := .cells #[.int .i64 0, .int .i64 0, .slice none 0 0] 29 (0, 0)) (by (with_reducible repeat (first | refine X7 ?_ _ | refine X8 ?_ | refine X6 ?_ _)); exact BK197.out)) (keep_size (w := w) (g := g) (row := none) (by repeat (first | (with_reducible first | exact HK.out | apply KeepBut.set_ | apply keep_drewN | apply keep_drew | apply keep_alloc | refine keep_far ?_ GW197.out _) | exact HK.out)))); have n1_ := X1 (IsS60.below (by repeat (first | (with_reducible first | exact HI0.out | apply IsS60.alloc | apply IsS60.drewN | apply IsS60.drew | apply IsS60.set_1 | refine IsS60.far ?_ NB0_197.out _) | exact HI0.out)) hb); have n2_ := X1 (blk_below (g := gb197) (o := .cells #[.int .i64 0, .int .i64 0, .slice none 0 0] 29 (0, 0)) (by (with_reducible repeat (first | refine X7 ?_ _ | refine X8 ?_ | refine X6 ?_ _)); exact BK197.out) hb); have n3_ := X1 (KeepBut.trans (by repeat (first | (with_reducible first | exact HK.out | apply KeepBut.set_ | apply keep_drewN | apply keep_drew | apply keep_alloc | refine keep_far ?_ GW197.out _) | exact HK.out)) (KeepBut.of_below hb g none) (.inl rfl)); have n4_ := X1 (below_step (by repeat (first | (with_reducible first | exact HB.out | apply X5 | apply X4 | apply X3 | refine X10 ?_ (IsS60.ge HI0.out) | refine X10 ?_ GE197.out) | exact HB.out)) hb); clear HI0; clear BK197; clear HK; clear HB; have HO206 := n0_; have HI0 := n1_; have BK197 := n2_; have HK := n3_; have HB := n4_; clear n0_ n1_ n2_ n3_ n4_; (try clear hb); (try clear hb2); (try clear hk); (try clear hi); (try clear ho0); have hnb10 := NB197_0.out; have hnc10 := NB0_197.out; have hcz11_0 : w9.cell? ⟨gb197, 0, none⟩ = some (.int .i64 0) := (X11 BK197.out 0).trans rfl; have hcz11_1 : w9.cell? ⟨gb197, 1, none⟩ = some (.int .i64 0) := (X11 BK197.out 1).trans rfl; have hcz11_2 : w9.cell? ⟨gb197, 2, none⟩ = some (.slice none 0 0) := (X11 BK197.out 2).trans rfl; have hfz11_0 := X12 BK197.out 0; have hfz11_1 := X12 BK197.out 1; have hfz11_2 := X12 BK197.out 2; obtain ⟨Ao12, co12, eo12⟩ := Kd.R_slice HO206.out; subst eo12))
  refine bodyPost_ret (results_cell_row rfl _ _ gb197 29 #[.int .i64 t202, .int .i64 t203, .slice Ao12 t204.length co12] (0, 0) _ rfl (by (with_reducible repeat (first | refine X7 ?_ _ | refine X8 ?_ | refine X6 ?_ _)); refine blk_put (cs := #[.int .i64 t202, .int .i64 t203, .slice none 0 0]) ?_ 2 _ rfl; (with_reducible repeat (first | refine X7 ?_ _ | refine X8 ?_ | refine X6 ?_ _)); refine blk_put (cs := #[.int .i64 t202, .int .i64 0, .slice none 0 0]) ?_ 1 _ rfl; (with_reducible repeat (first | refine X7 ?_ _ | refine X8 ?_ | refine X6 ?_ _)); refine blk_put (cs := #[.int .i64 0, .int .i64 0, .slice none 0 0]) ?_ 0 _ rfl; (with_reducible repeat (first | refine X7 ?_ _ | refine X8 ?_ | refine X6 ?_ _)); exact BK197.out) Try.underlying29 rfl (by kernel_rfl)) rfl ?_
  exact ⟨_, by first | rfl | (simp [errW_none, errW_some] <;> rfl) | (simp [*, errW_none, errW_some] <;> rfl), by (with_reducible repeat (first | apply Kd.R_alloc | apply Kd.R_drewN | apply Kd.R_drew)); exact Kd.R_mono (Kd.R_far (p := ⟨gb197, 2, none⟩) (Kd.R_far (p := ⟨gb197, 1, none⟩) (Kd.R_far (p := ⟨gb197, 0, none⟩) (Kd.R_mono HO206.out (fun k_ hk => (⟨hk, hk.2⟩ : _ ∧ k_ ≠ gb197))) (fun _ hk => hk.2) (.int .i64 t202)) (fun _ hk => hk.2) (.int .i64 t203)) (fun _ hk => hk.2) (.slice Ao12 t204.length co12)) (fun _ hk => trivial), by repeat (first | (with_reducible first | exact HI0.out | apply IsS60.alloc | apply IsS60.drewN | apply IsS60.drew | apply IsS60.set_1 | refine IsS60.far ?_ NB0_197.out _) | exact HI0.out), by repeat (first | (with_reducible first | exact HB.out | apply X5 | apply X4 | apply X3 | refine X10 ?_ (IsS60.ge HI0.out) | refine X10 ?_ GE197.out) | exact HB.out), by repeat (first | (with_reducible first | exact HK.out | apply KeepBut.set_ | apply keep_drewN | apply keep_drew | apply keep_alloc | refine keep_far ?_ GW197.out _) | exact HK.out)⟩
 ·rw [if_neg c3] at H
  have c3b0 : (t198 == 0) = false := beq_eq_false_iff_ne.mpr c3
  have c3b1 : (t198 != 0) = true := bne_iff_ne.mpr c3
  by_cases c13 : t198 = 1
  ·rw [if_pos c13] at H
   have c13b0 : (t198 == 1) = true := beq_iff_eq.mpr c13
   have c13b1 : (t198 != 1) = false := bne_eq_false_iff_eq.mpr c13
   clear c13
   obtain ⟨y207, hy207⟩ : ∃ y_ : List Int, y_ = (([5, 31, 32, 100, 2047, 2048, 65536, 99999] : List Int)) := ⟨_, rfl⟩
   replace H : ((spec_l6Rd_pick.f k s0_0 t199 8).bind fun bt210 => (if 0 ≤ bt210.1 then (if bt210.1 < (y207.length : Int) then ((spec_l4Leaf.f 0 (rd y207 bt210.1)).bind fun bt213 => (some (bt213.1, bt213.2.1, bt213.2.2, bt210.2))) else (none)) else (none))) = some (r1, r2, r3, r4) := by first | (rw [hy207]; with_reducible exact H) | (have H2_ := (Option.bind_some _ _).symm.trans H; rw [hy207]; with_reducible exact H2_) | (have H2_ := (Option.bind_some _ _).symm.trans H; with_reducible exact H2_) | with_reducible exact H | (rw [hy207]; exact H) | exact H
   have Ny207 := X1 hy207
   clear hy207
   replace H := X2 H
   obtain ⟨⟨t210, t211⟩, A140, H⟩ := H
   replace H : (if 0 ≤ t210 then (if t210 < (y207.length : Int) then ((spec_l4Leaf.f 0 (rd y207 t210)).bind fun bt213 => (some (bt213.1, bt213.2.1, bt213.2.2, t211))) else (none)) else (none)) = some (r1, r2, r3, r4) := H
   have A14 := X1 A140
   clear A140
   by_cases c15 : 0 ≤ t210
   ·rw [if_pos c15] at H
    have c15b0 : decide (0 ≤ t210) = true := decide_eq_true c15
    clear c15
    by_cases c16 : t210 < (y207.length : Int)
    ·rw [if_pos c16] at H
     have c16b0 : decide (t210 < (y207.length : Int)) = true := decide_eq_true c16
     clear c16
     replace H := X2 H
     obtain ⟨⟨t213, t214, t215⟩, A170, H⟩ := H
     replace H : (some (t213, t214, t215, t211)) = some (r1, r2, r3, r4) := H
     have A17 := X1 A170
     clear A170
     simp only [Option.some.injEq, Prod.mk.injEq] at H
     obtain ⟨rfl, rfl, rfl, rfl⟩ := H
     go_enter Try.func48, Try.ntmps48
     go_wp2_with (first | ((with_reducible refine gate_dst (N := 2) rfl ?_); refine box_event ?hg (N := 2) ?hd (cs := #[.int .i64 0, .int .i64 0, .slice none 0 0]) (t := 29) ?hr ?_; (case hd => rfl); (case hg => rfl); (case hr => first | (go_simp; done) | (go_simp; rfl)); intro gb197 hg w18 hbox hb; have n0_ := X1 (IsS60.below (by repeat (first | (with_reducible first | exact HI0.out | apply IsS60.alloc | apply IsS60.drewN | apply IsS60.drew | apply IsS60.set_1) | exact HI0.out)) hb); have n1_ := X1 (KeepBut.trans (by repeat (first | (with_reducible first | exact HK.out | apply KeepBut.set_ | apply keep_drewN | apply keep_drew | apply keep_alloc) | exact HK.out)) (KeepBut.of_below hb g none) (.inl rfl)); have n2_ := X1 (below_step (by repeat (first | (with_reducible first | exact HB.out | apply X5 | apply X4 | apply X3 | refine X10 ?_ (IsS60.ge HI0.out)) | exact HB.out)) hb); have n3_ := X1 (hbox); have n4_ := X1 ((by rw [hg]; exact (keep_size (w := w) (g := g) (row := none) (by repeat (first | (with_reducible first | exact HK.out | apply KeepBut.set_ | apply keep_drewN | apply keep_drew | apply keep_alloc) | exact HK.out))) : w.heap.size ≤ gb197)); have n5_ := X1 ((Nat.le_trans HW0.out (by rw [hg]; exact (keep_size (w := w) (g := g) (row := none) (by repeat (first | (with_reducible first | exact HK.out | apply KeepBut.set_ | apply keep_drewN | apply keep_drew | apply keep_alloc) | exact HK.out))) : w.heap.size ≤ gb197) : w0.heap.size ≤ gb197)); have n6_ := X1 ((by rw [hg]; exact Nat.ne_of_lt (IsS60.lt (show IsS60 w0 _ g s0_0 s0_1 from by repeat (first | (with_reducible first | exact HI0.out | apply IsS60.alloc | apply IsS60.drewN | apply IsS60.drew | apply IsS60.set_1) | exact HI0.out))) : g ≠ gb197)); have n7_ := X1 ((by rw [hg]; exact Nat.ne_of_gt (IsS60.lt (show IsS60 w0 _ g s0_0 s0_1 from by repeat (first | (with_reducible first | exact HI0.out | apply IsS60.alloc | apply IsS60.drewN | apply IsS60.drew | apply IsS60.set_1) | exact HI0.out))) : gb197 ≠ g)); clear HI0; clear HK; clear HB; have HI0 := n0_; have HK := n1_; have HB := n2_; have BK197 := n3_; have GW197 := n4_; have GE197 := n5_; have NB0_197 := n6_; have NB197_0 := n7_; clear n0_ n1_ n2_ n3_ n4_ n5_ n6_ n7_; clear hb hbox hg) | ((with_reducible refine gate_callee (f := 44) rfl ?_); refine goesL_ (some 4) rfl rfl Try.func44 (by kernel_rfl) rfl #[.pointer (some ⟨g, 0, none⟩), .int .i64 4] rfl (by (try simp only [List.map_toArray, List.map_cons, List.map_nil]); first | done | rfl | (simp only [List.length_drop, List.length_take]; rfl)) ?_; (with_reducible refine (spec_l6Rd_pick.calls k g s0_0 s0_1 4 t198 t199 w0 _ ?side1 ?side2 A2.out).mono ?_); (case side1 => repeat (first | (with_reducible first | exact HI0.out | apply IsS60.alloc | apply IsS60.drewN | apply IsS60.drew | apply IsS60.set_1 | refine IsS60.far ?_ NB0_197.out _) | exact HI0.out)); (case side2 => repeat (first | (with_reducible first | exact HB.out | apply X5 | apply X4 | apply X3 | refine X10 ?_ (IsS60.ge HI0.out) | refine X10 ?_ GE197.out) | exact HB.out)); rintro e w19 ⟨rfl, hi, hb, hk⟩; refine ⟨_, rfl, ?_⟩; have n0_ := X1 (KeepBut.blk hk (g' := gb197) (o := .cells #[.int .i64 0, .int .i64 0, .slice none 0 0] 29 (0, 0)) (by (with_reducible repeat (first | refine X7 ?_ _ | refine X8 ?_ | refine X6 ?_ _)); exact BK197.out) NB197_0.out (by simp)); have n1_ := X1 (KeepBut.trans (by repeat (first | (with_reducible first | exact HK.out | apply KeepBut.set_ | apply keep_drewN | apply keep_drew | apply keep_alloc | refine keep_far ?_ GW197.out _) | exact HK.out)) hk (.inl rfl)); have n2_ := X1 (hb); have n3_ := X1 (hi); clear BK197; clear HK; clear HB; clear HI0; have BK197 := n0_; have HK := n1_; have HB := n2_; have HI0 := n3_; clear n0_ n1_ n2_ n3_; (try clear hb); (try clear hb2); (try clear hk); (try clear hi)) | ((with_reducible refine gate_dst (N := 12) rfl ?_); refine Kd.R_lit (Kd.int .i64) _ 3 ?hg (N := 12) ?hd (xs := ([5, 31, 32, 100, 2047, 2048, 65536, 99999] : List Int)) (inner := [.int .i64 5, .int .i64 31, .int .i64 32, .int .i64 100, .int .i64 2047, .int .i64 2048, .int .i64 65536, .int .i64 99999]) (ok := fun _ => True) (okp := fun _ => True) ?hr ?hp (fun _ hk => hk) trivial (Below.refl _ _) (Nat.le_refl _) (by simp) ?_; (case hd => rfl); (case hg => rfl); (case hr => first | (go_simp; done) | (go_simp; rfl)); (case hp => exact (Reps.one (show Kd.M (Kd.int .i64) _ _ _ 5 [.int .i64 5] from rfl) (Reps.one (show Kd.M (Kd.int .i64) _ _ _ 31 [.int .i64 31] from rfl) (Reps.one (show Kd.M (Kd.int .i64) _ _ _ 32 [.int .i64 32] from rfl) (Reps.one (show Kd.M (Kd.int .i64) _ _ _ 100 [.int .i64 100] from rfl) (Reps.one (show Kd.M (Kd.int .i64) _ _ _ 2047 [.int .i64 2047] from rfl) (Reps.one (show Kd.M (Kd.int .i64) _ _ _ 2048 [.int .i64 2048] from rfl) (Reps.one (show Kd.M (Kd.int .i64) _ _ _ 65536 [.int .i64 65536] from rfl) (Reps.one (show Kd.M (Kd.int .i64) _ _ _ 99999 [.int .i64 99999] from rfl) (Reps.none _ _)))))))))); intro v208 w20 ho21 hb hg_ hnew_; clear hg_ hnew_; (first | rw [← Ny207.out] at ho21 | (simp only [Int.reduceToNat] at ho21; rw [← Ny207.out] at ho21)); have n0_ := X1 (Kd.R_lower ho21 (keep_size (w := w) (g := g) (row := none) (by repeat (first | (with_reducible first | exact HK.out | apply KeepBut.set_ | apply keep_drewN | apply keep_drew | apply keep_alloc | refine keep_far ?_ GW197.out _) | exact HK.out)))); have n1_ := X1 (IsS60.below (by repeat (first | (with_reducible first | exact HI0.out | apply IsS60.alloc | apply IsS60.drewN | apply IsS60.drew | apply IsS60.set_1 | refine IsS60.far ?_ NB0_197.out _) | exact HI0.out)) hb); have n2_ := X1 (blk_below (g := gb197) (o := .cells #[.int .i64 0, .int .i64 0, .slice none 0 0] 29 (0, 0)) (by (with_reducible repeat (first | refine X7 ?_ _ | refine X8 ?_ | refine X6 ?_ _)); exact BK197.out) hb); have n3_ := X1 (KeepBut.trans (by repeat (first | (with_reducible first | exact HK.out | apply KeepBut.set_ | apply keep_drewN | apply keep_drew | apply keep_alloc | refine keep_far ?_ GW197.out _) | exact HK.out)) (KeepBut.of_below hb g none) (.inl rfl)); have n4_ := X1 (below_step (by repeat (first | (with_reducible first | exact HB.out | apply X5 | apply X4 | apply X3 | refine X10 ?_ (IsS60.ge HI0.out) | refine X10 ?_ GE197.out) | exact HB.out)) hb); clear HI0; clear BK197; clear HK; clear HB; have HO209 := n0_; have HI0 := n1_; have BK197 := n2_; have HK := n3_; have HB := n4_; clear n0_ n1_ n2_ n3_ n4_; clear hb ho21) | ((with_reducible refine gate_callee (f := 44) rfl ?_); refine goesL_ (some 14) rfl rfl Try.func44 (by kernel_rfl) rfl #[.pointer (some ⟨g, 0, none⟩), .int .i64 8] rfl (by (try simp only [List.map_toArray, List.map_cons, List.map_nil]); first | done | rfl | (simp only [List.length_drop, List.length_take]; rfl)) ?_; (with_reducible refine (spec_l6Rd_pick.calls k g s0_0 t199 8 t210 t211 w0 _ ?side1 ?side2 A14.out).mono ?_); (case side1 => repeat (first | (with_reducible first | exact HI0.out | apply IsS60.alloc | apply IsS60.drewN | apply IsS60.drew | apply IsS60.set_1 | refine IsS60.far ?_ NB0_197.out _) | exact HI0.out)); (case side2 => repeat (first | (with_reducible first | exact HB.out | apply X5 | apply X4 | apply X3 | refine X10 ?_ (IsS60.ge HI0.out) | refine X10 ?_ GE197.out) | exact HB.out)); rintro e w22 ⟨rfl, hi, hb, hk⟩; refine ⟨_, rfl, ?_⟩; have n0_ := X1 (KeepBut.blk hk (g' := gb197) (o := .cells #[.int .i64 0, .int .i64 0, .slice none 0 0] 29 (0, 0)) (by (with_reducible repeat (first | refine X7 ?_ _ | refine X8 ?_ | refine X6 ?_ _)); exact BK197.out) NB197_0.out (by simp)); have n1_ := X1 (Kd.R_mono (Kd.R_keep (IsS60.apart (show IsS60 w0 _ g s0_0 t199 from by repeat (first | (with_reducible first | exact HI0.out | apply IsS60.alloc | apply IsS60.drewN | apply IsS60.drew | apply IsS60.set_1 | refine IsS60.far ?_ NB0_197.out _) | exact HI0.out)) (by (with_reducible repeat (first | apply Kd.R_alloc | apply Kd.R_drewN | apply Kd.R_drew)); exact HO209.out) (by decide)) hk (fun _ h => h.2)) (fun _ h => h.1)); have n2_ := X1 (KeepBut.trans (by repeat (first | (with_reducible first | exact HK.out | apply KeepBut.set_ | apply keep_drewN | apply keep_drew | apply keep_alloc | refine keep_far ?_ GW197.out _) | exact HK.out)) hk (.inl rfl)); have n3_ := X1 (hb); have n4_ := X1 (hi); clear BK197; clear HO209; clear HK; clear HB; clear HI0; have BK197 := n0_; have HO209 := n1_; have HK := n2_; have HB := n3_; have HI0 := n4_; clear n0_ n1_ n2_ n3_ n4_; (try clear hb); (try clear hb2); (try clear hk); (try clear hi); obtain ⟨Ao23, co23, eo23⟩ := Kd.R_slice HO209.out; subst eo23; have p212 : 0 ≤ (t210 : Int) := of_decide_eq_true (by first | (with_reducible assumption) | assumption); have q212 : t210 < (y207.length : Int) := of_decide_eq_true (by first | (with_reducible assumption) | assumption); obtain ⟨ad212, e212, hx212_0⟩ := Kd.at_int (Kd.R_reads' HO209.out).2.2 t210 p212 q212; cases e212; replace p212 := eq_true p212; replace q212 := eq_true q212) | ((with_reducible refine gate_callee (f := 47) rfl ?_); refine goesL_ (some 17) rfl rfl Try.func47 (by kernel_rfl) rfl #[.int .i64 0, .int .i64 (rd y207 t210)] rfl (by (try simp only [List.map_toArray, List.map_cons, List.map_nil]); first | done | rfl | (simp only [List.length_drop, List.length_take]; rfl)) ?_; (with_reducible refine (spec_l4Leaf.calls 0 (rd y207 t210) t213 t214 t215 _ A17.out).mono ?_); rintro e w24 ⟨v216, rfl, ho0, hb⟩; refine ⟨_, rfl, ?_⟩; have n0_ := X1 (Kd.R_below (by (with_reducible repeat (first | apply Kd.R_alloc | apply Kd.R_drewN | apply Kd.R_drew)); exact HO209.out) hb); have n1_ := X1 (Kd.R_lower (Kd.R_newB ho0 (g := gb197) (o := .cells #[.int .i64 0, .int .i64 0, .slice none 0 0] 29 (0, 0)) (by (with_reducible repeat (first | refine X7 ?_ _ | refine X8 ?_ | refine X6 ?_ _)); exact BK197.out)) (keep_size (w := w) (g := g) (row := none) (by repeat (first | (with_reducible first | exact HK.out | apply KeepBut.set_ | apply keep_drewN | apply keep_drew | apply keep_alloc | refine keep_far ?_ GW197.out _) | exact HK.out)))); have n2_ := X1 (IsS60.below (by repeat (first | (with_reducible first | exact HI0.out | apply IsS60.alloc | apply IsS60.drewN | apply IsS60.drew | apply IsS60.set_1 | refine IsS60.far ?_ NB0_197.out _) | exact HI0.out)) hb); have n3_ := X1 (blk_below (g := gb197) (o := .cells #[.int .i64 0, .int .i64 0, .slice none 0 0] 29 (0, 0)) (by (with_reducible repeat (first | refine X7 ?_ _ | refine X8 ?_ | refine X6 ?_ _)); exact BK197.out) hb); have n4_ := X1 (KeepBut.trans (by repeat (first | (with_reducible first | exact HK.out | apply KeepBut.set_ | apply keep_drewN | apply keep_drew | apply keep_alloc | refine keep_far ?_ GW197.out _) | exact HK.out)) (KeepBut.of_below hb g none) (.inl rfl)); have n5_ := X1 (below_step (by repeat (first | (with_reducible first | exact HB.out | apply X5 | apply X4 | apply X3 | refine X10 ?_ (IsS60.ge HI0.out) | refine X10 ?_ GE197.out) | exact HB.out)) hb); clear HO209; clear HI0; clear BK197; clear HK; clear HB; have HO209 := n0_; have HO217 := n1_; have HI0 := n2_; have BK197 := n3_; have HK := n4_; have HB := n5_; clear n0_ n1_ n2_ n3_ n4_ n5_; (try clear hb); (try clear hb2); (try clear hk); (try clear hi); (try clear ho0); have hnb25 := NB197_0.out; have hnc25 := NB0_197.out; have hcz26_0 : w24.cell? ⟨gb197, 0, none⟩ = some (.int .i64 0) := (X11 BK197.out 0).trans rfl; have hcz26_1 : w24.cell? ⟨gb197, 1, none⟩ = some (.int .i64 0) := (X11 BK197.out 1).trans rfl; have hcz26_2 : w24.cell? ⟨gb197, 2, none⟩ = some (.slice none 0 0) := (X11 BK197.out 2).trans rfl; have hfz26_0 := X12 BK197.out 0; have hfz26_1 := X12 BK197.out 1; have hfz26_2 := X12 BK197.out 2; obtain ⟨Ao27, co27, eo27⟩ := Kd.R_slice HO217.out; subst eo27))
     refine bodyPost_ret (results_cell_row rfl _ _ gb197 29 #[.int .i64 t213, .int .i64 t214, .slice Ao27 t215.length co27] (0, 0) _ rfl (by (with_reducible repeat (first | refine X7 ?_ _ | refine X8 ?_ | refine X6 ?_ _)); refine blk_put (cs := #[.int .i64 t213, .int .i64 t214, .slice none 0 0]) ?_ 2 _ rfl; (with_reducible repeat (first | refine X7 ?_ _ | refine X8 ?_ | refine X6 ?_ _)); refine blk_put (cs := #[.int .i64 t213, .int .i64 0, .slice none 0 0]) ?_ 1 _ rfl; (with_reducible repeat (first | refine X7 ?_ _ | refine X8 ?_ | refine X6 ?_ _)); refine blk_put (cs := #[.int .i64 0, .int .i64 0, .slice none 0 0]) ?_ 0 _ rfl; (with_reducible repeat (first | refine X7 ?_ _ | refine X8 ?_ | refine X6 ?_ _)); exact BK197.out) Try.underlying29 rfl (by kernel_rfl)) rfl ?_
     exact ⟨_, by first | rfl | (simp [errW_none, errW_some] <;> rfl) | (simp [*, errW_none, errW_some] <;> rfl), by (with_reducible repeat (first | apply Kd.R_alloc | apply Kd.R_drewN | apply Kd.R_drew)); exact Kd.R_mono (Kd.R_far (p := ⟨gb197, 2, none⟩) (Kd.R_far (p := ⟨gb197, 1, none⟩) (Kd.R_far (p := ⟨gb197, 0, none⟩) (Kd.R_mono HO217.out (fun k_ hk => (⟨hk, hk.2⟩ : _ ∧ k_ ≠ gb197))) (fun _ hk => hk.2) (.int .i64 t213)) (fun _ hk => hk.2) (.int .i64 t214)) (fun _ hk => hk.2) (.slice Ao27 t215.length co27)) (fun _ hk => trivial), by repeat (first | (with_reducible first | exact HI0.out | apply IsS60.alloc | apply IsS60.drewN | apply IsS60.drew | apply IsS60.set_1 | refine IsS60.far ?_ NB0_197.out _) | exact HI0.out), by repeat (first | (with_reducible first | exact HB.out | apply X5 | apply X4 | apply X3 | refine X10 ?_ (IsS60.ge HI0.out) | refine X10 ?_ GE197.out) | exact HB.out), by repeat (first | (with_reducible first | exact HK.out | apply KeepBut.set_ | apply keep_drewN | apply keep_drew | apply keep_alloc | refine keep_far ?_ GW197.out _) | exact HK.out)⟩
    ·rw [if_neg c16] at H
     exact absurd H (by simp)
   ·rw [if_neg c15] at H
    exact absurd H (by simp)
  ·rw [if_neg c13] at H
   have c13b0 : (t198 == 1) = false := beq_eq_false_iff_ne.mpr c13
   have c13b1 : (t198 != 1) = true := bne_iff_ne.mpr c13
   replace H := X2 H
   obtain ⟨⟨t218, t219⟩, A280, H⟩ := H
   replace H : ((spec_l4Leaf.f 13 t218).bind fun bt220 => (some (bt220.1, bt220.2.1, bt220.2.2, t219))) = some (r1, r2, r3, r4) := H
   have A28 := X1 A280
   clear A280
   replace H := X2 H
   obtain ⟨⟨t220, t221, t222⟩, A290, H⟩ := H
   replace H : (some (t220, t221, t222, t219)) = some (r1, r2, r3, r4) := H
   have A29 := X1 A290
   clear A290
   simp only [Option.some.injEq, Prod.mk.injEq] at H
   obtain ⟨rfl, rfl, rfl, rfl⟩ := H
   go_enter Try.func48, Try.ntmps48
   go_wp2_with (first | ((with_reducible refine gate_dst (N := 2) rfl ?_); refine box_event ?hg (N := 2) ?hd (cs := #[.int .i64 0, .int .i64 0, .slice none 0 0]) (t := 29) ?hr ?_; (case hd => rfl); (case hg => rfl); (case hr => first | (go_simp; done) | (go_simp; rfl)); intro gb197 hg w30 hbox hb; have n0_ := X1 (IsS60.below (by repeat (first | (with_reducible first | exact HI0.out | apply IsS60.alloc | apply IsS60.drewN | apply IsS60.drew | apply IsS60.set_1) | exact HI0.out)) hb); have n1_ := X1 (KeepBut.trans (by repeat (first | (with_reducible first | exact HK.out | apply KeepBut.set_ | apply keep_drewN | apply keep_drew | apply keep_alloc) | exact HK.out)) (KeepBut.of_below hb g none) (.inl rfl)); have n2_ := X1 (below_step (by repeat (first | (with_reducible first | exact HB.out | apply X5 | apply X4 | apply X3 | refine X10 ?_ (IsS60.ge HI0.out)) | exact HB.out)) hb); have n3_ := X1 (hbox); have n4_ := X1 ((by rw [hg]; exact (keep_size (w := w) (g := g) (row := none) (by repeat (first | (with_reducible first | exact HK.out | apply KeepBut.set_ | apply keep_drewN | apply keep_drew | apply keep_alloc) | exact HK.out))) : w.heap.size ≤ gb197)); have n5_ := X1 ((Nat.le_trans HW0.out (by rw [hg]; exact (keep_size (w := w) (g := g) (row := none) (by repeat (first | (with_reducible first | exact HK.out | apply KeepBut.set_ | apply keep_drewN | apply keep_drew | apply keep_alloc) | exact HK.out))) : w.heap.size ≤ gb197) : w0.heap.size ≤ gb197)); have n6_ := X1 ((by rw [hg]; exact Nat.ne_of_lt (IsS60.lt (show IsS60 w0 _ g s0_0 s0_1 from by repeat (first | (with_reducible first | exact HI0.out | apply IsS60.alloc | apply IsS60.drewN | apply IsS60.drew | apply IsS60.set_1) | exact HI0.out))) : g ≠ gb197)); have n7_ := X1 ((by rw [hg]; exact Nat.ne_of_gt (IsS60.lt (show IsS60 w0 _ g s0_0 s0_1 from by repeat (first | (with_reducible first | exact HI0.out | apply IsS60.alloc | apply IsS60.drewN | apply IsS60.drew | apply IsS60.set_1) | exact HI0.out))) : gb197 ≠ g)); clear HI0; clear HK; clear HB; have HI0 := n0_; have HK := n1_; have HB := n2_; have BK197 := n3_; have GW197 := n4_; have GE197 := n5_; have NB0_197 := n6_; have NB197_0 := n7_; clear n0_ n1_ n2_ n3_ n4_ n5_ n6_ n7_; clear hb hbox hg) | ((with_reducible refine gate_callee (f := 44) rfl ?_); refine goesL_ (some 4) rfl rfl Try.func44 (by kernel_rfl) rfl #[.pointer (some ⟨g, 0, none⟩), .int .i64 4] rfl (by (try simp only [List.map_toArray, List.map_cons, List.map_nil]); first | done | rfl | (simp only [List.length_drop, List.length_take]; rfl)) ?_; (with_reducible refine (spec_l6Rd_pick.calls k g s0_0 s0_1 4 t198 t199 w0 _ ?side1 ?side2 A2.out).mono ?_); (case side1 => repeat (first | (with_reducible first | exact HI0.out | apply IsS60.alloc | apply IsS60.drewN | apply IsS60.drew | apply IsS60.set_1 | refine IsS60.far ?_ NB0_197.out _) | exact HI0.out)); (case side2 => repeat (first | (with_reducible first | exact HB.out | apply X5 | apply X4 | apply X3 | refine X10 ?_ (IsS60.ge HI0.out) | refine X10 ?_ GE197.out) | exact HB.out)); rintro e w31 ⟨rfl, hi, hb, hk⟩; refine ⟨_, rfl, ?_⟩; have n0_ := X1 (KeepBut.blk hk (g' := gb197) (o := .cells #[.int .i64 0, .int .i64 0, .slice none 0 0] 29 (0, 0)) (by (with_reducible repeat (first | refine X7 ?_ _ | refine X8 ?_ | refine X6 ?_ _)); exact BK197.out) NB197_0.out (by simp)); have n1_ := X1 (KeepBut.trans (by repeat (first | (with_reducible first | exact HK.out | apply KeepBut.set_ | apply keep_drewN | apply keep_drew | apply keep_alloc | refine keep_far ?_ GW197.out _) | exact HK.out)) hk (.inl rfl)); have n2_ := X1 (hb); have n3_ := X1 (hi); clear BK197; clear HK; clear HB; clear HI0; have BK197 := n0_; have HK := n1_; have HB := n2_; have HI0 := n3_; clear n0_ n1_ n2_ n3_; (try clear hb); (try clear hb2); (try clear hk); (try clear hi)) | ((with_reducible refine gate_callee (f := 44) rfl ?_); refine goesL_ (some 19) rfl rfl Try.func44 (by kernel_rfl) rfl #[.pointer (some ⟨g, 0, none⟩), .int .i64 4] rfl (by (try simp only [List.map_toArray, List.map_cons, List.map_nil]); first | done | rfl | (simp only [List.length_drop, List.length_take]; rfl)) ?_; (with_reducible refine (spec_l6Rd_pick.calls k g s0_0 t199 4 t218 t219 w0 _ ?side1 ?side2 A28.out).mono ?_); (case side1 => repeat (first | (with_reducible first | exact HI0.out | apply IsS60.alloc | apply IsS60.drewN | apply IsS60.drew | apply IsS60.set_1 | refine IsS60.far ?_ NB0_197.out _) | exact HI0.out)); (case side2 => repeat (first | (with_reducible first | exact HB.out | apply X5 | apply X4 | apply X3 | refine X10 ?_ (IsS60.ge HI0.out) | refine X10 ?_ GE197.out) | exact HB.out)); rintro e w32 ⟨rfl, hi, hb, hk⟩; refine ⟨_, rfl, ?_⟩; have n0_ := X1 (KeepBut.blk hk (g' := gb197) (o := .cells #[.int .i64 0, .int .i64 0, .slice none 0 0] 29 (0, 0)) (by (with_reducible repeat (first | refine X7 ?_ _ | refine X8 ?_ | refine X6 ?_ _)); exact BK197.out) NB197_0.out (by simp)); have n1_ := X1 (KeepBut.trans (by repeat (first | (with_reducible first | exact HK.out | apply KeepBut.set_ | apply keep_drewN | apply keep_drew | apply keep_alloc | refine keep_far ?_ GW197.out _) | exact HK.out)) hk (.inl rfl)); have n2_ := X1 (hb); have n3_ := X1 (hi); clear BK197; clear HK; clear HB; clear HI0; have BK197 := n0_; have HK := n1_; have HB := n2_; have HI0 := n3_; clear n0_ n1_ n2_ n3_; (try clear hb); (try clear hb2); (try clear hk); (try clear hi)) | ((with_reducible refine gate_callee (f := 47) rfl ?_); refine goesL_ (some 20) rfl rfl Try.func47 (by kernel_rfl) rfl #[.int .i64 13, .int .i64 t218] rfl (by (try simp only [List.map_toArray, List.map_cons, List.map_nil]); first | done | rfl | (simp only [List.length_drop, List.length_take]; rfl)) ?_; (with_reducible refine (spec_l4Leaf.calls 13 t218 t220 t221 t222 _ A29.out).mono ?_); rintro e w33 ⟨v223, rfl, ho0, hb⟩; refine ⟨_, rfl, ?_⟩; have n0_ := X1 (Kd.R_lower (Kd.R_newB ho0 (g := gb197) (o := .cells #[.int .i64 0, .int .i64 0, .slice none 0 0] 29 (0, 0)) (by (with_reducible repeat (first | refine X7 ?_ _ | refine X8 ?_ | refine X6 ?_ _)); exact BK197.out)) (keep_size (w := w) (g := g) (row := none) (by repeat (first | (with_reducible first | exact HK.out | apply KeepBut.set_ | apply keep_drewN | apply keep_drew | apply keep_alloc | refine keep_far ?_ GW197.out _) | exact HK.out)))); have n1_ := X1 (IsS60.below (by repeat (first | (with_reducible first | exact HI0.out | apply IsS60.alloc | apply IsS60.drewN | apply IsS60.drew | apply IsS60.set_1 | refine IsS60.far ?_ NB0_197.out _) | exact HI0.out)) hb); have n2_ := X1 (blk_below (g := gb197) (o := .cells #[.int .i64 0, .int .i64 0, .slice none 0 0] 29 (0, 0)) (by (with_reducible repeat (first | refine X7 ?_ _ | refine X8 ?_ | refine X6 ?_ _)); exact BK197.out) hb); have n3_ := X1 (KeepBut.trans (by repeat (first | (with_reducible first | exact HK.out | apply KeepBut.set_ | apply keep_drewN | apply keep_drew | apply keep_alloc | refine keep_far ?_ GW197.out _) | exact HK.out)) (KeepBut.of_below hb g none) (.inl rfl)); have n4_ := X1 (below_step (by repeat (first | (with_reducible first | exact HB.out | apply X5 | apply X4 | apply X3 | refine X10 ?_ (IsS60.ge HI0.out) | refine X10 ?_ GE197.out) | exact HB.out)) hb); clear HI0; clear BK197; clear HK; clear HB; have HO224 := n0_; have HI0 := n1_; have BK197 := n2_; have HK := n3_; have HB := n4_; clear n0_ n1_ n2_ n3_ n4_; (try clear hb); (try clear hb2); (try clear hk); (try clear hi); (try clear ho0); have hnb34 := NB197_0.out; have hnc34 := NB0_197.out; have hcz35_0 : w33.cell? ⟨gb197, 0, none⟩ = some (.int .i64 0) := (X11 BK197.out 0).trans rfl; have hcz35_1 : w33.cell? ⟨gb197, 1, none⟩ = some (.int .i64 0) := (X11 BK197.out 1).trans rfl; have hcz35_2 : w33.cell? ⟨gb197, 2, none⟩ = some (.slice none 0 0) := (X11 BK197.out 2).trans rfl; have hfz35_0 := X12 BK197.out 0; have hfz35_1 := X12 BK197.out 1; have hfz35_2 := X12 BK197.out 2; obtain ⟨Ao36, co36, eo36⟩ := Kd.R_slice HO224.out; subst eo36))
   refine bodyPost_ret (results_cell_row rfl _ _ gb197 29 #[.int .i64 t220, .int .i64 t221, .slice Ao36 t222.length co36] (0, 0) _ rfl (by (with_reducible repeat (first | refine X7 ?_ _ | refine X8 ?_ | refine X6 ?_ _)); refine blk_put (cs := #[.int .i64 t220, .int .i64 t221, .slice none 0 0]) ?_ 2 _ rfl; (with_reducible repeat (first | refine X7 ?_ _ | refine X8 ?_ | refine X6 ?_ _)); refine blk_put (cs := #[.int .i64 t220, .int .i64 0, .slice none 0 0]) ?_ 1 _ rfl; (with_reducible repeat (first | refine X7 ?_ _ | refine X8 ?_ | refine X6 ?_ _)); refine blk_put (cs := #[.int .i64 0, .int .i64 0, .slice none 0 0]) ?_ 0 _ rfl; (with_reducible repeat (first | refine X7 ?_ _ | refine X8 ?_ | refine X6 ?_ _)); exact BK197.out) Try.underlying29 rfl (by kernel_rfl)) rfl ?_
   exact ⟨_, by first | rfl | (simp [errW_none, errW_some] <;> rfl) | (simp [*, errW_none, errW_some] <;> rfl), by (with_reducible repeat (first | apply Kd.R_alloc | apply Kd.R_drewN | apply Kd.R_drew)); exact Kd.R_mono (Kd.R_far (p := ⟨gb197, 2, none⟩) (Kd.R_far (p := ⟨gb197, 1, none⟩) (Kd.R_far (p := ⟨gb197, 0, none⟩) (Kd.R_mono HO224.out (fun k_ hk => (⟨hk, hk.2⟩ : _ ∧ k_ ≠ gb197))) (fun _ hk => hk.2) (.int .i64 t220)) (fun _ hk => hk.2) (.int .i64 t221)) (fun _ hk => hk.2) (.slice Ao36 t222.length co36)) (fun _ hk => trivial), by repeat (first | (with_reducible first | exact HI0.out | apply IsS60.alloc | apply IsS60.drewN | apply IsS60.drew | apply IsS60.set_1 | refine IsS60.far ?_ NB0_197.out _) | exact HI0.out), by repeat (first | (with_reducible first | exact HB.out | apply X5 | apply X4 | apply X3 | refine X10 ?_ (IsS60.ge HI0.out) | refine X10 ?_ GE197.out) | exact HB.out), by repeat (first | (with_reducible first | exact HK.out | apply KeepBut.set_ | apply keep_drewN | apply keep_drew | apply keep_alloc | refine keep_far ?_ GW197.out _) | exact HK.out)⟩

/-! ### spec_l91Expr: function 56 -/
mutual
def spec_l91Expr.j0 : Nat → Int → Bool → List Int → Int → Option (Int × Int × (List (S29)) × Int)
 | 0, _, _, _, _ => none
 | k + 1, x1, x13, x1000, x1001 => if x13 = true then ((spec_l91Leaf.f k x1000 x1001).bind fun bt228 => (some (bt228.1, bt228.2.1, bt228.2.2.1, bt228.2.2.2))) else ((spec_l91Op.f k x1000 x1001).bind fun bt234 => ((spec_l91Expr.f k x1000 bt234.2 (wrap64 (x1 - 1))).bind fun bt236 => ((spec_l91Expr.f k x1000 bt236.2.2.2 (wrap64 (x1 - 1))).bind fun bt243 => ((spec_l4Both.f bt234.1 bt236.1 bt236.2.1 bt236.2.2.1 bt243.1 bt243.2.1 bt243.2.2.1).bind fun bt249 => (some (bt249.1, bt249.2.1, bt249.2.2, bt243.2.2.2))))))
def spec_l91Expr.f : Nat → List Int → Int → Int → Option (Int × Int × (List (S29)) × Int)
 | 0, _, _, _ => none
 | k + 1, s0_0, s0_1, a1 => if a1 < 2 then (spec_l91Expr.j0 k a1 true s0_0 s0_1) else ((spec_l6Rd_pick.f k s0_0 s0_1 3).bind fun bt226 => (spec_l91Expr.j0 k a1 (bt226.1 == 0) s0_0 bt226.2))
end
def spec_l91Expr.T5 : Bool × List (List Nat × List Nat) := (true, [([], []), ([], []), ([], []), ([], []), ([3], [3]), ([2, 4], [2, 4]), ([0, 1, 5, 5], [0, 1, 5]), ([6, 6, 0, 1, 2, 3, 4, 5, 6], [6])])
def spec_l91Expr.B5 : List Nat := [0, 0, 0, 0, 8, 28, 63, 127]
theorem spec_l91Expr.tab5 : rtab .any (opsOf Try.f56 5) = spec_l91Expr.T5 := by kernel_rfl
theorem spec_l91Expr.bits5 : waitsOk spec_l91Expr.T5.2 spec_l91Expr.B5 = true := by kernel_rfl
set_option maxHeartbeats 8000000 in
set_option maxRecDepth 100000 in
theorem spec_l91Expr.calls (k : Nat) : ∀ (g : Nat) (s0_0 : List Int) (s0_1 : Int) (a1 : Int) (r1 : Int) (r2 : Int) (r3 : List (S29)) (r4 : Int) (w0 w : World) (hI : IsS60 w0 w g s0_0 s0_1) (hB : Below w0.heap.size w0 w) (h : spec_l91Expr.f k s0_0 s0_1 a1 = some (r1, r2, r3, r4)),
  Calls Try.prog 56 #[.pointer (some ⟨g, 0, none⟩), .int .i64 a1] w fun e w' => ∃ v2_ : Value, e = .returned (.agg #[.int .i64 r1, .int .i64 r2, v2_]) ∧ Kd.N k29 29 w' w.heap.size (fun k_ => (w.heap.size ≤ k_)) v2_ r3 ∧ IsS60 w0 w' g s0_0 r4 ∧ Below w0.heap.size w0 w' ∧ KeepBut w w' g none := by
 induction k using Nat.strongRecOn with
 | _ k ih =>
 intro g s0_0 s0_1 a1 r1 r2 r3 r4 w0 w hI hB h
 cases k with
 | zero => exact absurd h (by simp [spec_l91Expr.f])
 | succ k =>
 simp only [spec_l91Expr.f] at h
 have hu29 := Try.underlying29
 have HI0 := X1 hI
 have HK := X1 (KeepBut.refl w g none)
 have HL := X1 hB.size
 clear hI
 have HW0 := X1 hB.size
 have HB := X1 hB
 clear hB
 have H : (if a1 < 2 then (spec_l91Expr.j0 k a1 true s0_0 s0_1) else ((spec_l6Rd_pick.f k s0_0 s0_1 3).bind fun bt226 => (spec_l91Expr.j0 k a1 (bt226.1 == 0) s0_0 bt226.2))) = some (r1, r2, r3, r4) := h
 clear h
 have HC3 := X1 H
 clear H
 go_enter Try.func56, Try.ntmps56
 go_upto_region 1 with (first | ((with_reducible refine gate_dst (N := 4) rfl ?_); refine box_event ?hg (N := 4) ?hd (cs := #[.int .i64 0, .int .i64 0, .slice none 0 0]) (t := 29) ?hr ?_; (case hd => rfl); (case hg => rfl); (case hr => first | (go_simp; done) | (go_simp; rfl)); intro gb225 hg w4 hbox hb; have n0_ := X1 (IsS60.below (by repeat (first | (with_reducible first | exact HI0.out | apply IsS60.alloc | apply IsS60.drewN | apply IsS60.drew | apply IsS60.set_1) | exact HI0.out)) hb); have n1_ := X1 (KeepBut.trans (by repeat (first | (with_reducible first | exact HK.out | apply KeepBut.set_ | apply keep_drewN | apply keep_drew | apply keep_alloc) | exact HK.out)) (KeepBut.of_below hb g none) (.inl rfl)); have n2_ := X1 (below_step (by repeat (first | (with_reducible first | exact HB.out | apply X5 | apply X4 | apply X3 | refine X10 ?_ (IsS60.ge HI0.out)) | exact HB.out)) hb); have n3_ := X1 (hbox); have n4_ := X1 ((by rw [hg]; exact (keep_size (w := w) (g := g) (row := none) (by repeat (first | (with_reducible first | exact HK.out | apply KeepBut.set_ | apply keep_drewN | apply keep_drew | apply keep_alloc) | exact HK.out))) : w.heap.size ≤ gb225)); have n5_ := X1 ((Nat.le_trans HW0.out (by rw [hg]; exact (keep_size (w := w) (g := g) (row := none) (by repeat (first | (with_reducible first | exact HK.out | apply KeepBut.set_ | apply keep_drewN | apply keep_drew | apply keep_alloc) | exact HK.out))) : w.heap.size ≤ gb225) : w0.heap.size ≤ gb225)); have n6_ := X1 ((by rw [hg]; exact Nat.ne_of_lt (IsS60.lt (show IsS60 w0 _ g s0_0 s0_1 from by repeat (first | (with_reducible first | exact HI0.out | apply IsS60.alloc | apply IsS60.drewN | apply IsS60.drew | apply IsS60.set_1) | exact HI0.out))) : g ≠ gb225)); have n7_ := X1 ((by rw [hg]; exact Nat.ne_of_gt (IsS60.lt (show IsS60 w0 _ g s0_0 s0_1 from by repeat (first | (with_reducible first | exact HI0.out | apply IsS60.alloc | apply IsS60.drewN | apply IsS60.drew | apply IsS60.set_1) | exact HI0.out))) : gb225 ≠ g)); clear HI0; clear HK; clear HB; have HI0 := n0_; have HK := n1_; have HB := n2_; have BK225 := n3_; have GW225 := n4_; have GE225 := n5_; have NB0_225 := n6_; have NB225_0 := n7_; clear n0_ n1_ n2_ n3_ n4_ n5_ n6_ n7_; clear hb hbox hg))
 (try simp only [Act.put, List.setIfInBounds_toArray, List.set_cons_zero, List.set_cons_succ])
 go_cut [13] (fun v13 wc => ∃ (kq : Nat) (x13_2 : Bool) (x1001_2 : Int), v13 = .bool x13_2 ∧ Aside0 (spec_l91Expr.j0 kq a1 x13_2 s0_0 x1001_2 = some (r1, r2, r3, r4)) ∧ Aside0 (kq ≤ k) ∧ Aside0 (wc.heap[gb225]? = some (.cells #[.int .i64 0, .int .i64 0, (.slice none 0 0)] 29 (0, 0))) ∧ Aside0 (IsS60 w0 wc g s0_0 x1001_2) ∧ Aside0 (KeepBut w wc g none) ∧ Aside0 (Below w0.heap.size w0 wc))
 case first =>
  have H := HC3.out
  clear HC3
  by_cases c5 : a1 < 2
  ·rw [if_pos c5] at H
   have c5b0 : decide (a1 < 2) = true := decide_eq_true c5
   clear c5
   (first | rw [c5b0] | (simp only [i64_w, i32_w]; rw [c5b0]) | skip)
   have H' := X1 H
   clear H
   go_wp2
   go_meet
   case rel => exact ⟨_, (true), (s0_1), (by first | rfl | (simp; done) | (simp [*]; done)), H', ⟨by first | omega | exact Nat.le_refl _⟩, ⟨by (with_reducible repeat (first | refine X7 ?_ _ | refine X8 ?_ | refine X6 ?_ _)); exact BK225.out⟩, ⟨by repeat (first | (with_reducible first | exact HI0.out | apply IsS60.alloc | apply IsS60.drewN | apply IsS60.drew | apply IsS60.set_1 | refine IsS60.far ?_ NB0_225.out _) | exact HI0.out)⟩, ⟨by repeat (first | (with_reducible first | exact HK.out | apply KeepBut.set_ | apply keep_drewN | apply keep_drew | apply keep_alloc | refine keep_far ?_ GW225.out _) | exact HK.out)⟩, ⟨by repeat (first | (with_reducible first | exact HB.out | apply X5 | apply X4 | apply X3 | refine X10 ?_ (IsS60.ge HI0.out) | refine X10 ?_ GE225.out) | exact HB.out)⟩⟩
  ·rw [if_neg c5] at H
   have c5b0 : decide (a1 < 2) = false := decide_eq_false c5
   clear c5
   (first | rw [c5b0] | (simp only [i64_w, i32_w]; rw [c5b0]) | skip)
   replace H := X2 H
   obtain ⟨⟨t226, t227⟩, A60, H⟩ := H
   replace H : (spec_l91Expr.j0 k a1 (t226 == 0) s0_0 t227) = some (r1, r2, r3, r4) := H
   have A6 := X1 A60
   clear A60
   have H' := X1 H
   clear H
   go_wp2_with (first | (go_at_call 44; (with_reducible refine (spec_l6Rd_pick.calls k g s0_0 s0_1 3 t226 t227 w0 _ ?side1 ?side2 A6.out).mono ?_); (case side1 => repeat (first | (with_reducible first | exact HI0.out | apply IsS60.alloc | apply IsS60.drewN | apply IsS60.drew | apply IsS60.set_1 | refine IsS60.far ?_ NB0_225.out _) | exact HI0.out)); (case side2 => repeat (first | (with_reducible first | exact HB.out | apply X5 | apply X4 | apply X3 | refine X10 ?_ (IsS60.ge HI0.out) | refine X10 ?_ GE225.out) | exact HB.out)); rintro e w7 ⟨rfl, hi, hb, hk⟩; have n0_ := X1 (KeepBut.blk hk (g' := gb225) (o := .cells #[.int .i64 0, .int .i64 0, .slice none 0 0] 29 (0, 0)) (by (with_reducible repeat (first | refine X7 ?_ _ | refine X8 ?_ | refine X6 ?_ _)); exact BK225.out) NB225_0.out (by simp)); have n1_ := X1 (KeepBut.trans (by repeat (first | (with_reducible first | exact HK.out | apply KeepBut.set_ | apply keep_drewN | apply keep_drew | apply keep_alloc | refine keep_far ?_ GW225.out _) | exact HK.out)) hk (.inl rfl)); have n2_ := X1 (hb); have n3_ := X1 (hi); clear BK225; clear HK; clear HB; clear HI0; have BK225 := n0_; have HK := n1_; have HB := n2_; have HI0 := n3_; clear n0_ n1_ n2_ n3_; (try clear hb); (try clear hb2); (try clear hk); (try clear hi)))
   go_meet
   case rel => exact ⟨_, ((t226 == 0)), (t227), (by first | rfl | (simp; done) | (simp [*]; done)), H', ⟨by first | omega | exact Nat.le_refl _⟩, ⟨by (with_reducible repeat (first | refine X7 ?_ _ | refine X8 ?_ | refine X6 ?_ _)); exact BK225.out⟩, ⟨by repeat (first | (with_reducible first | exact HI0.out | apply IsS60.alloc | apply IsS60.drewN | apply IsS60.drew | apply IsS60.set_1 | refine IsS60.far ?_ NB0_225.out _) | exact HI0.out)⟩, ⟨by repeat (first | (with_reducible first | exact HK.out | apply KeepBut.set_ | apply keep_drewN | apply keep_drew | apply keep_alloc | refine keep_far ?_ GW225.out _) | exact HK.out)⟩, ⟨by repeat (first | (with_reducible first | exact HB.out | apply X5 | apply X4 | apply X3 | refine X10 ?_ (IsS60.ge HI0.out) | refine X10 ?_ GE225.out) | exact HB.out)⟩⟩
 case rest =>
  clear HC3
  try clear p2
  try clear c5
  try clear c5b0
  obtain ⟨kq, x13_2, x1001_2, rfl, HA, HJ2, BK225, HI0, HK, HB⟩ := hcut
  cases kq with
  | zero => exact absurd HA.out (by simp [spec_l91Expr.j0])
  | succ kj2 =>
   have H := HA.out
   clear HA
   simp only [spec_l91Expr.j0] at H
   by_cases c8 : x13_2 = true
   ·subst c8
    have H1 : ((spec_l91Leaf.f kj2 s0_0 x1001_2).bind fun bt228 => (some (bt228.1, bt228.2.1, bt228.2.2.1, bt228.2.2.2))) = some (r1, r2, r3, r4) := by rw [if_pos rfl] at H; exact H
    clear H
    have H := H1
    clear H1
    replace H := X2 H
    obtain ⟨⟨t228, t229, t230, t233⟩, A90, H⟩ := H
    replace H : (some (t228, t229, t230, t233)) = some (r1, r2, r3, r4) := H
    have A9 := X1 A90
    clear A90
    simp only [Option.some.injEq, Prod.mk.injEq] at H
    obtain ⟨rfl, rfl, rfl, rfl⟩ := H
    go_wp2_with (first | ((with_reducible refine gate_callee (f := 48) rfl ?_); refine goesL_ (some 15) rfl rfl Try.func48 (by kernel_rfl) rfl #[.pointer (some ⟨g, 0, none⟩)] rfl (by (try simp only [List.map_toArray, List.map_cons, List.map_nil]); first | done | rfl | (simp only [List.length_drop, List.length_take]; rfl)) ?_; (with_reducible refine (spec_l91Leaf.calls kj2 g s0_0 x1001_2 t228 t229 t230 t233 w0 _ ?side1 ?side2 A9.out).mono ?_); (case side1 => repeat (first | (with_reducible first | exact HI0.out | apply IsS60.alloc | apply IsS60.drewN | apply IsS60.drew | apply IsS60.set_1 | refine IsS60.far ?_ NB0_225.out _) | exact HI0.out)); (case side2 => repeat (first | (with_reducible first | exact HB.out | apply X5 | apply X4 | apply X3 | refine X10 ?_ (IsS60.ge HI0.out) | refine X10 ?_ GE225.out) | exact HB.out)); rintro e w10 ⟨v231, rfl, ho0, hi, hb, hk⟩; refine ⟨_, rfl, ?_⟩; have n0_ := X1 (KeepBut.blk hk (g' := gb225) (o := .cells #[.int .i64 0, .int .i64 0, .slice none 0 0] 29 (0, 0)) (by (with_reducible repeat (first | refine X7 ?_ _ | refine X8 ?_ | refine X6 ?_ _)); exact BK225.out) NB225_0.out (by simp)); have n1_ := X1 (Kd.N_lower (Kd.N_mono (ok' := fun k_ => (w.heap.size ≤ k_) ∧ k_ ≠ gb225 ∧ k_ ≠ g) (Kd.R_N (Kd.R_bound ho0)) (fun k_ hk_ => ⟨(Nat.le_trans (keep_size (w := w) (g := g) (row := none) (by repeat (first | (with_reducible first | exact HK.out | apply KeepBut.set_ | apply keep_drewN | apply keep_drew | apply keep_alloc | refine keep_far ?_ GW225.out _) | exact HK.out))) hk_.2.1), (Kd.freshB (g := gb225) (o := .cells #[.int .i64 0, .int .i64 0, .slice none 0 0] 29 (0, 0)) (by (with_reducible repeat (first | refine X7 ?_ _ | refine X8 ?_ | refine X6 ?_ _)); exact BK225.out) k_ hk_.2.1), (IsS60.fresh (by repeat (first | (with_reducible first | exact HI0.out | apply IsS60.alloc | apply IsS60.drewN | apply IsS60.drew | apply IsS60.set_1 | refine IsS60.far ?_ NB0_225.out _) | exact HI0.out)) k_ hk_.2.1)⟩)) (keep_size (w := w) (g := g) (row := none) (by repeat (first | (with_reducible first | exact HK.out | apply KeepBut.set_ | apply keep_drewN | apply keep_drew | apply keep_alloc | refine keep_far ?_ GW225.out _) | exact HK.out)))); have n2_ := X1 (KeepBut.trans (by repeat (first | (with_reducible first | exact HK.out | apply KeepBut.set_ | apply keep_drewN | apply keep_drew | apply keep_alloc | refine keep_far ?_ GW225.out _) | exact HK.out)) hk (.inl rfl)); have n3_ := X1 (hb); have n4_ := X1 (hi); clear BK225; clear HK; clear HB; clear HI0; have BK225 := n0_; have HO232 := n1_; have HK := n2_; have HB := n3_; have HI0 := n4_; clear n0_ n1_ n2_ n3_ n4_; (try clear hb); (try clear hb2); (try clear hk); (try clear hi); (try clear ho0); have hnb11 := NB225_0.out; have hnc11 := NB0_225.out; have hcz12_0 : w10.cell? ⟨gb225, 0, none⟩ = some (.int .i64 0) := (X11 BK225.out 0).trans rfl; have hcz12_1 : w10.cell? ⟨gb225, 1, none⟩ = some (.int .i64 0) := (X11 BK225.out 1).trans rfl; have hcz12_2 : w10.cell? ⟨gb225, 2, none⟩ = some (.slice none 0 0) := (X11 BK225.out 2).trans rfl; have hfz12_0 := X12 BK225.out 0; have hfz12_1 := X12 BK225.out 1; have hfz12_2 := X12 BK225.out 2; obtain ⟨Ao13, co13, eo13⟩ := Kd.N_slice HO232.out; subst eo13))
    refine bodyPost_ret (results_cell_row rfl _ _ gb225 29 #[.int .i64 t228, .int .i64 t229, .slice Ao13 t230.length co13] (0, 0) _ rfl (by (with_reducible repeat (first | refine X7 ?_ _ | refine X8 ?_ | refine X6 ?_ _)); refine blk_put (cs := #[.int .i64 t228, .int .i64 t229, .slice none 0 0]) ?_ 2 _ rfl; (with_reducible repeat (first | refine X7 ?_ _ | refine X8 ?_ | refine X6 ?_ _)); refine blk_put (cs := #[.int .i64 t228, .int .i64 0, .slice none 0 0]) ?_ 1 _ rfl; (with_reducible repeat (first | refine X7 ?_ _ | refine X8 ?_ | refine X6 ?_ _)); refine blk_put (cs := #[.int .i64 0, .int .i64 0, .slice none 0 0]) ?_ 0 _ rfl; (with_reducible repeat (first | refine X7 ?_ _ | refine X8 ?_ | refine X6 ?_ _)); exact BK225.out) Try.underlying29 rfl (by kernel_rfl)) rfl ?_
    exact ⟨_, by first | rfl | (simp [errW_none, errW_some] <;> rfl) | (simp [*, errW_none, errW_some] <;> rfl), by (with_reducible repeat (first | apply Kd.N_alloc | apply Kd.N_drewN | apply Kd.N_drew)); exact Kd.N_mono (Kd.N_far (p := ⟨gb225, 2, none⟩) (Kd.N_far (p := ⟨gb225, 1, none⟩) (Kd.N_far (p := ⟨gb225, 0, none⟩) (Kd.N_mono HO232.out (fun k_ hk => (⟨hk, hk.2.1⟩ : _ ∧ k_ ≠ gb225))) (fun _ hk => hk.2) (.int .i64 t228)) (fun _ hk => hk.2) (.int .i64 t229)) (fun _ hk => hk.2) (.slice Ao13 t230.length co13)) (fun _ hk => hk.1.1), by repeat (first | (with_reducible first | exact HI0.out | apply IsS60.alloc | apply IsS60.drewN | apply IsS60.drew | apply IsS60.set_1 | refine IsS60.far ?_ NB0_225.out _) | exact HI0.out), by repeat (first | (with_reducible first | exact HB.out | apply X5 | apply X4 | apply X3 | refine X10 ?_ (IsS60.ge HI0.out) | refine X10 ?_ GE225.out) | exact HB.out), by repeat (first | (with_reducible first | exact HK.out | apply KeepBut.set_ | apply keep_drewN | apply keep_drew | apply keep_alloc | refine keep_far ?_ GW225.out _) | exact HK.out)⟩
   ·replace c8 := Bool.eq_false_iff.mpr c8
    subst c8
    have H1 : ((spec_l91Op.f kj2 s0_0 x1001_2).bind fun bt234 => ((spec_l91Expr.f kj2 s0_0 bt234.2 (wrap64 (a1 - 1))).bind fun bt236 => ((spec_l91Expr.f kj2 s0_0 bt236.2.2.2 (wrap64 (a1 - 1))).bind fun bt243 => ((spec_l4Both.f bt234.1 bt236.1 bt236.2.1 bt236.2.2.1 bt243.1 bt243.2.1 bt243.2.2.1).bind fun bt249 => (some (bt249.1, bt249.2.1, bt249.2.2, bt243.2.2.2)))))) = some (r1, r2, r3, r4) := by rw [if_neg (show ¬ (false = true) by decide)] at H; exact H
    clear H
    have H := H1
    clear H1
    replace H := X2 H
    obtain ⟨⟨t234, t235⟩, A140, H⟩ := H
    replace H : ((spec_l91Expr.f kj2 s0_0 t235 (wrap64 (a1 - 1))).bind fun bt236 => ((spec_l91Expr.f kj2 s0_0 bt236.2.2.2 (wrap64 (a1 - 1))).bind fun bt243 => ((spec_l4Both.f t234 bt236.1 bt236.2.1 bt236.2.2.1 bt243.1 bt243.2.1 bt243.2.2.1).bind fun bt249 => (some (bt249.1, bt249.2.1, bt249.2.2, bt243.2.2.2))))) = some (r1, r2, r3, r4) := H
    have A14 := X1 A140
    clear A140
    replace H := X2 H
    obtain ⟨⟨t236, t237, t238, t241⟩, A150, H⟩ := H
    replace H : ((spec_l91Expr.f kj2 s0_0 t241 (wrap64 (a1 - 1))).bind fun bt243 => ((spec_l4Both.f t234 t236 t237 t238 bt243.1 bt243.2.1 bt243.2.2.1).bind fun bt249 => (some (bt249.1, bt249.2.1, bt249.2.2, bt243.2.2.2)))) = some (r1, r2, r3, r4) := H
    have A15 := X1 A150
    clear A150
    replace H := X2 H
    obtain ⟨⟨t243, t244, t245, t248⟩, A160, H⟩ := H
    replace H : ((spec_l4Both.f t234 t236 t237 t238 t243 t244 t245).bind fun bt249 => (some (bt249.1, bt249.2.1, bt249.2.2, t248))) = some (r1, r2, r3, r4) := H
    have A16 := X1 A160
    clear A160
    replace H := X2 H
    obtain ⟨⟨t249, t250, t251⟩, A170, H⟩ := H
    replace H : (some (t249, t250, t251, t248)) = some (r1, r2, r3, r4) := H
    have A17 := X1 A170
    clear A170
    simp only [Option.some.injEq, Prod.mk.injEq] at H
    obtain ⟨rfl, rfl, rfl, rfl⟩ := H
    try go_wp2_with (first | ((with_reducible refine gate_callee (f := 46) rfl ?_); refine goesL_ (some 17) rfl rfl Try.func46 (by kernel_rfl) rfl #[.pointer (some ⟨g, 0, none⟩)] rfl (by (try simp only [List.map_toArray, List.map_cons, List.map_nil]); first | done | rfl | (simp only [List.length_drop, List.length_take]; rfl)) ?_; (with_reducible refine (spec_l91Op.calls kj2 g s0_0 x1001_2 t234 t235 w0 _ ?side1 ?side2 A14.out).mono ?_); (case side1 => repeat (first | (with_reducible first | exact HI0.out | apply IsS60.alloc | apply IsS60.drewN | apply IsS60.drew | apply IsS60.set_1 | refine IsS60.far ?_ NB0_225.out _) | exact HI0.out)); (case side2 => repeat (first | (with_reducible first | exact HB.out | apply X5 | apply X4 | apply X3 | refine X10 ?_ (IsS60.ge HI0.out) | refine X10 ?_ GE225.out) | exact HB.out)); rintro e w18 ⟨rfl, hi, hb, hk⟩; refine ⟨_, rfl, ?_⟩; have n0_ := X1 (KeepBut.blk hk (g' := gb225) (o := .cells #[.int .i64 0, .int .i64 0, .slice none 0 0] 29 (0, 0)) (by (with_reducible repeat (first | refine X7 ?_ _ | refine X8 ?_ | refine X6 ?_ _)); exact BK225.out) NB225_0.out (by simp)); have n1_ := X1 (KeepBut.trans (by repeat (first | (with_reducible first | exact HK.out | apply KeepBut.set_ | apply keep_drewN | apply keep_drew | apply keep_alloc | refine keep_far ?_ GW225.out _) | exact HK.out)) hk (.inl rfl)); have n2_ := X1 (hb); have n3_ := X1 (hi); clear BK225; clear HK; clear HB; clear HI0; have BK225 := n0_; have HK := n1_; have HB := n2_; have HI0 := n3_; clear n0_ n1_ n2_ n3_; (try clear hb); (try clear hb2); (try clear hk); (try clear hi)) | ((with_reducible refine gate_callee (f := 56) rfl ?_); refine goesL_ (some 21) rfl rfl Try.func56 (by kernel_rfl) rfl #[.pointer (some ⟨g, 0, none⟩), .int .i64 (wrap64 (a1 - 1))] rfl (by (try simp only [List.map_toArray, List.map_cons, List.map_nil]); first | done | rfl | (simp only [List.length_drop, List.length_take]; rfl)) ?_; (with_reducible refine (ih kj2 (by have := HJ2.out; omega) g s0_0 t235 (wrap64 (a1 - 1)) t236 t237 t238 t241 w0 _ ?side1 ?side2 A15.out).mono ?_); (case side1 => repeat (first | (with_reducible first | exact HI0.out | apply IsS60.alloc | apply IsS60.drewN | apply IsS60.drew | apply IsS60.set_1 | refine IsS60.far ?_ NB0_225.out _) | exact HI0.out)); (case side2 => repeat (first | (with_reducible first | exact HB.out | apply X5 | apply X4 | apply X3 | refine X10 ?_ (IsS60.ge HI0.out) | refine X10 ?_ GE225.out) | exact HB.out)); rintro e w19 ⟨v239, rfl, ho0, hi, hb, hk⟩; refine ⟨_, rfl, ?_⟩; have n0_ := X1 (KeepBut.blk hk (g' := gb225) (o := .cells #[.int .i64 0, .int .i64 0, .slice none 0 0] 29 (0, 0)) (by (with_reducible repeat (first | refine X7 ?_ _ | refine X8 ?_ | refine X6 ?_ _)); exact BK225.out) NB225_0.out (by simp)); have n1_ := X1 (Kd.N_lower (Kd.N_mono (ok' := fun k_ => (w.heap.size ≤ k_) ∧ k_ ≠ gb225 ∧ k_ ≠ g) ho0 (fun k_ hk_ => ⟨(Nat.le_trans (keep_size (w := w) (g := g) (row := none) (by repeat (first | (with_reducible first | exact HK.out | apply KeepBut.set_ | apply keep_drewN | apply keep_drew | apply keep_alloc | refine keep_far ?_ GW225.out _) | exact HK.out))) hk_), (Kd.freshB (g := gb225) (o := .cells #[.int .i64 0, .int .i64 0, .slice none 0 0] 29 (0, 0)) (by (with_reducible repeat (first | refine X7 ?_ _ | refine X8 ?_ | refine X6 ?_ _)); exact BK225.out) k_ hk_), (IsS60.fresh (by repeat (first | (with_reducible first | exact HI0.out | apply IsS60.alloc | apply IsS60.drewN | apply IsS60.drew | apply IsS60.set_1 | refine IsS60.far ?_ NB0_225.out _) | exact HI0.out)) k_ hk_)⟩)) (keep_size (w := w) (g := g) (row := none) (by repeat (first | (with_reducible first | exact HK.out | apply KeepBut.set_ | apply keep_drewN | apply keep_drew | apply keep_alloc | refine keep_far ?_ GW225.out _) | exact HK.out)))); have n2_ := X1 (KeepBut.trans (by repeat (first | (with_reducible first | exact HK.out | apply KeepBut.set_ | apply keep_drewN | apply keep_drew | apply keep_alloc | refine keep_far ?_ GW225.out _) | exact HK.out)) hk (.inl rfl)); have n3_ := X1 (hb); have n4_ := X1 (hi); clear BK225; clear HK; clear HB; clear HI0; have BK225 := n0_; have HO240 := n1_; have HK := n2_; have HB := n3_; have HI0 := n4_; clear n0_ n1_ n2_ n3_ n4_; (try clear hb); (try clear hb2); (try clear hk); (try clear hi); (try clear ho0)) | ((with_reducible refine gate_dst (N := 6) rfl ?_); refine box_event ?hg (N := 6) ?hd (cs := #[.int .i64 0, .int .i64 0, .slice none 0 0]) (t := 29) ?hr ?_; (case hd => rfl); (case hg => rfl); (case hr => first | (go_simp; done) | (go_simp; rfl)); intro gb242 hg w20 hbox hb; have n0_ := X1 (Kd.N_below (Kd.N_elderB (by (with_reducible repeat (first | apply Kd.N_alloc | apply Kd.N_drewN | apply Kd.N_drew)); exact HO240.out) gb242 (Nat.le_of_eq hg.symm)) hb); have n1_ := X1 (blk_below (g := gb225) (o := .cells #[.int .i64 0, .int .i64 0, .slice none 0 0] 29 (0, 0)) (by (with_reducible repeat (first | refine X7 ?_ _ | refine X8 ?_ | refine X6 ?_ _)); exact BK225.out) hb); have n2_ := X1 (IsS60.below (by repeat (first | (with_reducible first | exact HI0.out | apply IsS60.alloc | apply IsS60.drewN | apply IsS60.drew | apply IsS60.set_1 | refine IsS60.far ?_ NB0_225.out _) | exact HI0.out)) hb); have n3_ := X1 (KeepBut.trans (by repeat (first | (with_reducible first | exact HK.out | apply KeepBut.set_ | apply keep_drewN | apply keep_drew | apply keep_alloc | refine keep_far ?_ GW225.out _) | exact HK.out)) (KeepBut.of_below hb g none) (.inl rfl)); have n4_ := X1 (below_step (by repeat (first | (with_reducible first | exact HB.out | apply X5 | apply X4 | apply X3 | refine X10 ?_ (IsS60.ge HI0.out) | refine X10 ?_ GE225.out) | exact HB.out)) hb); have n5_ := X1 (hbox); have n6_ := X1 ((by rw [hg]; exact (keep_size (w := w) (g := g) (row := none) (by repeat (first | (with_reducible first | exact HK.out | apply KeepBut.set_ | apply keep_drewN | apply keep_drew | apply keep_alloc | refine keep_far ?_ GW225.out _) | exact HK.out))) : w.heap.size ≤ gb242)); have n7_ := X1 ((Nat.le_trans HW0.out (by rw [hg]; exact (keep_size (w := w) (g := g) (row := none) (by repeat (first | (with_reducible first | exact HK.out | apply KeepBut.set_ | apply keep_drewN | apply keep_drew | apply keep_alloc | refine keep_far ?_ GW225.out _) | exact HK.out))) : w.heap.size ≤ gb242) : w0.heap.size ≤ gb242)); have n8_ := X1 ((by rw [hg]; exact Nat.ne_of_lt (blk_lt (g := gb225) (o := .cells #[.int .i64 0, .int .i64 0, .slice none 0 0] 29 (0, 0)) (by (with_reducible repeat (first | refine X7 ?_ _ | refine X8 ?_ | refine X6 ?_ _)); exact BK225.out)) : gb225 ≠ gb242)); have n9_ := X1 ((by rw [hg]; exact Nat.ne_of_gt (blk_lt (g := gb225) (o := .cells #[.int .i64 0, .int .i64 0, .slice none 0 0] 29 (0, 0)) (by (with_reducible repeat (first | refine X7 ?_ _ | refine X8 ?_ | refine X6 ?_ _)); exact BK225.out)) : gb242 ≠ gb225)); have n10_ := X1 ((by rw [hg]; exact Nat.ne_of_lt (IsS60.lt (show IsS60 w0 _ g s0_0 t241 from by repeat (first | (with_reducible first | exact HI0.out | apply IsS60.alloc | apply IsS60.drewN | apply IsS60.drew | apply IsS60.set_1 | refine IsS60.far ?_ NB0_225.out _) | exact HI0.out))) : g ≠ gb242)); have n11_ := X1 ((by rw [hg]; exact Nat.ne_of_gt (IsS60.lt (show IsS60 w0 _ g s0_0 t241 from by repeat (first | (with_reducible first | exact HI0.out | apply IsS60.alloc | apply IsS60.drewN | apply IsS60.drew | apply IsS60.set_1 | refine IsS60.far ?_ NB0_225.out _) | exact HI0.out))) : gb242 ≠ g)); clear HO240; clear BK225; clear HI0; clear HK; clear HB; have HO240 := n0_; have BK225 := n1_; have HI0 := n2_; have HK := n3_; have HB := n4_; have BK242 := n5_; have GW242 := n6_; have GE242 := n7_; have NB225_242 := n8_; have NB242_225 := n9_; have NB0_242 := n10_; have NB242_0 := n11_; clear n0_ n1_ n2_ n3_ n4_ n5_ n6_ n7_ n8_ n9_ n10_ n11_; clear hb hbox hg; have hnb21 := NB242_225.out; have hnc21 := NB225_242.out; have hnb22 := NB242_0.out; have hnc22 := NB0_242.out; have hcz23_0 : w20.cell? ⟨gb242, 0, none⟩ = some (.int .i64 0) := (X11 BK242.out 0).trans rfl; have hcz23_1 : w20.cell? ⟨gb242, 1, none⟩ = some (.int .i64 0) := (X11 BK242.out 1).trans rfl; have hcz23_2 : w20.cell? ⟨gb242, 2, none⟩ = some (.slice none 0 0) := (X11 BK242.out 2).trans rfl; have hfz23_0 := X12 BK242.out 0; have hfz23_1 := X12 BK242.out 1; have hfz23_2 := X12 BK242.out 2; obtain ⟨Ao24, co24, eo24⟩ := Kd.N_slice HO240.out; subst eo24))
    have n0_ : Aside0 (Kd.N k29 29 (((w20.setCell ⟨gb242, 0, none⟩ (.int .i64 t236)).setCell ⟨gb242, 1, none⟩ (.int .i64 t237)).setCell ⟨gb242, 2, none⟩ (.slice Ao24 t238.length co24)) w.heap.size (fun k_ => (w.heap.size ≤ k_) ∧ k_ ≠ gb225 ∧ k_ ≠ g ∧ k_ ≠ gb242) (.slice Ao24 t238.length co24) t238) := ⟨by (with_reducible repeat (first | apply Kd.N_alloc | apply Kd.N_drewN | apply Kd.N_drew)); exact Kd.N_mono (Kd.N_far (p := ⟨gb242, 2, none⟩) (Kd.N_far (p := ⟨gb242, 1, none⟩) (Kd.N_far (p := ⟨gb242, 0, none⟩) (Kd.N_mono HO240.out (fun k_ hk => (⟨hk, hk.2⟩ : _ ∧ k_ ≠ gb242))) (fun _ hk => hk.2) (.int .i64 t236)) (fun _ hk => hk.2) (.int .i64 t237)) (fun _ hk => hk.2) (.slice Ao24 t238.length co24)) (fun _ hk => ⟨hk.1.1.1, ⟨hk.1.1.2.1, ⟨hk.1.1.2.2, hk.1.2⟩⟩⟩)⟩
    have n1_ : Aside0 ((((w20.setCell ⟨gb242, 0, none⟩ (.int .i64 t236)).setCell ⟨gb242, 1, none⟩ (.int .i64 t237)).setCell ⟨gb242, 2, none⟩ (.slice Ao24 t238.length co24)).heap[gb225]? = some (.cells #[.int .i64 0, .int .i64 0, .slice none 0 0] 29 (0, 0))) := ⟨by (with_reducible repeat (first | refine X7 ?_ _ | refine X8 ?_ | refine X6 ?_ _)); refine blk_far ?_ NB225_242.out _; (with_reducible repeat (first | refine X7 ?_ _ | refine X8 ?_ | refine X6 ?_ _)); refine blk_far ?_ NB225_242.out _; (with_reducible repeat (first | refine X7 ?_ _ | refine X8 ?_ | refine X6 ?_ _)); refine blk_far ?_ NB225_242.out _; (with_reducible repeat (first | refine X7 ?_ _ | refine X8 ?_ | refine X6 ?_ _)); exact BK225.out⟩
    have n2_ : Aside0 ((((w20.setCell ⟨gb242, 0, none⟩ (.int .i64 t236)).setCell ⟨gb242, 1, none⟩ (.int .i64 t237)).setCell ⟨gb242, 2, none⟩ (.slice Ao24 t238.length co24)).heap[gb242]? = some (.cells #[.int .i64 t236, .int .i64 t237, .slice Ao24 t238.length co24] 29 (0, 0))) := ⟨by (with_reducible repeat (first | refine X7 ?_ _ | refine X8 ?_ | refine X6 ?_ _)); refine blk_put (cs := #[.int .i64 t236, .int .i64 t237, .slice none 0 0]) ?_ 2 _ rfl; (with_reducible repeat (first | refine X7 ?_ _ | refine X8 ?_ | refine X6 ?_ _)); refine blk_put (cs := #[.int .i64 t236, .int .i64 0, .slice none 0 0]) ?_ 1 _ rfl; (with_reducible repeat (first | refine X7 ?_ _ | refine X8 ?_ | refine X6 ?_ _)); refine blk_put (cs := #[.int .i64 0, .int .i64 0, .slice none 0 0]) ?_ 0 _ rfl; (with_reducible repeat (first | refine X7 ?_ _ | refine X8 ?_ | refine X6 ?_ _)); exact BK242.out⟩
    have n3_ : Aside0 (IsS60 w0 (((w20.setCell ⟨gb242, 0, none⟩ (.int .i64 t236)).setCell ⟨gb242, 1, none⟩ (.int .i64 t237)).setCell ⟨gb242, 2, none⟩ (.slice Ao24 t238.length co24)) g s0_0 t241) := ⟨by repeat (first | (with_reducible first | exact HI0.out | apply IsS60.alloc | apply IsS60.drewN | apply IsS60.drew | apply IsS60.set_1 | refine IsS60.far ?_ NB0_225.out _ | refine IsS60.far ?_ NB0_242.out _) | exact HI0.out)⟩
    have n4_ : Aside0 (KeepBut w (((w20.setCell ⟨gb242, 0, none⟩ (.int .i64 t236)).setCell ⟨gb242, 1, none⟩ (.int .i64 t237)).setCell ⟨gb242, 2, none⟩ (.slice Ao24 t238.length co24)) g none) := ⟨by repeat (first | (with_reducible first | exact HK.out | apply KeepBut.set_ | apply keep_drewN | apply keep_drew | apply keep_alloc | refine keep_far ?_ GW225.out _ | refine keep_far ?_ GW242.out _) | exact HK.out)⟩
    have n5_ : Aside0 (Below w0.heap.size w0 (((w20.setCell ⟨gb242, 0, none⟩ (.int .i64 t236)).setCell ⟨gb242, 1, none⟩ (.int .i64 t237)).setCell ⟨gb242, 2, none⟩ (.slice Ao24 t238.length co24))) := ⟨by repeat (first | (with_reducible first | exact HB.out | apply X5 | apply X4 | apply X3 | refine X10 ?_ (IsS60.ge HI0.out) | refine X10 ?_ GE225.out | refine X10 ?_ GE242.out) | exact HB.out)⟩
    (try clear HO240)
    (try clear BK225)
    (try clear BK242)
    (try clear HI0)
    (try clear HK)
    (try clear HB)
    generalize (((w20.setCell ⟨gb242, 0, none⟩ (.int .i64 t236)).setCell ⟨gb242, 1, none⟩ (.int .i64 t237)).setCell ⟨gb242, 2, none⟩ (.slice Ao24 t238.length co24)) = w25 at n0_ n1_ n2_ n3_ n4_ n5_ ⊢
    have HO240 := n0_
    have BK225 := n1_
    have BK242 := n2_
    have HI0 := n3_
    have HK := n4_
    have HB := n5_
    clear n0_ n1_ n2_ n3_ n4_ n5_
    have n0_ := X1 (Kd.N_drew HO240.out)
    have n1_ := X1 (X8 BK225.out)
    have n2_ := X1 (X8 BK242.out)
    have n3_ := X1 (IsS60.drew HI0.out)
    have n4_ := X1 (keep_drew HK.out)
    have n5_ := X1 (X3 HB.out)
    clear HO240
    clear BK225
    clear BK242
    clear HI0
    clear HK
    clear HB
    have HO240 := n0_
    have BK225 := n1_
    have BK242 := n2_
    have HI0 := n3_
    have HK := n4_
    have HB := n5_
    clear n0_ n1_ n2_ n3_ n4_ n5_
    refine start_ (n := 8) (S := fun w' => w'.cell? ⟨gb242, 0, none⟩ = some (.int .i64 t236) ∧ w'.cell? ⟨gb242, 1, none⟩ = some (.int .i64 t237) ∧ w'.cell? ⟨gb242, 2, none⟩ = some (.slice Ao24 t238.length co24)) (ds := []) #[false, false, false, false, false, false, false, false] (by kernel_rfl) rfl rfl ⟨(X11 BK242.out 0).trans rfl, (X11 BK242.out 1).trans rfl, (X11 BK242.out 2).trans rfl⟩ (fun hHeld => ?_); refine with_tabW spec_l91Expr.tab5 spec_l91Expr.bits5 (fun HT_ HW_ => ?_)
    generalize w25.drew = w26 at HO240 BK225 BK242 HI0 HK HB hHeld ⊢
    refine pure_ (i := 0) (N := some 22) (v := ?_) (a' := ?_) #[true, false, false, false, false, false, false, false] rfl rfl (any_of HT_.out (by kernel_rfl)) (fun _ _ _ h => h) (Or.inl ⟨by rfl, ?_⟩) ?_ ?_
    rotate_left
    ·intro w'
     go_simp
     with_reducible rfl
    rotate_left
    ·simp only [Act.put, List.setIfInBounds_toArray, List.set_cons_zero, List.set_cons_succ, i64_w, i32_w]
     rfl
    refine pure_ (i := 2) (N := some 24) (v := ?_) (a' := ?_) #[true, false, true, false, false, false, false, false] rfl rfl (any_of HT_.out (by kernel_rfl)) (fun _ _ _ h => h) (Or.inl ⟨by rfl, ?_⟩) ?_ ?_
    rotate_left
    ·intro w'
     go_simp
     with_reducible rfl
    rotate_left
    ·simp only [Act.put, List.setIfInBounds_toArray, List.set_cons_zero, List.set_cons_succ, i64_w, i32_w]
     rfl
    refine pure_ (i := 3) (N := some 25) (v := ?_) (a' := ?_) #[true, false, true, true, false, false, false, false] rfl rfl (any_of HT_.out (by kernel_rfl)) (fun _ _ _ h => h) (Or.inl ⟨by rfl, ?_⟩) ?_ ?_
    rotate_left
    ·intro w'
     go_simp
     with_reducible rfl
    rotate_left
    ·simp only [Act.put, List.setIfInBounds_toArray, List.set_cons_zero, List.set_cons_succ, i64_w, i32_w]
     rfl
    refine pure_ (i := 4) (N := some 26) (v := ?_) (a' := ?_) #[true, false, true, true, true, false, false, false] rfl rfl (any_of HT_.out (by kernel_rfl)) (fun _ _ _ h => h) (Or.inl ⟨by rfl, ?_⟩) ?_ ?_
    rotate_left
    ·intro w'
     go_simp
     with_reducible rfl
    rotate_left
    ·simp only [Act.put, List.setIfInBounds_toArray, List.set_cons_zero, List.set_cons_succ, i64_w, i32_w]
     rfl
    refine take_ (i := 1) (N := some 23) (v := ?_) (a' := ?_) #[true, true, true, true, true, false, false, false] rfl rfl (take_ofW HT_.out HW_.out (by kernel_rfl)) (fun _ _ _ h => h) (Or.inl ⟨by rfl, ?_⟩) hHeld ?_ ?_
    rotate_left
    ·rintro w' ⟨s0, s1, s2⟩
     go_simp
     with_reducible rfl
    rotate_left
    ·simp only [Act.put, List.setIfInBounds_toArray, List.set_cons_zero, List.set_cons_succ, i64_w, i32_w]
     rfl
    refine one_ (i := 5) (N := some 27) #[true, true, true, true, true, true, false, false] rfl rfl (one_of HT_.out (by kernel_rfl)) (by decide) (fun K hK => ?_)
    refine goes_ Try.func56 (by kernel_rfl) rfl #[.pointer (some ⟨g, 0, none⟩), .int .i64 (wrap64 (a1 - 1))] (by rfl) rfl rfl (by (try simp only [List.map_toArray, List.map_cons, List.map_nil]); first | done | rfl | (simp only [List.length_drop, List.length_take]; rfl)) ?_
    with_reducible refine (ih kj2 (by have := HJ2.out; omega) g s0_0 t241 (wrap64 (a1 - 1)) t243 t244 t245 t248 w0 _ ?side1 ?side2 A16.out).mono ?_
    (case side1 => repeat (first | (with_reducible first | exact HI0.out | apply IsS60.alloc | apply IsS60.drewN | apply IsS60.drew | apply IsS60.set_1 | refine IsS60.far ?_ NB0_225.out _ | refine IsS60.far ?_ NB0_242.out _) | exact HI0.out))
    (case side2 => repeat (first | (with_reducible first | exact HB.out | apply X5 | apply X4 | apply X3 | refine X10 ?_ (IsS60.ge HI0.out) | refine X10 ?_ GE225.out | refine X10 ?_ GE242.out) | exact HB.out))
    rintro e w27 ⟨v246, rfl, ho0, hi, hb, hk⟩
    refine ⟨_, rfl, ?_⟩
    have n0_ := X1 (KeepBut.blk hk (g' := gb225) (o := .cells #[.int .i64 0, .int .i64 0, .slice none 0 0] 29 (0, 0)) (by (with_reducible repeat (first | refine X7 ?_ _ | refine X8 ?_ | refine X6 ?_ _)); exact BK225.out) NB225_0.out (by simp))
    have n1_ := X1 (Kd.N_mono (Kd.N_told (Kd.N_oldK (Kd.N_mono (ok := fun k_ => (((w.heap.size ≤ k_)) ∧ (k_ ≠ gb225 ∧ (k_ ≠ g ∧ k_ ≠ gb242)))) (by (with_reducible repeat (first | apply Kd.N_alloc | apply Kd.N_drewN | apply Kd.N_drew)); exact HO240.out) (fun k_ hk_ => (⟨hk_, hk_.2.2.1⟩ : _ ∧ k_ ≠ g))) hk) (by first | exact Kd.N_base ho0 | exact Kd.R_base ho0)) (fun _ h_ => h_.1))
    have n2_ := X1 (KeepBut.blk hk (g' := gb242) (o := .cells #[.int .i64 t236, .int .i64 t237, .slice Ao24 t238.length co24] 29 (0, 0)) (by (with_reducible repeat (first | refine X7 ?_ _ | refine X8 ?_ | refine X6 ?_ _)); exact BK242.out) NB242_0.out (by simp))
    have n3_ := X1 (Kd.N_lower (Kd.N_mono (ok' := fun k_ => (w.heap.size ≤ k_) ∧ some k_ ≠ (.slice Ao24 t238.length co24 : Value).ownBlock ∧ k_ ≠ gb225 ∧ k_ ≠ gb242 ∧ k_ ≠ g) ho0 (fun k_ hk_ => ⟨(Nat.le_trans (keep_size (w := w) (g := g) (row := none) (by repeat (first | (with_reducible first | exact HK.out | apply KeepBut.set_ | apply keep_drewN | apply keep_drew | apply keep_alloc | refine keep_far ?_ GW225.out _ | refine keep_far ?_ GW242.out _) | exact HK.out))) hk_), (Kd.fresh' (Kd.N_lt (by (with_reducible repeat (first | apply Kd.N_alloc | apply Kd.N_drewN | apply Kd.N_drew)); exact HO240.out)) k_ hk_), (Kd.freshB (g := gb225) (o := .cells #[.int .i64 0, .int .i64 0, .slice none 0 0] 29 (0, 0)) (by (with_reducible repeat (first | refine X7 ?_ _ | refine X8 ?_ | refine X6 ?_ _)); exact BK225.out) k_ hk_), (Kd.freshB (g := gb242) (o := .cells #[.int .i64 t236, .int .i64 t237, .slice Ao24 t238.length co24] 29 (0, 0)) (by (with_reducible repeat (first | refine X7 ?_ _ | refine X8 ?_ | refine X6 ?_ _)); exact BK242.out) k_ hk_), (IsS60.fresh (by repeat (first | (with_reducible first | exact HI0.out | apply IsS60.alloc | apply IsS60.drewN | apply IsS60.drew | apply IsS60.set_1 | refine IsS60.far ?_ NB0_225.out _ | refine IsS60.far ?_ NB0_242.out _) | exact HI0.out)) k_ hk_)⟩)) (keep_size (w := w) (g := g) (row := none) (by repeat (first | (with_reducible first | exact HK.out | apply KeepBut.set_ | apply keep_drewN | apply keep_drew | apply keep_alloc | refine keep_far ?_ GW225.out _ | refine keep_far ?_ GW242.out _) | exact HK.out))))
    have n4_ := X1 (KeepBut.trans (by repeat (first | (with_reducible first | exact HK.out | apply KeepBut.set_ | apply keep_drewN | apply keep_drew | apply keep_alloc | refine keep_far ?_ GW225.out _ | refine keep_far ?_ GW242.out _) | exact HK.out)) hk (.inl rfl))
    have n5_ := X1 (hb)
    have n6_ := X1 (hi)
    clear BK225
    clear HO240
    clear BK242
    clear HK
    clear HB
    clear HI0
    have BK225 := n0_
    have HO240 := n1_
    have BK242 := n2_
    have HO247 := n3_
    have HK := n4_
    have HB := n5_
    have HI0 := n6_
    clear n0_ n1_ n2_ n3_ n4_ n5_ n6_
    (try clear hb)
    (try clear hb2)
    (try clear hk)
    (try clear hi)
    (try clear ho0)
    obtain ⟨Ao28, co28, eo28⟩ := Kd.N_slice HO247.out
    (first | subst eo28 | (injection eo28 with f1_ f2_ f3_; have f4_ := f1_.symm; have f5_ := f3_.symm; clear f1_ f2_ f3_; subst f4_; subst f5_))
    refine hK.out _ _ ⟨(X11 BK242.out 0).trans rfl, (X11 BK242.out 1).trans rfl, (X11 BK242.out 2).trans rfl⟩ (fun hHeld => ?_)
    clear hK K
    refine norm_ (a' := ?_) ?_ ?_
    rotate_left
    ·show Act.put _ (some 27) _ = _
     simp only [Act.put, List.setIfInBounds_toArray, List.set_cons_zero, List.set_cons_succ, i64_w, i32_w]
     rfl
    refine one_ (i := 6) (N := some 28) #[true, true, true, true, true, true, true, false] rfl rfl (one_of HT_.out (by kernel_rfl)) (by decide) (fun K hK => ?_)
    refine goes_ Try.func45 (by kernel_rfl) rfl #[.int .i64 t234, .agg #[.int .i64 t236, .int .i64 t237, .slice Ao24 t238.length co24], .agg #[.int .i64 t243, .int .i64 t244, .slice Ao28 t245.length co28]] (by rfl) rfl rfl (by (try simp only [List.map_toArray, List.map_cons, List.map_nil]); first | done | rfl | (simp only [List.length_drop, List.length_take]; rfl)) ?_
    with_reducible refine (spec_l4Both.calls t234 t236 t237 (fun k_ => (((w.heap.size ≤ k_) ∧ (k_ ≠ gb225 ∧ (k_ ≠ g ∧ k_ ≠ gb242))) ∧ some k_ ≠ (.slice Ao28 t245.length co28 : Value).ownBlock)) _ _ t238 t243 t244 (fun k_ => ((w.heap.size ≤ k_) ∧ (some k_ ≠ (.slice Ao24 t238.length co24 : Value).ownBlock ∧ (k_ ≠ gb225 ∧ (k_ ≠ gb242 ∧ k_ ≠ g))))) _ _ t245 t249 t250 t251 _ ?side1 ?side2 A17.out).mono ?_
    (case side1 => exact Kd.N_V (HO240.out))
    (case side2 => exact Kd.N_V (HO247.out))
    rintro e w29 ⟨v252, rfl, ho0, hb⟩
    refine ⟨_, rfl, ?_⟩
    have n0_ := X1 (Kd.N_elder' (by (with_reducible repeat (first | apply Kd.N_alloc | apply Kd.N_drewN | apply Kd.N_drew)); exact HO240.out) (by first | exact Kd.N_base ho0 | exact Kd.R_base ho0) hb)
    have n1_ := X1 (Kd.N_elder' (by (with_reducible repeat (first | apply Kd.N_alloc | apply Kd.N_drewN | apply Kd.N_drew)); exact HO247.out) (by first | exact Kd.N_base ho0 | exact Kd.R_base ho0) hb)
    have n2_ := X1 (Kd.N_lower (Kd.N_mono (ok' := fun k_ => (w.heap.size ≤ k_) ∧ k_ ≠ gb225 ∧ k_ ≠ gb242 ∧ k_ ≠ g) ho0 (fun k_ hk_ => ⟨Or.elim hk_ (fun hs_ => Or.elim hs_ (fun hs_ => hs_.1.1) (fun hs_ => hs_.1)) (fun hn_ => (Nat.le_trans (keep_size (w := w) (g := g) (row := none) (by repeat (first | (with_reducible first | exact HK.out | apply KeepBut.set_ | apply keep_drewN | apply keep_drew | apply keep_alloc | refine keep_far ?_ GW225.out _ | refine keep_far ?_ GW242.out _) | exact HK.out))) hn_)), Or.elim hk_ (fun hs_ => Or.elim hs_ (fun hs_ => hs_.1.2.1) (fun hs_ => hs_.2.2.1)) (fun hn_ => (Kd.freshB (g := gb225) (o := .cells #[.int .i64 0, .int .i64 0, .slice none 0 0] 29 (0, 0)) (by (with_reducible repeat (first | refine X7 ?_ _ | refine X8 ?_ | refine X6 ?_ _)); exact BK225.out) k_ hn_)), Or.elim hk_ (fun hs_ => Or.elim hs_ (fun hs_ => hs_.1.2.2.2) (fun hs_ => hs_.2.2.2.1)) (fun hn_ => (Kd.freshB (g := gb242) (o := .cells #[.int .i64 t236, .int .i64 t237, .slice Ao24 t238.length co24] 29 (0, 0)) (by (with_reducible repeat (first | refine X7 ?_ _ | refine X8 ?_ | refine X6 ?_ _)); exact BK242.out) k_ hn_)), Or.elim hk_ (fun hs_ => Or.elim hs_ (fun hs_ => hs_.1.2.2.1) (fun hs_ => hs_.2.2.2.2)) (fun hn_ => (IsS60.fresh (by repeat (first | (with_reducible first | exact HI0.out | apply IsS60.alloc | apply IsS60.drewN | apply IsS60.drew | apply IsS60.set_1 | refine IsS60.far ?_ NB0_225.out _ | refine IsS60.far ?_ NB0_242.out _) | exact HI0.out)) k_ hn_))⟩)) (keep_size (w := w) (g := g) (row := none) (by repeat (first | (with_reducible first | exact HK.out | apply KeepBut.set_ | apply keep_drewN | apply keep_drew | apply keep_alloc | refine keep_far ?_ GW225.out _ | refine keep_far ?_ GW242.out _) | exact HK.out))))
    have n3_ := X1 (blk_below (g := gb225) (o := .cells #[.int .i64 0, .int .i64 0, .slice none 0 0] 29 (0, 0)) (by (with_reducible repeat (first | refine X7 ?_ _ | refine X8 ?_ | refine X6 ?_ _)); exact BK225.out) hb)
    have n4_ := X1 (IsS60.below (by repeat (first | (with_reducible first | exact HI0.out | apply IsS60.alloc | apply IsS60.drewN | apply IsS60.drew | apply IsS60.set_1 | refine IsS60.far ?_ NB0_225.out _ | refine IsS60.far ?_ NB0_242.out _) | exact HI0.out)) hb)
    have n5_ := X1 (blk_below (g := gb242) (o := .cells #[.int .i64 t236, .int .i64 t237, .slice Ao24 t238.length co24] 29 (0, 0)) (by (with_reducible repeat (first | refine X7 ?_ _ | refine X8 ?_ | refine X6 ?_ _)); exact BK242.out) hb)
    have n6_ := X1 (KeepBut.trans (by repeat (first | (with_reducible first | exact HK.out | apply KeepBut.set_ | apply keep_drewN | apply keep_drew | apply keep_alloc | refine keep_far ?_ GW225.out _ | refine keep_far ?_ GW242.out _) | exact HK.out)) (KeepBut.of_below hb g none) (.inl rfl))
    have n7_ := X1 (below_step (by repeat (first | (with_reducible first | exact HB.out | apply X5 | apply X4 | apply X3 | refine X10 ?_ (IsS60.ge HI0.out) | refine X10 ?_ GE225.out | refine X10 ?_ GE242.out) | exact HB.out)) hb)
    clear HO240
    clear HO247
    clear BK225
    clear HI0
    clear BK242
    clear HK
    clear HB
    have HO240 := n0_
    have HO247 := n1_
    have HO253 := n2_
    have BK225 := n3_
    have HI0 := n4_
    have BK242 := n5_
    have HK := n6_
    have HB := n7_
    clear n0_ n1_ n2_ n3_ n4_ n5_ n6_ n7_
    (try clear hb)
    (try clear hb2)
    (try clear hk)
    (try clear hi)
    (try clear ho0)
    obtain ⟨Ao32, co32, eo32⟩ := Kd.N_slice HO253.out
    (first | subst eo32 | (injection eo32 with f1_ f2_ f3_; have f4_ := f1_.symm; have f5_ := f3_.symm; clear f1_ f2_ f3_; subst f4_; subst f5_))
    refine hK.out _ _ ⟨(X11 BK242.out 0).trans rfl, (X11 BK242.out 1).trans rfl, (X11 BK242.out 2).trans rfl⟩ (fun hHeld => ?_)
    clear hK K
    refine norm_ (a' := ?_) ?_ ?_
    rotate_left
    ·show Act.put _ (some 28) _ = _
     simp only [Act.put, List.setIfInBounds_toArray, List.set_cons_zero, List.set_cons_succ, i64_w, i32_w]
     rfl
    refine one_ (i := 7) (N := none) #[true, true, true, true, true, true, true, true] rfl rfl (one_of HT_.out (by kernel_rfl)) (by decide) (fun K hK => ?_)
    have hs30 : w29.cell? ⟨gb225, 0, none⟩ = some (.int .i64 0) := (X11 BK225.out 0).trans rfl
    have hfs30 := X12 BK225.out 0
    have hns30_1 := NB242_225.out
    have hms30_1 := NB225_242.out
    have hs31 : w29.cell? ⟨gb225, 1, none⟩ = some (.int .i64 0) := (X11 BK225.out 1).trans rfl
    have hfs31 := X12 BK225.out 1
    have hns31_1 := NB242_225.out
    have hms31_1 := NB225_242.out
    have hs33 : w29.cell? ⟨gb225, 2, none⟩ = some (.slice none 0 0) := (X11 BK225.out 2).trans rfl
    have hfs33 := X12 BK225.out 2
    have hns33_1 := NB242_225.out
    have hms33_1 := NB225_242.out
    refine skip_ (w1 := ?_) (by rfl) rfl ?_ ?_
    rotate_left
    ·go_simp
     rfl
    refine hK.out _ _ ⟨((cell_far (p := ⟨gb225, _, none⟩) NB242_225.out _).trans (((cell_far (p := ⟨gb225, _, none⟩) NB242_225.out _).trans (((cell_far (p := ⟨gb225, _, none⟩) NB242_225.out _).trans (hHeld.1)))))), ((cell_far (p := ⟨gb225, _, none⟩) NB242_225.out _).trans (((cell_far (p := ⟨gb225, _, none⟩) NB242_225.out _).trans (((cell_far (p := ⟨gb225, _, none⟩) NB242_225.out _).trans (hHeld.2.1)))))), ((cell_far (p := ⟨gb225, _, none⟩) NB242_225.out _).trans (((cell_far (p := ⟨gb225, _, none⟩) NB242_225.out _).trans (((cell_far (p := ⟨gb225, _, none⟩) NB242_225.out _).trans (hHeld.2.2))))))⟩ (fun hHeld => ?_)
    clear hK K
    refine done_ (done_of HT_.out (by kernel_rfl)) ?_
    try go_wp2
    refine bodyPost_ret (results_cell_row rfl _ _ gb225 29 #[.int .i64 t249, .int .i64 t250, .slice Ao32 t251.length co32] (0, 0) _ rfl (by (with_reducible repeat (first | refine X7 ?_ _ | refine X8 ?_ | refine X6 ?_ _)); refine blk_put (cs := #[.int .i64 t249, .int .i64 t250, .slice none 0 0]) ?_ 2 _ rfl; (with_reducible repeat (first | refine X7 ?_ _ | refine X8 ?_ | refine X6 ?_ _)); refine blk_put (cs := #[.int .i64 t249, .int .i64 0, .slice none 0 0]) ?_ 1 _ rfl; (with_reducible repeat (first | refine X7 ?_ _ | refine X8 ?_ | refine X6 ?_ _)); refine blk_put (cs := #[.int .i64 0, .int .i64 0, .slice none 0 0]) ?_ 0 _ rfl; (with_reducible repeat (first | refine X7 ?_ _ | refine X8 ?_ | refine X6 ?_ _)); exact BK225.out) Try.underlying29 rfl (by kernel_rfl)) rfl ?_
    exact ⟨_, by first | rfl | (simp [errW_none, errW_some] <;> rfl) | (simp [*, errW_none, errW_some] <;> rfl), by (with_reducible repeat (first | apply Kd.N_alloc | apply Kd.N_drewN | apply Kd.N_drew)); exact Kd.N_mono (Kd.N_far (p := ⟨gb225, 2, none⟩) (Kd.N_far (p := ⟨gb225, 1, none⟩) (Kd.N_far (p := ⟨gb225, 0, none⟩) (Kd.N_mono HO253.out (fun k_ hk => (⟨hk, hk.2.1⟩ : _ ∧ k_ ≠ gb225))) (fun _ hk => hk.2) (.int .i64 t249)) (fun _ hk => hk.2) (.int .i64 t250)) (fun _ hk => hk.2) (.slice Ao32 t251.length co32)) (fun _ hk => hk.1.1), by repeat (first | (with_reducible first | exact HI0.out | apply IsS60.alloc | apply IsS60.drewN | apply IsS60.drew | apply IsS60.set_1 | refine IsS60.far ?_ NB0_225.out _ | refine IsS60.far ?_ NB0_242.out _) | exact HI0.out), by repeat (first | (with_reducible first | exact HB.out | apply X5 | apply X4 | apply X3 | refine X10 ?_ (IsS60.ge HI0.out) | refine X10 ?_ GE225.out | refine X10 ?_ GE242.out) | exact HB.out), by repeat (first | (with_reducible first | exact HK.out | apply KeepBut.set_ | apply keep_drewN | apply keep_drew | apply keep_alloc | refine keep_far ?_ GW225.out _ | refine keep_far ?_ GW242.out _) | exact HK.out)⟩

end Go.Proofs.Ytjohbglkocgdjaa.Q
