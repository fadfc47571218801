/- What the rows of this seat say of the table 'opTexts': its twelve cells, that it reads the same behind a call that keeps what was there, and a world that meets the condition. -/
import Derived.Test.YtnjmmkbbckpobaaDoorRows
import Derived.Test.YtnjmmkbbckpobaaDoorGiven
import Derived.WalkKit
import Derived.ProofKit
import Derived.OpenShut
import Derived.ShutString
import Derived.ChangeOld
import Derived.ChangeVars
import Derived.Below
import Derived.SizedLaws
import Derived.LaidMore
import Derived.LaidLaws
import Derived.MakeChecks
import Derived.JoinedOf
import Derived.RowKit
import Derived.Stop.Joined
namespace Go.Proofs.YtnjmmkbbckpobaaDoor
open Go.ChangeShapes Go.WideShapes Go.ChangeAt Go.RowKit
namespace Table
theorem named : Tryd.prog.globalNamed "loop.example/cothreads/impl.opTexts" = some 0 := by kernel_rfl
theorem type : (Tryd.prog.globals[0]?).map (·.type) = some 28 := by kernel_rfl
theorem under : Tryd.prog.underlying 28 = some (.array 12 9) := by kernel_rfl
theorem underStr : Tryd.prog.underlying 9 = some .string := by kernel_rfl
theorem cells13 : Tryd.prog.cellsOf 9 = 1 := by kernel_rfl
theorem cells28 : Tryd.prog.cellsOf 28 = 12 := by kernel_rfl

def cells : Array Value := #[.string ⟨#[124]⟩, .string ⟨#[94]⟩, .string ⟨#[38]⟩, .string ⟨#[61, 61]⟩, .string ⟨#[60]⟩, .string ⟨#[60, 60]⟩, .string ⟨#[62, 62]⟩, .string ⟨#[43]⟩, .string ⟨#[45]⟩, .string ⟨#[42]⟩, .string ⟨#[47]⟩, .string ⟨#[37]⟩]

theorem string_eq {s : ByteArray} {l : Array UInt8} (h : s.data.toList = l.toList) : s = ⟨l⟩ := by
  obtain ⟨d⟩ := s
  have : d = l := Array.toList_inj.1 h
  rw [this]

theorem one {H : Type} {enc : TypeId × Value → H} {w : World} {base : Nat} {sp : Nat → Bool} {held : Bool} {fuel : Nat} {c : List Value} {x : DataW H × List MemPlace} {l : Array UInt8}
    (h : DataW.trod enc Tryd.prog w base sp held fuel 9 c = some x) (hx : x.1 = .lit (.string l.toList)) : c = [.string ⟨l⟩] := by
  obtain ⟨s, rfl, rfl, _⟩ := DataW.trod_string underStr h
  simp only [DataW.lit.injEq, Lit.string.injEq] at hx
  rw [string_eq hx]

theorem twelve {α : Type} {l : List α} (h : l.length = 12) : ∃ a0 a1 a2 a3 a4 a5 a6 a7 a8 a9 a10 a11, l = [a0, a1, a2, a3, a4, a5, a6, a7, a8, a9, a10, a11] := by
  match l, h with
  | [a0, a1, a2, a3, a4, a5, a6, a7, a8, a9, a10, a11], _ => exact ⟨a0, a1, a2, a3, a4, a5, a6, a7, a8, a9, a10, a11, rfl⟩

theorem var_of_laid {W : World} (h : laidMetH Tryd.prog [("loop.example/cothreads/impl.opTexts", Rows.laid_loop_example_cothreads_impl_opTexts)] W) :
    W.var? Tryd.prog "loop.example/cothreads/impl.opTexts" = some cells := by
  rw [MakeChecks.laidMetH_plain _ _ _ (by kernel_rfl)] at h
  obtain ⟨ps, ⟨g, t, cs, fuel, p, q, hg, ht, hvar, hd, _, _⟩, _⟩ := h
  obtain rfl := Option.some.inj (named.symm.trans hg)
  obtain rfl := Option.some.inj (type.symm.trans ht)
  rw [hvar]
  congr 1
  obtain ⟨l⟩ := cs
  obtain ⟨xs, m, rfl, hx, hlen, hn, hel⟩ := DataW.trod_array under hd
  rw [cells13] at hel
  rw [cells28] at hlen
  obtain ⟨a0, a1, a2, a3, a4, a5, a6, a7, a8, a9, a10, a11, rfl⟩ := twelve hlen
  obtain ⟨x0, x1, x2, x3, x4, x5, x6, x7, x8, x9, x10, x11, rfl⟩ := twelve hn
  simp only [Prod.mk.injEq, DataW.agg.injEq, Rows.laid_loop_example_cothreads_impl_opTexts, List.map_cons, List.map_nil, List.cons.injEq] at hx
  obtain ⟨⟨e0, e1, e2, e3, e4, e5, e6, e7, e8, e9, e10, e11, _⟩, _⟩ := hx
  have r0 := one (l := #[124]) (hel 0 (by decide)) e0.symm
  have r1 := one (l := #[94]) (hel 1 (by decide)) e1.symm
  have r2 := one (l := #[38]) (hel 2 (by decide)) e2.symm
  have r3 := one (l := #[61, 61]) (hel 3 (by decide)) e3.symm
  have r4 := one (l := #[60]) (hel 4 (by decide)) e4.symm
  have r5 := one (l := #[60, 60]) (hel 5 (by decide)) e5.symm
  have r6 := one (l := #[62, 62]) (hel 6 (by decide)) e6.symm
  have r7 := one (l := #[43]) (hel 7 (by decide)) e7.symm
  have r8 := one (l := #[45]) (hel 8 (by decide)) e8.symm
  have r9 := one (l := #[42]) (hel 9 (by decide)) e9.symm
  have r10 := one (l := #[47]) (hel 10 (by decide)) e10.symm
  have r11 := one (l := #[37]) (hel 11 (by decide)) e11.symm
  simp at r0 r1 r2 r3 r4 r5 r6 r7 r8 r9 r10 r11
  subst r0 r1 r2 r3 r4 r5 r6 r7 r8 r9 r10 r11
  rfl

theorem ok_of_var {W : World} (h : W.var? Tryd.prog "loop.example/cothreads/impl.opTexts" = some cells) : Given.TabOk W := by
  refine ⟨fun j x hx => ?_⟩
  have hc := World.var?_cell named h j
  rw [hc]
  have hj : j < 12 := by
    rcases Nat.lt_or_ge j 12 with hj | hj
    · exact hj
    · rw [List.getElem?_eq_none (by simpa [Given.texts] using hj)] at hx
      cases hx
  have hcs : j = 0 ∨ j = 1 ∨ j = 2 ∨ j = 3 ∨ j = 4 ∨ j = 5 ∨ j = 6 ∨ j = 7 ∨ j = 8 ∨ j = 9 ∨ j = 10 ∨ j = 11 := by omega
  rcases hcs with rfl | rfl | rfl | rfl | rfl | rfl | rfl | rfl | rfl | rfl | rfl | rfl <;> (simp [Given.texts] at hx; subst hx; rfl)

/-- The table's datum. -/
abbrev datum {H : Type} : DataW H := Rows.laid_loop_example_cothreads_impl_opTexts

theorem reads {H : Type} (enc : TypeId × Value → H) (W : World) (sp : Nat → Bool) : DataW.trod enc Tryd.prog W 0 sp true 3 28 cells.toList = some (datum, []) := by kernel_rfl

/-- What the walk of a row gets: the variable's data, and the table. -/
theorem opened {H : Type} {enc : TypeId × Value → H} {W : World} {gs : List (DataW H)} {q : List MemPlace}
    (h : laidMetH Tryd.prog [("loop.example/cothreads/impl.opTexts", Rows.laid_loop_example_cothreads_impl_opTexts)] W)
    (hV : DataW.TrodVars enc Tryd.prog W (fun _ => true) ["loop.example/cothreads/impl.opTexts"] gs q) :
    gs = [datum] ∧ W.var? Tryd.prog "loop.example/cothreads/impl.opTexts" = some cells := by
  have hv := var_of_laid h
  obtain ⟨g, t, cs, fuel, d, p', rfl, hg, ht, hvar, hd, rfl⟩ := trodVars_one hV
  obtain rfl := Option.some.inj (named.symm.trans hg)
  obtain rfl := Option.some.inj (type.symm.trans ht)
  obtain rfl : cs = cells := Option.some.inj (hvar.symm.trans hv)
  obtain ⟨rfl, rfl⟩ := DataW.Trod.unique (v := .agg cells) ⟨fuel, hd⟩ ⟨3, reads enc W _⟩
  exact ⟨rfl, hv⟩

/-- Behind the call the variable holds what it held. -/
theorem kept {W W' : World} (hv : W.var? Tryd.prog "loop.example/cothreads/impl.opTexts" = some cells) (hb : Below W.heap.size W W') : W'.var? Tryd.prog "loop.example/cothreads/impl.opTexts" = some cells := by
  unfold World.var? at hv ⊢
  rw [named] at hv ⊢
  simp only [Option.bind_some] at hv ⊢
  have h0 : 0 < W.heap.size := by
    rcases Nat.eq_zero_or_pos W.heap.size with h | h
    · rw [Array.getElem?_eq_none (by omega)] at hv
      cases hv
    · exact h
  rw [hb.block 0 h0]
  exact hv

theorem shut {H : Type} {enc : TypeId × Value → H} {W' : World} (sp : Nat → Bool) (hv : W'.var? Tryd.prog "loop.example/cothreads/impl.opTexts" = some cells) :
    DataW.TrodVars enc Tryd.prog W' sp ["loop.example/cothreads/impl.opTexts"] [datum] (MemPlace.row ⟨0, 0, none⟩ cells.size ++ [] ++ []) :=
  ⟨0, 28, cells, 3, [], [], named, type, hv, reads enc W' sp, rfl, rfl⟩

/-- The door's own heap meets the condition. -/
theorem door_met (os : Os) (args : Array Value) : laidMetH Tryd.prog [("loop.example/cothreads/impl.opTexts", Rows.laid_loop_example_cothreads_impl_opTexts)] ((World.doorLaid Tryd.prog 400 os).forCall (fun _ _ => 0) ⟨#[], args, []⟩).memory :=
  laidMetH_of_parts3 (fuel := 8) (laidMet_of_run' 8 (by kernel_rfl) (by kernel_rfl)) (by kernel_rfl) (by kernel_rfl)
end Table
end Go.Proofs.YtnjmmkbbckpobaaDoor
