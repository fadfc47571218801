/- An argument that is a tree of expressions: from the reading of its cells to the tree; conditions: the reading ends, so that the tree is of limited depth. -/
import Derived.Test.YtjohbglkocgdjaaE0
import Derived.OpenShut
import Derived.ChangeArms
import Derived.ChangeSlices
import Derived.Deep.Slices
namespace Go.Proofs.Ytjohbglkocgdjaa.Q
open Go Go.RowKit Go.Deep Go.ChangeShapes Go.WideShapes Go.Proofs.YtjohbglkocgdjaaW.PrintMore Go.Proofs.YtjohbglkocgdjaaW.PrintWords Go.Proofs.YtjohbglkocgdjaaW.PrintLast
set_option linter.unusedVariables false
set_option linter.unusedSimpArgs false

/-- Trees of limited depth, all of whose lists are of limited length. -/
def smD (N : Nat) : Nat → List S24 → Prop
  | 0, _ => False
  | d + 1, l => l.length ≤ N ∧ ∀ i : Nat, i < l.length → smD N d (rd_T24 l (i : Int)).f2
theorem smD_more {N : Nat} : ∀ (d : Nat) {l : List S24}, smD N d l → smD N (d + 1) l
  | 0, _, h => h.elim
  | d + 1, _, h => ⟨h.1, fun i hi => smD_more d (h.2 i hi)⟩
theorem smD_le {N d e : Nat} (he : d ≤ e) {l : List S24} (h : smD N d l) : smD N e l := by
  obtain ⟨c, rfl⟩ : ∃ c, e = d + c := ⟨e - d, by omega⟩
  clear he
  induction c with
  | zero => exact h
  | succ c ih => exact smD_more _ ih
instance : Inhabited S24 := ⟨z24⟩

section
variable {H : Type} {enc : TypeId × Value → H} {w : World} {base : Nat} {spare : Nat → Bool} {held : Bool}
theorem open_tree : ∀ (fuel : Nat) (cs : List Value) (x : DataW H × List MemPlace), DataW.trod enc Try.prog w base spare held fuel 24 cs = some x →
    ∃ s : S24, k24.K w s cs ∧ smD 9223372036854775807 fuel s.f2 := by
  intro fuel
  induction fuel using Nat.strongRecOn with
  | _ fuel ih =>
    intro cs x h
    obtain ⟨xs, n, hn, rfl, hl, hlen, hf⟩ := DataW.trod_struct Try.underlying24 h
    have c24 : Try.prog.cellsOf 24 = 3 := by kernel_rfl
    have c22 : Try.prog.cellsOf 22 = 1 := by kernel_rfl
    have c3 : Try.prog.cellsOf 3 = 1 := by kernel_rfl
    rw [c24] at hl
    match xs, hlen with
    | [y0, y1, y2], _ =>
      match cs, hl with
      | [e0, e1, e2], _ =>
        have h0 : DataW.trod enc Try.prog w base spare held n 3 ([e0, e1, e2].take (Try.prog.cellsOf 3)) = some y0 := hf 0 _ rfl
        have h1 : DataW.trod enc Try.prog w base spare held n 3 ([e1, e2].take (Try.prog.cellsOf 3)) = some y1 := hf 1 _ rfl
        have h2 : DataW.trod enc Try.prog w base spare held n 22 ([e2].take (Try.prog.cellsOf 22)) = some y2 := hf 2 _ rfl
        clear hf
        rw [c3] at h0 h1
        rw [c22] at h2
        obtain ⟨a, ea, -, -⟩ := DataW.trod_int (k := .i64) Try.underlying3 h0
        obtain ⟨b, eb, -, -⟩ := DataW.trod_int (k := .i64) Try.underlying3 h1
        simp at ea eb
        subst ea; subst eb
        rcases DataW.trod_slice Try.underlying22 h2 with ⟨e, -⟩ | ⟨ad, len, cap, elems, rest, m, hm, e, -, hb, hlc, hcm, hle, hel, -, -⟩
        · simp at e
          subst e
          refine ⟨⟨a, b, []⟩, k24_mk w ⟨a, b, []⟩ (A2 := none) (c2 := 0) (by simp) ⟨rfl, by simp, fun h => absurd h (by simp)⟩, ?_⟩
          subst hn
          exact ⟨by simp, fun i hi => absurd hi (by simp)⟩
        · simp at e
          subst e
          rw [c24] at hel
          have each : ∀ i, i < len → ∃ p : S24 × List Value, w.cells? base (ad.add (i * 3)) 3 = some p.2 ∧ k24.K w p.1 p.2 ∧ smD 9223372036854775807 m p.1.f2 := by
            intro i hi
            have hy := hel i hi
            rw [List.getElem?_eq_getElem (show i < elems.length by omega), Option.bind_eq_some_iff] at hy
            obtain ⟨cs', h3, h4⟩ := hy
            obtain ⟨s, hs, hd⟩ := ih m (by omega) cs' _ h4
            exact ⟨(s, cs'), h3, hs, hd⟩
          obtain ⟨f, hfl⟩ := choose_lt each
          have hll : ((List.range len).map fun i => (f i).1).length = len := by simp
          have hmx : maxLen = 9223372036854775807 := by decide
          have hget : ∀ j, j < len → ((List.range len).map fun i => (f i).1)[j]? = some (f j).1 := by
            intro j hj; simp [hj]
          have hC : k24.C w (some ad) ((List.range len).map fun i => (f i).1).length ((List.range len).map fun i => (f i).1) := by
            rw [hll]
            refine ⟨hll, by omega, fun _ => ⟨ad, rfl, fun j p hj => ?_⟩⟩
            have hjl : j < len := by
              have := (List.getElem?_eq_some_iff.1 hj).1
              omega
            rw [hget j hjl] at hj
            obtain rfl := Option.some.inj hj
            obtain ⟨g1, g2, g3⟩ := hfl j hjl
            obtain ⟨s1, s2, s3⟩ := World.cells?_some g1
            refine ⟨(f j).2, ?_, g2, fun i u hu => ?_⟩
            · exact k24.K_len g2
            · have hi : i < 3 := by
                have := (List.getElem?_eq_some_iff.1 hu).1
                omega
              have := s3 i hi
              rw [hu, Deep.add_add] at this
              exact this
          refine ⟨⟨a, b, (List.range len).map fun i => (f i).1⟩, ?_, ?_⟩
          · have := k24_mk w ⟨a, b, (List.range len).map fun i => (f i).1⟩ (A2 := some ad) (c2 := cap) (by rw [hll]; exact hlc) hC
            rw [hll] at this
            exact this
          · obtain ⟨q, rfl⟩ : ∃ q, fuel = q + 1 := ⟨n, hn⟩
            refine ⟨by rw [hll]; omega, fun i hi => ?_⟩
            rw [hll] at hi
            have e : rd_T24 ((List.range len).map fun i => (f i).1) (i : Int) = (f i).1 := by
              unfold rd_T24
              rw [List.getD_eq_getElem?_getD, Int.toNat_natCast, hget i hi]; rfl
            rw [e]
            exact smD_le (by omega) (hfl i hi).2.2
end
end Go.Proofs.Ytjohbglkocgdjaa.Q
