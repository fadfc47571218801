/- The contract of the program's 'OpText', which reads a package-level table: for every number, in every world in which the table's cells hold the operators' symbols. -/
import Derived.Test.YtnjmmkbbckpobaaDoorProg
import Derived.Test.YtnjmmkbbckpobaaDoorWMore
import Derived.WalkKit
import Derived.KernelRfl
import Derived.Lib.Hide
namespace Go.Proofs.YtnjmmkbbckpobaaDoor.Given
open Go Go.RowKit Go.Proofs.YtnjmmkbbckpobaaDoorW.PrintWords Go.Proofs.YtnjmmkbbckpobaaDoorW.PrintLast Go.Proofs.YtnjmmkbbckpobaaDoorW.PrintMore
set_option linter.unusedVariables false
set_option linter.unusedSimpArgs false
/-- The symbols. -/
def texts : List ByteArray := [⟨#[124]⟩, ⟨#[94]⟩, ⟨#[38]⟩, ⟨#[61, 61]⟩, ⟨#[60]⟩, ⟨#[60, 60]⟩, ⟨#[62, 62]⟩, ⟨#[43]⟩, ⟨#[45]⟩, ⟨#[42]⟩, ⟨#[47]⟩, ⟨#[37]⟩]
/-- The table's cells hold the symbols. -/
structure TabOk (w : World) : Prop where
  cells : ∀ (j : Nat) (x : ByteArray), texts[j]? = some x → w.cell? ⟨0, j, none⟩ = some (.string x)
theorem TabOk.below {w w' : World} (h : TabOk w) (hb : Below w.heap.size w w') : TabOk w' := ⟨fun j x hx => pw_cell_below hb (h.cells j x hx)⟩
def opText (n : Int) : ByteArray := if 1 ≤ n ∧ n ≤ 12 then texts.getD (n - 1).toNat ⟨#[]⟩ else ⟨#[]⟩
set_option maxHeartbeats 400000 in
theorem opText_out (n : Int) (w : World) (h : ¬ (1 ≤ n ∧ n ≤ 12)) : Calls Tryd.prog 6 #[.int .i64 n] w fun e w' => e = .returned (.string ⟨#[]⟩) ∧ w = w' := by
  by_cases h1 : 1 ≤ n
  · have h2 : decide (1 ≤ n) = true := decide_eq_true h1
    have h3 : decide (n ≤ 12) = false := decide_eq_false (by omega)
    clear h h1
    go_enter Tryd.func6, Tryd.ntmps6
    go_wp2
    go_ret
    exact ⟨rfl, rfl⟩
  · have h2 : decide (1 ≤ n) = false := decide_eq_false h1
    clear h h1
    go_enter Tryd.func6, Tryd.ntmps6
    go_wp2
    go_ret
    exact ⟨rfl, rfl⟩
set_option maxHeartbeats 400000 in
theorem opText_1 (w : World) (h : w.cell? ⟨0, 0, none⟩ = some (.string ⟨#[124]⟩)) : Calls Tryd.prog 6 #[.int .i64 1] w fun e w' => e = .returned (.string ⟨#[124]⟩) ∧ w = w' := by
  go_enter Tryd.func6, Tryd.ntmps6
  go_wp2
  go_ret
  exact ⟨rfl, rfl⟩
set_option maxHeartbeats 400000 in
theorem opText_2 (w : World) (h : w.cell? ⟨0, 1, none⟩ = some (.string ⟨#[94]⟩)) : Calls Tryd.prog 6 #[.int .i64 2] w fun e w' => e = .returned (.string ⟨#[94]⟩) ∧ w = w' := by
  go_enter Tryd.func6, Tryd.ntmps6
  go_wp2
  go_ret
  exact ⟨rfl, rfl⟩
set_option maxHeartbeats 400000 in
theorem opText_3 (w : World) (h : w.cell? ⟨0, 2, none⟩ = some (.string ⟨#[38]⟩)) : Calls Tryd.prog 6 #[.int .i64 3] w fun e w' => e = .returned (.string ⟨#[38]⟩) ∧ w = w' := by
  go_enter Tryd.func6, Tryd.ntmps6
  go_wp2
  go_ret
  exact ⟨rfl, rfl⟩
set_option maxHeartbeats 400000 in
theorem opText_4 (w : World) (h : w.cell? ⟨0, 3, none⟩ = some (.string ⟨#[61, 61]⟩)) : Calls Tryd.prog 6 #[.int .i64 4] w fun e w' => e = .returned (.string ⟨#[61, 61]⟩) ∧ w = w' := by
  go_enter Tryd.func6, Tryd.ntmps6
  go_wp2
  go_ret
  exact ⟨rfl, rfl⟩
set_option maxHeartbeats 400000 in
theorem opText_5 (w : World) (h : w.cell? ⟨0, 4, none⟩ = some (.string ⟨#[60]⟩)) : Calls Tryd.prog 6 #[.int .i64 5] w fun e w' => e = .returned (.string ⟨#[60]⟩) ∧ w = w' := by
  go_enter Tryd.func6, Tryd.ntmps6
  go_wp2
  go_ret
  exact ⟨rfl, rfl⟩
set_option maxHeartbeats 400000 in
theorem opText_6 (w : World) (h : w.cell? ⟨0, 5, none⟩ = some (.string ⟨#[60, 60]⟩)) : Calls Tryd.prog 6 #[.int .i64 6] w fun e w' => e = .returned (.string ⟨#[60, 60]⟩) ∧ w = w' := by
  go_enter Tryd.func6, Tryd.ntmps6
  go_wp2
  go_ret
  exact ⟨rfl, rfl⟩
set_option maxHeartbeats 400000 in
theorem opText_7 (w : World) (h : w.cell? ⟨0, 6, none⟩ = some (.string ⟨#[62, 62]⟩)) : Calls Tryd.prog 6 #[.int .i64 7] w fun e w' => e = .returned (.string ⟨#[62, 62]⟩) ∧ w = w' := by
  go_enter Tryd.func6, Tryd.ntmps6
  go_wp2
  go_ret
  exact ⟨rfl, rfl⟩
set_option maxHeartbeats 400000 in
theorem opText_8 (w : World) (h : w.cell? ⟨0, 7, none⟩ = some (.string ⟨#[43]⟩)) : Calls Tryd.prog 6 #[.int .i64 8] w fun e w' => e = .returned (.string ⟨#[43]⟩) ∧ w = w' := by
  go_enter Tryd.func6, Tryd.ntmps6
  go_wp2
  go_ret
  exact ⟨rfl, rfl⟩
set_option maxHeartbeats 400000 in
theorem opText_9 (w : World) (h : w.cell? ⟨0, 8, none⟩ = some (.string ⟨#[45]⟩)) : Calls Tryd.prog 6 #[.int .i64 9] w fun e w' => e = .returned (.string ⟨#[45]⟩) ∧ w = w' := by
  go_enter Tryd.func6, Tryd.ntmps6
  go_wp2
  go_ret
  exact ⟨rfl, rfl⟩
set_option maxHeartbeats 400000 in
theorem opText_10 (w : World) (h : w.cell? ⟨0, 9, none⟩ = some (.string ⟨#[42]⟩)) : Calls Tryd.prog 6 #[.int .i64 10] w fun e w' => e = .returned (.string ⟨#[42]⟩) ∧ w = w' := by
  go_enter Tryd.func6, Tryd.ntmps6
  go_wp2
  go_ret
  exact ⟨rfl, rfl⟩
set_option maxHeartbeats 400000 in
theorem opText_11 (w : World) (h : w.cell? ⟨0, 10, none⟩ = some (.string ⟨#[47]⟩)) : Calls Tryd.prog 6 #[.int .i64 11] w fun e w' => e = .returned (.string ⟨#[47]⟩) ∧ w = w' := by
  go_enter Tryd.func6, Tryd.ntmps6
  go_wp2
  go_ret
  exact ⟨rfl, rfl⟩
set_option maxHeartbeats 400000 in
theorem opText_12 (w : World) (h : w.cell? ⟨0, 11, none⟩ = some (.string ⟨#[37]⟩)) : Calls Tryd.prog 6 #[.int .i64 12] w fun e w' => e = .returned (.string ⟨#[37]⟩) ∧ w = w' := by
  go_enter Tryd.func6, Tryd.ntmps6
  go_wp2
  go_ret
  exact ⟨rfl, rfl⟩
theorem opText_calls (n : Int) (w : World) (hT : TabOk w) : Calls Tryd.prog 6 #[.int .i64 n] w fun e w' => e = .returned (.string (opText n)) ∧ w = w' := by
  by_cases h : 1 ≤ n ∧ n ≤ 12
  · have hc : n = 1 ∨ n = 2 ∨ n = 3 ∨ n = 4 ∨ n = 5 ∨ n = 6 ∨ n = 7 ∨ n = 8 ∨ n = 9 ∨ n = 10 ∨ n = 11 ∨ n = 12 := by omega
    rcases hc with rfl | rfl | rfl | rfl | rfl | rfl | rfl | rfl | rfl | rfl | rfl | rfl
    · exact opText_1 w (hT.cells 0 _ rfl)
    · exact opText_2 w (hT.cells 1 _ rfl)
    · exact opText_3 w (hT.cells 2 _ rfl)
    · exact opText_4 w (hT.cells 3 _ rfl)
    · exact opText_5 w (hT.cells 4 _ rfl)
    · exact opText_6 w (hT.cells 5 _ rfl)
    · exact opText_7 w (hT.cells 6 _ rfl)
    · exact opText_8 w (hT.cells 7 _ rfl)
    · exact opText_9 w (hT.cells 8 _ rfl)
    · exact opText_10 w (hT.cells 9 _ rfl)
    · exact opText_11 w (hT.cells 10 _ rfl)
    · exact opText_12 w (hT.cells 11 _ rfl)
  · have e : opText n = ⟨#[]⟩ := by unfold opText; rw [if_neg h]
    rw [e]
    exact opText_out n w h
/-- 'OpText', as the print tells functions. -/
def impl_OpText.f (a0 : Int) : Option ByteArray := some (opText a0)
theorem impl_OpText.calls (a0 : Int) (r : ByteArray) (w : World) (hT : TabOk w) (h : impl_OpText.f a0 = some r) :
    Calls Tryd.prog 6 #[.int .i64 a0] w fun e w' => e = .returned (.string r) ∧ Drawn0 w w' := by
  obtain rfl := Option.some.inj h
  exact (opText_calls a0 w hT).mono fun e w' ⟨he, hw⟩ => ⟨he, by rw [hw]; exact Drawn0.refl _⟩
end Go.Proofs.YtnjmmkbbckpobaaDoor.Given
