/-
  DERIVED. GIVEN WITH THE SEED: THE CARDS: each row of YtnjmmkbbckpobaaDoorRows.lean that lists a variable, with what it lists TIED to the program's text (the seventh form; the later family's looks); each row that meets fmt, with fmt's text TOLD by the authors' own Lean function (tested against real Go, not proved from fmt's source: count such statements apart). THE CARD IS WHAT COUNTS. Prove the row's statement (the work); the ties are given (YtnjmmkbbckpobaaDoorTie.lean); close each card by the builder's one call (the guide's Derived/Test/ToyasCard.lean, 'card_holds'). Laid BY PROGRAM, IN A SANDBOX (cutbox-door.mjs). By AI agents, Wed Nov 11 2026. No macro, syntax, notation, axiom, sorry.
-/
import Derived.Test.YtnjmmkbbckpobaaDoorRows
import GoSem.ClaimSeven
namespace Go.Proofs.YtnjmmkbbckpobaaDoor
namespace Rows

/-- THE TIED CARD OF 'laws.FnExactOpText'. -/
def fnExactOpTextCard : Claim7 := { stood := { row := fnExactOpTextRow, standIns := [], harness := (true, "764f1f6c5ee2658959c3989cc7ae2120eed8aca2a9817c37f6d8dff5fc740198"), looks := false }, kinds := [], alts := [], laidByText := true, laidKinds := [.data], laidTests := true, laidLooks := .later }
def FnExactOpTextCardSaid : Prop := Claim7.holds Tryd.pinned (.plain (OpenSpec.ofChange fnExactOpTextSpec)) fnExactOpTextCard

/-- THE TIED CARD OF 'laws.FnOpText'. -/
def fnOpTextCard : Claim7 := { stood := { row := fnOpTextRow, standIns := [], harness := (true, "764f1f6c5ee2658959c3989cc7ae2120eed8aca2a9817c37f6d8dff5fc740198"), looks := false }, kinds := [], alts := [], laidByText := true, laidKinds := [.data], laidTests := true, laidLooks := .later }
def FnOpTextCardSaid : Prop := Claim7.holds Tryd.pinned (.plain (OpenSpec.ofChange fnOpTextSpec)) fnOpTextCard

/-- THE SECOND FORM's CARD OF 'laws.FnExactOpText'. -/
def fnExactOpTextUptoCard : Claim7 := { stood := { row := fnExactOpTextUptoRow, standIns := [], harness := (true, "764f1f6c5ee2658959c3989cc7ae2120eed8aca2a9817c37f6d8dff5fc740198"), looks := false }, kinds := [], alts := [], laidByText := true, laidKinds := [.data], laidTests := true, laidLooks := .later }
def FnExactOpTextUptoCardSaid : Prop := Claim7.holds Tryd.pinned (.plain (OpenSpec.upto fnExactOpTextSpec)) fnExactOpTextUptoCard

/-- THE SECOND FORM's CARD OF 'laws.FnOpText'. -/
def fnOpTextUptoCard : Claim7 := { stood := { row := fnOpTextUptoRow, standIns := [], harness := (true, "764f1f6c5ee2658959c3989cc7ae2120eed8aca2a9817c37f6d8dff5fc740198"), looks := false }, kinds := [], alts := [], laidByText := true, laidKinds := [.data], laidTests := true, laidLooks := .later }
def FnOpTextUptoCardSaid : Prop := Claim7.holds Tryd.pinned (.plain (OpenSpec.upto fnOpTextSpec)) fnOpTextUptoCard
end Rows
end Go.Proofs.YtnjmmkbbckpobaaDoor
