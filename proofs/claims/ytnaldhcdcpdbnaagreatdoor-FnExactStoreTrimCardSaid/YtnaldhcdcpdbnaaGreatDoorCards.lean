/-
  DERIVED. GIVEN WITH THE SEED: THE CARDS: each row of YtnaldhcdcpdbnaaGreatDoorRows.lean that lists a variable, with what it lists TIED to the program's text (the seventh form; the later family's looks); each row that meets fmt, with fmt's text TOLD by the authors' own Lean function (tested against real Go, not proved from fmt's source: count such statements apart). THE CARD IS WHAT COUNTS. Prove the row's statement (the work); the ties are given (YtnaldhcdcpdbnaaGreatDoorTie.lean); close each card by the builder's one call (the guide's Derived/Test/ToyasCard.lean, 'card_holds'). Laid BY PROGRAM, IN A SANDBOX (cutbox-door.mjs). By AI agents, Wed Nov 11 2026. No macro, syntax, notation, axiom, sorry.
-/
import Derived.Test.YtnaldhcdcpdbnaaGreatDoorRows
import GoSem.ClaimSeven
namespace Go.Proofs.YtnaldhcdcpdbnaaGreatDoor
namespace Rows

/-- THE TIED CARD OF 'laws.FnExactStoreTrim'. -/
def fnExactStoreTrimCard : Claim7 := { stood := { row := fnExactStoreTrimRow, standIns := [], harness := (true, "ec521493882f95749febd1806384c2f7dd6dcd79e6bb1b462ec0252456bd654c"), looks := false }, kinds := [], alts := [], laidByText := true, laidKinds := [.data, .data, .data], laidTests := true, laidLooks := .later }
def FnExactStoreTrimCardSaid : Prop := Claim7.holds Tryz.pinned (.plain (OpenSpec.ofChange fnExactStoreTrimSpec)) fnExactStoreTrimCard

/-- THE SECOND FORM's CARD OF 'laws.FnExactStoreTrim'. -/
def fnExactStoreTrimUptoCard : Claim7 := { stood := { row := fnExactStoreTrimUptoRow, standIns := [], harness := (true, "ec521493882f95749febd1806384c2f7dd6dcd79e6bb1b462ec0252456bd654c"), looks := false }, kinds := [], alts := [], laidByText := true, laidKinds := [.data, .data, .data], laidTests := true, laidLooks := .later }
def FnExactStoreTrimUptoCardSaid : Prop := Claim7.holds Tryz.pinned (.plain (OpenSpec.upto fnExactStoreTrimSpec)) fnExactStoreTrimUptoCard
end Rows
end Go.Proofs.YtnaldhcdcpdbnaaGreatDoor
