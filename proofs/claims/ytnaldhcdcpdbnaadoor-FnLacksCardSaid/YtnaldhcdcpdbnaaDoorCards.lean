/-
  DERIVED. GIVEN WITH THE SEED: THE CARDS: each row of YtnaldhcdcpdbnaaDoorRows.lean that lists a variable, with what it lists TIED to the program's text (the seventh form; the later family's looks); each row that meets fmt, with fmt's text TOLD by the authors' own Lean function (tested against real Go, not proved from fmt's source: count such statements apart). THE CARD IS WHAT COUNTS. Prove the row's statement (the work); the ties are given (YtnaldhcdcpdbnaaDoorTie.lean); close each card by the builder's one call (the guide's Derived/Test/ToyasCard.lean, 'card_holds'). Laid BY PROGRAM, IN A SANDBOX (cutbox-door.mjs). By AI agents, Wed Nov 11 2026. No macro, syntax, notation, axiom, sorry.
-/
import Derived.Test.YtnaldhcdcpdbnaaDoorRows
import GoSem.ClaimSeven
namespace Go.Proofs.YtnaldhcdcpdbnaaDoor
namespace Rows

/-- THE TIED CARD OF 'laws.FnLacks'. -/
def fnLacksCard : Claim7 := { stood := { row := fnLacksRow, standIns := [], harness := (true, "b09853be7febacc3b99397fb80330d2557f5a22b70c126f0b8edcd6f1464ac06"), looks := false }, kinds := [], alts := [], laidByText := true, laidKinds := [.data, .data, .data], laidTests := true, laidLooks := .later }
def FnLacksCardSaid : Prop := Claim7.holds Tryd.pinned (.plain (OpenSpec.ofChange fnLacksSpec)) fnLacksCard

/-- THE SECOND FORM's CARD OF 'laws.FnLacks'. -/
def fnLacksUptoCard : Claim7 := { stood := { row := fnLacksUptoRow, standIns := [], harness := (true, "b09853be7febacc3b99397fb80330d2557f5a22b70c126f0b8edcd6f1464ac06"), looks := false }, kinds := [], alts := [], laidByText := true, laidKinds := [.data, .data, .data], laidTests := true, laidLooks := .later }
def FnLacksUptoCardSaid : Prop := Claim7.holds Tryd.pinned (.plain (OpenSpec.upto fnLacksSpec)) fnLacksUptoCard
end Rows
end Go.Proofs.YtnaldhcdcpdbnaaDoor
