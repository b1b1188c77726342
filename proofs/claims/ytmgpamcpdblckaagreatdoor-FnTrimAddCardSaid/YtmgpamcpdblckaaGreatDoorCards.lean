/-
  DERIVED. GIVEN WITH THE SEED: THE CARDS: each row of YtmgpamcpdblckaaGreatDoorRows.lean that lists a variable, with what it lists TIED to the program's text (the seventh form; the later family's looks); each row that meets fmt, with fmt's text TOLD by the authors' own Lean function (tested against real Go, not proved from fmt's source: count such statements apart). THE CARD IS WHAT COUNTS. Prove the row's statement (the work); the ties are given (YtmgpamcpdblckaaGreatDoorTie.lean); close each card by the builder's one call (the guide's Derived/Test/ToyasCard.lean, 'card_holds'). Laid BY PROGRAM, IN A SANDBOX (cutbox-door.mjs). By AI agents, Wed Nov 11 2026. No macro, syntax, notation, axiom, sorry.
-/
import Derived.Test.YtmgpamcpdblckaaGreatDoorRows
import GoSem.ClaimSeven
namespace Go.Proofs.YtmgpamcpdblckaaGreatDoor
namespace Rows

/-- THE TIED CARD OF 'laws.FnTrimJust'. -/
def fnTrimJustCard : Claim7 := { stood := { row := fnTrimJustRow, standIns := [], harness := (true, "9236cacd1ddfff622a892b01063d70ad6f31264026a482d7ede5e189894a5405"), looks := true }, kinds := [], alts := [], laidByText := true, laidKinds := [.data, .data, .data, .data, .sentinel, .sentinel, .pinned], laidTests := true, laidLooks := .later }
def FnTrimJustCardSaid : Prop := Claim7.holds Tryz.pinned (.plain (OpenSpec.ofChange fnTrimJustSpec)) fnTrimJustCard

/-- THE TIED CARD OF 'laws.FnAddOrder'. -/
def fnAddOrderCard : Claim7 := { stood := { row := fnAddOrderRow, standIns := [], harness := (true, "9236cacd1ddfff622a892b01063d70ad6f31264026a482d7ede5e189894a5405"), looks := true }, kinds := [], alts := [], laidByText := true, laidKinds := [.data, .data, .data, .data, .sentinel, .sentinel, .pinned], laidTests := true, laidLooks := .later }
def FnAddOrderCardSaid : Prop := Claim7.holds Tryz.pinned (.plain (OpenSpec.ofChange fnAddOrderSpec)) fnAddOrderCard

/-- THE TIED CARD OF 'laws.FnAddNone'. -/
def fnAddNoneCard : Claim7 := { stood := { row := fnAddNoneRow, standIns := [], harness := (true, "9236cacd1ddfff622a892b01063d70ad6f31264026a482d7ede5e189894a5405"), looks := true }, kinds := [], alts := [], laidByText := true, laidKinds := [.data, .data, .data, .data, .sentinel, .sentinel, .pinned], laidTests := true, laidLooks := .later }
def FnAddNoneCardSaid : Prop := Claim7.holds Tryz.pinned (.plain (OpenSpec.ofChange fnAddNoneSpec)) fnAddNoneCard

/-- THE TIED CARD OF 'laws.FnAddHas'. -/
def fnAddHasCard : Claim7 := { stood := { row := fnAddHasRow, standIns := [], harness := (true, "9236cacd1ddfff622a892b01063d70ad6f31264026a482d7ede5e189894a5405"), looks := true }, kinds := [], alts := [], laidByText := true, laidKinds := [.data, .data, .data, .data, .sentinel, .sentinel, .pinned], laidTests := true, laidLooks := .later }
def FnAddHasCardSaid : Prop := Claim7.holds Tryz.pinned (.plain (OpenSpec.ofChange fnAddHasSpec)) fnAddHasCard

/-- THE TIED CARD OF 'laws.FnTrimAdd'. -/
def fnTrimAddCard : Claim7 := { stood := { row := fnTrimAddRow, standIns := [], harness := (true, "9236cacd1ddfff622a892b01063d70ad6f31264026a482d7ede5e189894a5405"), looks := true }, kinds := [], alts := [], laidByText := true, laidKinds := [.data, .data, .data, .data, .sentinel, .sentinel, .pinned], laidTests := true, laidLooks := .later }
def FnTrimAddCardSaid : Prop := Claim7.holds Tryz.pinned (.plain (OpenSpec.ofChange fnTrimAddSpec)) fnTrimAddCard

/-- THE TIED CARD OF 'laws.FnExactStoreAdd'. -/
def fnExactStoreAddCard : Claim7 := { stood := { row := fnExactStoreAddRow, standIns := [], harness := (true, "9236cacd1ddfff622a892b01063d70ad6f31264026a482d7ede5e189894a5405"), looks := true }, kinds := [], alts := [], laidByText := true, laidKinds := [.data, .data, .data, .data, .sentinel, .sentinel, .pinned], laidTests := true, laidLooks := .later }
def FnExactStoreAddCardSaid : Prop := Claim7.holds Tryz.pinned (.plain (OpenSpec.ofChange fnExactStoreAddSpec)) fnExactStoreAddCard

/-- THE SECOND FORM's CARD OF 'laws.FnTrimJust'. -/
def fnTrimJustUptoCard : Claim7 := { stood := { row := fnTrimJustUptoRow, standIns := [], harness := (true, "9236cacd1ddfff622a892b01063d70ad6f31264026a482d7ede5e189894a5405"), looks := true }, kinds := [], alts := [], laidByText := true, laidKinds := [.data, .data, .data, .data, .sentinel, .sentinel, .pinned], laidTests := true, laidLooks := .later }
def FnTrimJustUptoCardSaid : Prop := Claim7.holds Tryz.pinned (.plain (OpenSpec.upto fnTrimJustSpec)) fnTrimJustUptoCard

/-- THE SECOND FORM's CARD OF 'laws.FnAddOrder'. -/
def fnAddOrderUptoCard : Claim7 := { stood := { row := fnAddOrderUptoRow, standIns := [], harness := (true, "9236cacd1ddfff622a892b01063d70ad6f31264026a482d7ede5e189894a5405"), looks := true }, kinds := [], alts := [], laidByText := true, laidKinds := [.data, .data, .data, .data, .sentinel, .sentinel, .pinned], laidTests := true, laidLooks := .later }
def FnAddOrderUptoCardSaid : Prop := Claim7.holds Tryz.pinned (.plain (OpenSpec.upto fnAddOrderSpec)) fnAddOrderUptoCard

/-- THE SECOND FORM's CARD OF 'laws.FnAddNone'. -/
def fnAddNoneUptoCard : Claim7 := { stood := { row := fnAddNoneUptoRow, standIns := [], harness := (true, "9236cacd1ddfff622a892b01063d70ad6f31264026a482d7ede5e189894a5405"), looks := true }, kinds := [], alts := [], laidByText := true, laidKinds := [.data, .data, .data, .data, .sentinel, .sentinel, .pinned], laidTests := true, laidLooks := .later }
def FnAddNoneUptoCardSaid : Prop := Claim7.holds Tryz.pinned (.plain (OpenSpec.upto fnAddNoneSpec)) fnAddNoneUptoCard

/-- THE SECOND FORM's CARD OF 'laws.FnAddHas'. -/
def fnAddHasUptoCard : Claim7 := { stood := { row := fnAddHasUptoRow, standIns := [], harness := (true, "9236cacd1ddfff622a892b01063d70ad6f31264026a482d7ede5e189894a5405"), looks := true }, kinds := [], alts := [], laidByText := true, laidKinds := [.data, .data, .data, .data, .sentinel, .sentinel, .pinned], laidTests := true, laidLooks := .later }
def FnAddHasUptoCardSaid : Prop := Claim7.holds Tryz.pinned (.plain (OpenSpec.upto fnAddHasSpec)) fnAddHasUptoCard

/-- THE SECOND FORM's CARD OF 'laws.FnTrimAdd'. -/
def fnTrimAddUptoCard : Claim7 := { stood := { row := fnTrimAddUptoRow, standIns := [], harness := (true, "9236cacd1ddfff622a892b01063d70ad6f31264026a482d7ede5e189894a5405"), looks := true }, kinds := [], alts := [], laidByText := true, laidKinds := [.data, .data, .data, .data, .sentinel, .sentinel, .pinned], laidTests := true, laidLooks := .later }
def FnTrimAddUptoCardSaid : Prop := Claim7.holds Tryz.pinned (.plain (OpenSpec.upto fnTrimAddSpec)) fnTrimAddUptoCard

/-- THE SECOND FORM's CARD OF 'laws.FnExactStoreAdd'. -/
def fnExactStoreAddUptoCard : Claim7 := { stood := { row := fnExactStoreAddUptoRow, standIns := [], harness := (true, "9236cacd1ddfff622a892b01063d70ad6f31264026a482d7ede5e189894a5405"), looks := true }, kinds := [], alts := [], laidByText := true, laidKinds := [.data, .data, .data, .data, .sentinel, .sentinel, .pinned], laidTests := true, laidLooks := .later }
def FnExactStoreAddUptoCardSaid : Prop := Claim7.holds Tryz.pinned (.plain (OpenSpec.upto fnExactStoreAddSpec)) fnExactStoreAddUptoCard
end Rows
end Go.Proofs.YtmgpamcpdblckaaGreatDoor
