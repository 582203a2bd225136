/-
  DERIVED. GIVEN WITH THE SEED: THE CARDS: each row of YtfhcllnhlblliaaGreatDoorRows.lean that lists a variable, with what it lists TIED to the program's text (the seventh form; the later family's looks); each row that meets fmt, with fmt's text TOLD by the authors' own Lean function (tested against real Go, not proved from fmt's source: count such statements apart). THE CARD IS WHAT COUNTS. Prove the row's statement (the work); the ties are given (YtfhcllnhlblliaaGreatDoorTie.lean); close each card by the builder's one call (the guide's Derived/Test/ToyasCard.lean, 'card_holds'). Laid BY PROGRAM, IN A SANDBOX (cutbox-door.mjs). By AI agents, Wed Nov 11 2026. No macro, syntax, notation, axiom, sorry.
-/
import Derived.Test.YtfhcllnhlblliaaGreatDoorRows
import GoSem.ClaimSeven
namespace Go.Proofs.YtfhcllnhlblliaaGreatDoor
namespace Rows

/-- THE TIED CARD OF 'laws.FnItems'. -/
def fnItemsCard : Claim7 := { stood := { row := fnItemsRow, standIns := [], harness := (true, "d3a80e47a404049de747b140c1335e5730c7d606a368d14dd12f42b6cd30836f"), looks := false }, kinds := [], alts := [], laidByText := true, laidKinds := [.data, .pinned], laidTests := true, laidLooks := .later }
def FnItemsCardSaid : Prop := Claim7.holds Tryz.pinned (.plain (OpenSpec.ofChange fnItemsSpec)) fnItemsCard

/-- THE TIED CARD OF 'laws.FnAgain'. -/
def fnAgainCard : Claim7 := { stood := { row := fnAgainRow, standIns := [], harness := (true, "d3a80e47a404049de747b140c1335e5730c7d606a368d14dd12f42b6cd30836f"), looks := false }, kinds := [], alts := [], laidByText := true, laidKinds := [.data, .pinned], laidTests := true, laidLooks := .later }
def FnAgainCardSaid : Prop := Claim7.holds Tryz.pinned (.plain (OpenSpec.ofChange fnAgainSpec)) fnAgainCard

/-- THE TIED CARD OF 'laws.FnStays'. -/
def fnStaysCard : Claim7 := { stood := { row := fnStaysRow, standIns := [], harness := (true, "d3a80e47a404049de747b140c1335e5730c7d606a368d14dd12f42b6cd30836f"), looks := false }, kinds := [], alts := [], laidByText := true, laidKinds := [.data, .pinned], laidTests := true, laidLooks := .later }
def FnStaysCardSaid : Prop := Claim7.holds Tryz.pinned (.plain (OpenSpec.ofChange fnStaysSpec)) fnStaysCard

/-- THE TIED CARD OF 'laws.FnRefusals'. -/
def fnRefusalsCard : Claim7 := { stood := { row := fnRefusalsRow, standIns := [], harness := (true, "d3a80e47a404049de747b140c1335e5730c7d606a368d14dd12f42b6cd30836f"), looks := false }, kinds := [], alts := [], laidByText := true, laidKinds := [.data, .pinned], laidTests := true, laidLooks := .later }
def FnRefusalsCardSaid : Prop := Claim7.holds Tryz.pinned (.plain (OpenSpec.ofChange fnRefusalsSpec)) fnRefusalsCard

/-- THE TIED CARD OF 'laws.FnAlone'. -/
def fnAloneCard : Claim7 := { stood := { row := fnAloneRow, standIns := [], harness := (true, "d3a80e47a404049de747b140c1335e5730c7d606a368d14dd12f42b6cd30836f"), looks := false }, kinds := [], alts := [], laidByText := true, laidKinds := [.data, .pinned], laidTests := true, laidLooks := .later }
def FnAloneCardSaid : Prop := Claim7.holds Tryz.pinned (.plain (OpenSpec.ofChange fnAloneSpec)) fnAloneCard

/-- THE TIED CARD OF 'laws.FnKept'. -/
def fnKeptCard : Claim7 := { stood := { row := fnKeptRow, standIns := [], harness := (true, "d3a80e47a404049de747b140c1335e5730c7d606a368d14dd12f42b6cd30836f"), looks := false }, kinds := [], alts := [], laidByText := true, laidKinds := [.data, .pinned], laidTests := true, laidLooks := .later }
def FnKeptCardSaid : Prop := Claim7.holds Tryz.pinned (.plain (OpenSpec.ofChange fnKeptSpec)) fnKeptCard

/-- THE TIED CARD OF 'laws.FnBring'. -/
def fnBringCard : Claim7 := { stood := { row := fnBringRow, standIns := [], harness := (true, "d3a80e47a404049de747b140c1335e5730c7d606a368d14dd12f42b6cd30836f"), looks := false }, kinds := [], alts := [], laidByText := true, laidKinds := [.data, .data, .data, .pinned], laidTests := true, laidLooks := .later }
def FnBringCardSaid : Prop := Claim7.holds Tryz.pinned (.plain (OpenSpec.ofChange fnBringSpec)) fnBringCard

/-- THE TIED CARD OF 'laws.FnExactBring'. -/
def fnExactBringCard : Claim7 := { stood := { row := fnExactBringRow, standIns := [], harness := (true, "d3a80e47a404049de747b140c1335e5730c7d606a368d14dd12f42b6cd30836f"), looks := false }, kinds := [], alts := [], laidByText := true, laidKinds := [.data, .data, .data, .pinned], laidTests := true, laidLooks := .later }
def FnExactBringCardSaid : Prop := Claim7.holds Tryz.pinned (.plain (OpenSpec.ofChange fnExactBringSpec)) fnExactBringCard

/-- THE SECOND FORM's CARD OF 'laws.FnItems'. -/
def fnItemsUptoCard : Claim7 := { stood := { row := fnItemsUptoRow, standIns := [], harness := (true, "d3a80e47a404049de747b140c1335e5730c7d606a368d14dd12f42b6cd30836f"), looks := false }, kinds := [], alts := [], laidByText := true, laidKinds := [.data, .pinned], laidTests := true, laidLooks := .later }
def FnItemsUptoCardSaid : Prop := Claim7.holds Tryz.pinned (.plain (OpenSpec.upto fnItemsSpec)) fnItemsUptoCard

/-- THE SECOND FORM's CARD OF 'laws.FnAgain'. -/
def fnAgainUptoCard : Claim7 := { stood := { row := fnAgainUptoRow, standIns := [], harness := (true, "d3a80e47a404049de747b140c1335e5730c7d606a368d14dd12f42b6cd30836f"), looks := false }, kinds := [], alts := [], laidByText := true, laidKinds := [.data, .pinned], laidTests := true, laidLooks := .later }
def FnAgainUptoCardSaid : Prop := Claim7.holds Tryz.pinned (.plain (OpenSpec.upto fnAgainSpec)) fnAgainUptoCard

/-- THE SECOND FORM's CARD OF 'laws.FnStays'. -/
def fnStaysUptoCard : Claim7 := { stood := { row := fnStaysUptoRow, standIns := [], harness := (true, "d3a80e47a404049de747b140c1335e5730c7d606a368d14dd12f42b6cd30836f"), looks := false }, kinds := [], alts := [], laidByText := true, laidKinds := [.data, .pinned], laidTests := true, laidLooks := .later }
def FnStaysUptoCardSaid : Prop := Claim7.holds Tryz.pinned (.plain (OpenSpec.upto fnStaysSpec)) fnStaysUptoCard

/-- THE SECOND FORM's CARD OF 'laws.FnRefusals'. -/
def fnRefusalsUptoCard : Claim7 := { stood := { row := fnRefusalsUptoRow, standIns := [], harness := (true, "d3a80e47a404049de747b140c1335e5730c7d606a368d14dd12f42b6cd30836f"), looks := false }, kinds := [], alts := [], laidByText := true, laidKinds := [.data, .pinned], laidTests := true, laidLooks := .later }
def FnRefusalsUptoCardSaid : Prop := Claim7.holds Tryz.pinned (.plain (OpenSpec.upto fnRefusalsSpec)) fnRefusalsUptoCard

/-- THE SECOND FORM's CARD OF 'laws.FnAlone'. -/
def fnAloneUptoCard : Claim7 := { stood := { row := fnAloneUptoRow, standIns := [], harness := (true, "d3a80e47a404049de747b140c1335e5730c7d606a368d14dd12f42b6cd30836f"), looks := false }, kinds := [], alts := [], laidByText := true, laidKinds := [.data, .pinned], laidTests := true, laidLooks := .later }
def FnAloneUptoCardSaid : Prop := Claim7.holds Tryz.pinned (.plain (OpenSpec.upto fnAloneSpec)) fnAloneUptoCard

/-- THE SECOND FORM's CARD OF 'laws.FnKept'. -/
def fnKeptUptoCard : Claim7 := { stood := { row := fnKeptUptoRow, standIns := [], harness := (true, "d3a80e47a404049de747b140c1335e5730c7d606a368d14dd12f42b6cd30836f"), looks := false }, kinds := [], alts := [], laidByText := true, laidKinds := [.data, .pinned], laidTests := true, laidLooks := .later }
def FnKeptUptoCardSaid : Prop := Claim7.holds Tryz.pinned (.plain (OpenSpec.upto fnKeptSpec)) fnKeptUptoCard

/-- THE SECOND FORM's CARD OF 'laws.FnBring'. -/
def fnBringUptoCard : Claim7 := { stood := { row := fnBringUptoRow, standIns := [], harness := (true, "d3a80e47a404049de747b140c1335e5730c7d606a368d14dd12f42b6cd30836f"), looks := false }, kinds := [], alts := [], laidByText := true, laidKinds := [.data, .data, .data, .pinned], laidTests := true, laidLooks := .later }
def FnBringUptoCardSaid : Prop := Claim7.holds Tryz.pinned (.plain (OpenSpec.upto fnBringSpec)) fnBringUptoCard

/-- THE SECOND FORM's CARD OF 'laws.FnExactBring'. -/
def fnExactBringUptoCard : Claim7 := { stood := { row := fnExactBringUptoRow, standIns := [], harness := (true, "d3a80e47a404049de747b140c1335e5730c7d606a368d14dd12f42b6cd30836f"), looks := false }, kinds := [], alts := [], laidByText := true, laidKinds := [.data, .data, .data, .pinned], laidTests := true, laidLooks := .later }
def FnExactBringUptoCardSaid : Prop := Claim7.holds Tryz.pinned (.plain (OpenSpec.upto fnExactBringSpec)) fnExactBringUptoCard
end Rows
end Go.Proofs.YtfhcllnhlblliaaGreatDoor
