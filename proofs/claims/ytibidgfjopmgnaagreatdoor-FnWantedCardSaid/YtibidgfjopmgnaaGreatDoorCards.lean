/-
  DERIVED. GIVEN WITH THE SEED: THE CARDS: each row of YtibidgfjopmgnaaGreatDoorRows.lean that lists a variable, with what it lists TIED to the program's text (the seventh form; the later family's looks); each row that meets fmt, with fmt's text TOLD by the authors' own Lean function (tested against real Go, not proved from fmt's source: count such statements apart). THE CARD IS WHAT COUNTS. Prove the row's statement (the work); the ties are given (YtibidgfjopmgnaaGreatDoorTie.lean); close each card by the builder's one call (the guide's Derived/Test/ToyasCard.lean, 'card_holds'). Laid BY PROGRAM, IN A SANDBOX (cutbox-door.mjs). By AI agents, Wed Nov 11 2026. No macro, syntax, notation, axiom, sorry.
-/
import Derived.Test.YtibidgfjopmgnaaGreatDoorRows
import GoSem.ClaimSeven
namespace Go.Proofs.YtibidgfjopmgnaaGreatDoor
namespace Rows

/-- THE TIED CARD OF 'laws.FnWanted'. -/
def fnWantedCard : Claim7 := { stood := { row := fnWantedRow, standIns := [], harness := (true, "40d7423bf3a2dacb0a5580038f5f4a91ca847ba95696f7ad2c3b1e788c043d27"), looks := false }, kinds := [], alts := [], laidByText := true, laidKinds := [.data, .pinned], laidTests := true, laidLooks := .later }
def FnWantedCardSaid : Prop := Claim7.holds Tryz.pinned (.plain (OpenSpec.ofChange fnWantedSpec)) fnWantedCard

/-- THE TIED CARD OF 'laws.FnBring'. -/
def fnBringCard : Claim7 := { stood := { row := fnBringRow, standIns := [], harness := (true, "40d7423bf3a2dacb0a5580038f5f4a91ca847ba95696f7ad2c3b1e788c043d27"), looks := false }, kinds := [], alts := [], laidByText := true, laidKinds := [.data, .data, .data, .pinned], laidTests := true, laidLooks := .later }
def FnBringCardSaid : Prop := Claim7.holds Tryz.pinned (.plain (OpenSpec.ofChange fnBringSpec)) fnBringCard

/-- THE TIED CARD OF 'laws.FnExactBring'. -/
def fnExactBringCard : Claim7 := { stood := { row := fnExactBringRow, standIns := [], harness := (true, "40d7423bf3a2dacb0a5580038f5f4a91ca847ba95696f7ad2c3b1e788c043d27"), looks := false }, kinds := [], alts := [], laidByText := true, laidKinds := [.data, .data, .data, .pinned], laidTests := true, laidLooks := .later }
def FnExactBringCardSaid : Prop := Claim7.holds Tryz.pinned (.plain (OpenSpec.ofChange fnExactBringSpec)) fnExactBringCard

/-- THE SECOND FORM's CARD OF 'laws.FnWanted'. -/
def fnWantedUptoCard : Claim7 := { stood := { row := fnWantedUptoRow, standIns := [], harness := (true, "40d7423bf3a2dacb0a5580038f5f4a91ca847ba95696f7ad2c3b1e788c043d27"), looks := false }, kinds := [], alts := [], laidByText := true, laidKinds := [.data, .pinned], laidTests := true, laidLooks := .later }
def FnWantedUptoCardSaid : Prop := Claim7.holds Tryz.pinned (.plain (OpenSpec.upto fnWantedSpec)) fnWantedUptoCard

/-- THE SECOND FORM's CARD OF 'laws.FnBring'. -/
def fnBringUptoCard : Claim7 := { stood := { row := fnBringUptoRow, standIns := [], harness := (true, "40d7423bf3a2dacb0a5580038f5f4a91ca847ba95696f7ad2c3b1e788c043d27"), looks := false }, kinds := [], alts := [], laidByText := true, laidKinds := [.data, .data, .data, .pinned], laidTests := true, laidLooks := .later }
def FnBringUptoCardSaid : Prop := Claim7.holds Tryz.pinned (.plain (OpenSpec.upto fnBringSpec)) fnBringUptoCard

/-- THE SECOND FORM's CARD OF 'laws.FnExactBring'. -/
def fnExactBringUptoCard : Claim7 := { stood := { row := fnExactBringUptoRow, standIns := [], harness := (true, "40d7423bf3a2dacb0a5580038f5f4a91ca847ba95696f7ad2c3b1e788c043d27"), looks := false }, kinds := [], alts := [], laidByText := true, laidKinds := [.data, .data, .data, .pinned], laidTests := true, laidLooks := .later }
def FnExactBringUptoCardSaid : Prop := Claim7.holds Tryz.pinned (.plain (OpenSpec.upto fnExactBringSpec)) fnExactBringUptoCard
end Rows
end Go.Proofs.YtibidgfjopmgnaaGreatDoor
