/-
  DERIVED. GIVEN WITH THE SEED: THE CARDS: each row of YtkbaoeklchdioaaDoorRows.lean that lists a variable, with what it lists TIED to the program's text (the seventh form; the later family's looks); each row that meets fmt, with fmt's text TOLD by the authors' own Lean function (tested against real Go, not proved from fmt's source: count such statements apart). THE CARD IS WHAT COUNTS. Prove the row's statement (the work); the ties are given (YtkbaoeklchdioaaDoorTie.lean); close each card by the builder's one call (the guide's Derived/Test/ToyasCard.lean, 'card_holds'). Laid BY PROGRAM, IN A SANDBOX (cutbox-door.mjs). By AI agents, Wed Nov 11 2026. No macro, syntax, notation, axiom, sorry.
-/
import Derived.Test.YtkbaoeklchdioaaDoorRows
import GoSem.ClaimSeven
namespace Go.Proofs.YtkbaoeklchdioaaDoor
namespace Rows

/-- THE TIED CARD OF 'laws.FnExactOptsOk'. -/
def fnExactOptsOkCard : Claim7 := { stood := { row := fnExactOptsOkRow, standIns := [], harness := (true, "23a9990f060375b33b471dbcc2cd37ca88997fd8f46e72755301175d3646229b"), looks := false }, kinds := [], alts := [], laidByText := true, laidKinds := [.data, .pinned], laidTests := true, laidLooks := .later }
def FnExactOptsOkCardSaid : Prop := Claim7.holds Tryd.pinned (.plain (OpenSpec.ofChange fnExactOptsOkSpec)) fnExactOptsOkCard

/-- THE TIED CARD OF 'laws.FnExactBackupPath'. -/
def fnExactBackupPathCard : Claim7 := { stood := { row := fnExactBackupPathRow, standIns := [], harness := (true, "23a9990f060375b33b471dbcc2cd37ca88997fd8f46e72755301175d3646229b"), looks := false }, kinds := [], alts := [], laidByText := true, laidKinds := [.data, .pinned], laidTests := true, laidLooks := .later }
def FnExactBackupPathCardSaid : Prop := Claim7.holds Tryd.pinned (.plain (OpenSpec.ofChange fnExactBackupPathSpec)) fnExactBackupPathCard

/-- THE TIED CARD OF 'laws.FnExactShowOpts'. -/
def fnExactShowOptsCard : Claim7 := { stood := { row := fnExactShowOptsRow, standIns := [], harness := (true, "23a9990f060375b33b471dbcc2cd37ca88997fd8f46e72755301175d3646229b"), looks := false }, kinds := [], alts := [], laidByText := true, laidKinds := [.data, .pinned], laidTests := true, laidLooks := .later }
def FnExactShowOptsCardSaid : Prop := Claim7.holds Tryd.pinned (.plain (OpenSpec.ofChange fnExactShowOptsSpec)) fnExactShowOptsCard

/-- THE TIED CARD OF 'laws.FnExactParseOpts'. -/
def fnExactParseOptsCard : Claim7 := { stood := { row := fnExactParseOptsRow, standIns := [], harness := (true, "23a9990f060375b33b471dbcc2cd37ca88997fd8f46e72755301175d3646229b"), looks := false }, kinds := [], alts := [], laidByText := true, laidKinds := [.data, .pinned], laidTests := true, laidLooks := .later }
def FnExactParseOptsCardSaid : Prop := Claim7.holds Tryd.pinned (.plain (OpenSpec.ofChange fnExactParseOptsSpec)) fnExactParseOptsCard

/-- THE TIED CARD OF 'laws.FnOptions'. -/
def fnOptionsCard : Claim7 := { stood := { row := fnOptionsRow, standIns := [], harness := (true, "23a9990f060375b33b471dbcc2cd37ca88997fd8f46e72755301175d3646229b"), looks := false }, kinds := [], alts := [], laidByText := true, laidKinds := [.data, .pinned], laidTests := true, laidLooks := .later }
def FnOptionsCardSaid : Prop := Claim7.holds Tryd.pinned (.plain (OpenSpec.ofChange fnOptionsSpec)) fnOptionsCard

/-- THE TIED CARD OF 'laws.FnExactEntriesOk'. -/
def fnExactEntriesOkCard : Claim7 := { stood := { row := fnExactEntriesOkRow, standIns := [], harness := (true, "23a9990f060375b33b471dbcc2cd37ca88997fd8f46e72755301175d3646229b"), looks := false }, kinds := [], alts := [], laidByText := true, laidKinds := [.data, .pinned], laidTests := true, laidLooks := .later }
def FnExactEntriesOkCardSaid : Prop := Claim7.holds Tryd.pinned (.plain (OpenSpec.ofChange fnExactEntriesOkSpec)) fnExactEntriesOkCard

/-- THE TIED CARD OF 'laws.FnExactPutEntries'. -/
def fnExactPutEntriesCard : Claim7 := { stood := { row := fnExactPutEntriesRow, standIns := [], harness := (true, "23a9990f060375b33b471dbcc2cd37ca88997fd8f46e72755301175d3646229b"), looks := false }, kinds := [], alts := [], laidByText := true, laidKinds := [.data, .pinned], laidTests := true, laidLooks := .later }
def FnExactPutEntriesCardSaid : Prop := Claim7.holds Tryd.pinned (.plain (OpenSpec.ofChange fnExactPutEntriesSpec)) fnExactPutEntriesCard

/-- THE TIED CARD OF 'laws.FnExactItem'. -/
def fnExactItemCard : Claim7 := { stood := { row := fnExactItemRow, standIns := [], harness := (true, "23a9990f060375b33b471dbcc2cd37ca88997fd8f46e72755301175d3646229b"), looks := false }, kinds := [], alts := [], laidByText := true, laidKinds := [.data, .pinned], laidTests := true, laidLooks := .later }
def FnExactItemCardSaid : Prop := Claim7.holds Tryd.pinned (.plain (OpenSpec.ofChange fnExactItemSpec)) fnExactItemCard

/-- THE TIED CARD OF 'laws.FnExactItemLine'. -/
def fnExactItemLineCard : Claim7 := { stood := { row := fnExactItemLineRow, standIns := [], harness := (true, "23a9990f060375b33b471dbcc2cd37ca88997fd8f46e72755301175d3646229b"), looks := false }, kinds := [], alts := [], laidByText := true, laidKinds := [.data, .pinned], laidTests := true, laidLooks := .later }
def FnExactItemLineCardSaid : Prop := Claim7.holds Tryd.pinned (.plain (OpenSpec.ofChange fnExactItemLineSpec)) fnExactItemLineCard

/-- THE TIED CARD OF 'laws.FnExactItems'. -/
def fnExactItemsCard : Claim7 := { stood := { row := fnExactItemsRow, standIns := [], harness := (true, "23a9990f060375b33b471dbcc2cd37ca88997fd8f46e72755301175d3646229b"), looks := false }, kinds := [], alts := [], laidByText := true, laidKinds := [.data, .pinned], laidTests := true, laidLooks := .later }
def FnExactItemsCardSaid : Prop := Claim7.holds Tryd.pinned (.plain (OpenSpec.ofChange fnExactItemsSpec)) fnExactItemsCard

/-- THE SECOND FORM's CARD OF 'laws.FnExactOptsOk'. -/
def fnExactOptsOkUptoCard : Claim7 := { stood := { row := fnExactOptsOkUptoRow, standIns := [], harness := (true, "23a9990f060375b33b471dbcc2cd37ca88997fd8f46e72755301175d3646229b"), looks := false }, kinds := [], alts := [], laidByText := true, laidKinds := [.data, .pinned], laidTests := true, laidLooks := .later }
def FnExactOptsOkUptoCardSaid : Prop := Claim7.holds Tryd.pinned (.plain (OpenSpec.upto fnExactOptsOkSpec)) fnExactOptsOkUptoCard

/-- THE SECOND FORM's CARD OF 'laws.FnExactBackupPath'. -/
def fnExactBackupPathUptoCard : Claim7 := { stood := { row := fnExactBackupPathUptoRow, standIns := [], harness := (true, "23a9990f060375b33b471dbcc2cd37ca88997fd8f46e72755301175d3646229b"), looks := false }, kinds := [], alts := [], laidByText := true, laidKinds := [.data, .pinned], laidTests := true, laidLooks := .later }
def FnExactBackupPathUptoCardSaid : Prop := Claim7.holds Tryd.pinned (.plain (OpenSpec.upto fnExactBackupPathSpec)) fnExactBackupPathUptoCard

/-- THE SECOND FORM's CARD OF 'laws.FnExactShowOpts'. -/
def fnExactShowOptsUptoCard : Claim7 := { stood := { row := fnExactShowOptsUptoRow, standIns := [], harness := (true, "23a9990f060375b33b471dbcc2cd37ca88997fd8f46e72755301175d3646229b"), looks := false }, kinds := [], alts := [], laidByText := true, laidKinds := [.data, .pinned], laidTests := true, laidLooks := .later }
def FnExactShowOptsUptoCardSaid : Prop := Claim7.holds Tryd.pinned (.plain (OpenSpec.upto fnExactShowOptsSpec)) fnExactShowOptsUptoCard

/-- THE SECOND FORM's CARD OF 'laws.FnExactParseOpts'. -/
def fnExactParseOptsUptoCard : Claim7 := { stood := { row := fnExactParseOptsUptoRow, standIns := [], harness := (true, "23a9990f060375b33b471dbcc2cd37ca88997fd8f46e72755301175d3646229b"), looks := false }, kinds := [], alts := [], laidByText := true, laidKinds := [.data, .pinned], laidTests := true, laidLooks := .later }
def FnExactParseOptsUptoCardSaid : Prop := Claim7.holds Tryd.pinned (.plain (OpenSpec.upto fnExactParseOptsSpec)) fnExactParseOptsUptoCard

/-- THE SECOND FORM's CARD OF 'laws.FnOptions'. -/
def fnOptionsUptoCard : Claim7 := { stood := { row := fnOptionsUptoRow, standIns := [], harness := (true, "23a9990f060375b33b471dbcc2cd37ca88997fd8f46e72755301175d3646229b"), looks := false }, kinds := [], alts := [], laidByText := true, laidKinds := [.data, .pinned], laidTests := true, laidLooks := .later }
def FnOptionsUptoCardSaid : Prop := Claim7.holds Tryd.pinned (.plain (OpenSpec.upto fnOptionsSpec)) fnOptionsUptoCard

/-- THE SECOND FORM's CARD OF 'laws.FnExactEntriesOk'. -/
def fnExactEntriesOkUptoCard : Claim7 := { stood := { row := fnExactEntriesOkUptoRow, standIns := [], harness := (true, "23a9990f060375b33b471dbcc2cd37ca88997fd8f46e72755301175d3646229b"), looks := false }, kinds := [], alts := [], laidByText := true, laidKinds := [.data, .pinned], laidTests := true, laidLooks := .later }
def FnExactEntriesOkUptoCardSaid : Prop := Claim7.holds Tryd.pinned (.plain (OpenSpec.upto fnExactEntriesOkSpec)) fnExactEntriesOkUptoCard

/-- THE SECOND FORM's CARD OF 'laws.FnExactPutEntries'. -/
def fnExactPutEntriesUptoCard : Claim7 := { stood := { row := fnExactPutEntriesUptoRow, standIns := [], harness := (true, "23a9990f060375b33b471dbcc2cd37ca88997fd8f46e72755301175d3646229b"), looks := false }, kinds := [], alts := [], laidByText := true, laidKinds := [.data, .pinned], laidTests := true, laidLooks := .later }
def FnExactPutEntriesUptoCardSaid : Prop := Claim7.holds Tryd.pinned (.plain (OpenSpec.upto fnExactPutEntriesSpec)) fnExactPutEntriesUptoCard

/-- THE SECOND FORM's CARD OF 'laws.FnExactItem'. -/
def fnExactItemUptoCard : Claim7 := { stood := { row := fnExactItemUptoRow, standIns := [], harness := (true, "23a9990f060375b33b471dbcc2cd37ca88997fd8f46e72755301175d3646229b"), looks := false }, kinds := [], alts := [], laidByText := true, laidKinds := [.data, .pinned], laidTests := true, laidLooks := .later }
def FnExactItemUptoCardSaid : Prop := Claim7.holds Tryd.pinned (.plain (OpenSpec.upto fnExactItemSpec)) fnExactItemUptoCard

/-- THE SECOND FORM's CARD OF 'laws.FnExactItemLine'. -/
def fnExactItemLineUptoCard : Claim7 := { stood := { row := fnExactItemLineUptoRow, standIns := [], harness := (true, "23a9990f060375b33b471dbcc2cd37ca88997fd8f46e72755301175d3646229b"), looks := false }, kinds := [], alts := [], laidByText := true, laidKinds := [.data, .pinned], laidTests := true, laidLooks := .later }
def FnExactItemLineUptoCardSaid : Prop := Claim7.holds Tryd.pinned (.plain (OpenSpec.upto fnExactItemLineSpec)) fnExactItemLineUptoCard

/-- THE SECOND FORM's CARD OF 'laws.FnExactItems'. -/
def fnExactItemsUptoCard : Claim7 := { stood := { row := fnExactItemsUptoRow, standIns := [], harness := (true, "23a9990f060375b33b471dbcc2cd37ca88997fd8f46e72755301175d3646229b"), looks := false }, kinds := [], alts := [], laidByText := true, laidKinds := [.data, .pinned], laidTests := true, laidLooks := .later }
def FnExactItemsUptoCardSaid : Prop := Claim7.holds Tryd.pinned (.plain (OpenSpec.upto fnExactItemsSpec)) fnExactItemsUptoCard
end Rows
end Go.Proofs.YtkbaoeklchdioaaDoor
