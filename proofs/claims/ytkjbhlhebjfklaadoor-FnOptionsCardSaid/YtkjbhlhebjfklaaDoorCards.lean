/-
  DERIVED. GIVEN WITH THE SEED: THE CARDS: each row of YtkjbhlhebjfklaaDoorRows.lean that lists a variable, with what it lists TIED to the program's text (the seventh form; the later family's looks); each row that meets fmt, with fmt's text TOLD by the authors' own Lean function (tested against real Go, not proved from fmt's source: count such statements apart). THE CARD IS WHAT COUNTS. Prove the row's statement (the work); the ties are given (YtkjbhlhebjfklaaDoorTie.lean); close each card by the builder's one call (the guide's Derived/Test/ToyasCard.lean, 'card_holds'). Laid BY PROGRAM, IN A SANDBOX (cutbox-door.mjs). By AI agents, Wed Nov 11 2026. No macro, syntax, notation, axiom, sorry.
-/
import Derived.Test.YtkjbhlhebjfklaaDoorRows
import GoSem.ClaimSeven
namespace Go.Proofs.YtkjbhlhebjfklaaDoor
namespace Rows

/-- THE TIED CARD OF 'laws.FnDelta'. -/
def fnDeltaCard : Claim7 := { stood := { row := fnDeltaRow, standIns := [], harness := (true, "6a583b7f616b351d00d7d357a7fc42aafb0e8f77966b8f1f2041e42f42403504"), looks := false }, kinds := [], alts := [], laidByText := true, laidKinds := [.data, .data], laidTests := true, laidLooks := .later }
def FnDeltaCardSaid : Prop := Claim7.holds Tryd.pinned (.plain (OpenSpec.ofChange fnDeltaSpec)) fnDeltaCard

/-- THE TIED CARD OF 'laws.FnExactShowOpts'. -/
def fnExactShowOptsCard : Claim7 := { stood := { row := fnExactShowOptsRow, standIns := [], harness := (true, "6a583b7f616b351d00d7d357a7fc42aafb0e8f77966b8f1f2041e42f42403504"), looks := false }, kinds := [], alts := [], laidByText := true, laidKinds := [.data, .pinned], laidTests := true, laidLooks := .later }
def FnExactShowOptsCardSaid : Prop := Claim7.holds Tryd.pinned (.plain (OpenSpec.ofChange fnExactShowOptsSpec)) fnExactShowOptsCard

/-- THE TIED CARD OF 'laws.FnExactParseOpts'. -/
def fnExactParseOptsCard : Claim7 := { stood := { row := fnExactParseOptsRow, standIns := [], harness := (true, "6a583b7f616b351d00d7d357a7fc42aafb0e8f77966b8f1f2041e42f42403504"), looks := false }, kinds := [], alts := [], laidByText := true, laidKinds := [.data, .pinned], laidTests := true, laidLooks := .later }
def FnExactParseOptsCardSaid : Prop := Claim7.holds Tryd.pinned (.plain (OpenSpec.ofChange fnExactParseOptsSpec)) fnExactParseOptsCard

/-- THE TIED CARD OF 'laws.FnOptions'. -/
def fnOptionsCard : Claim7 := { stood := { row := fnOptionsRow, standIns := [], harness := (true, "6a583b7f616b351d00d7d357a7fc42aafb0e8f77966b8f1f2041e42f42403504"), looks := false }, kinds := [], alts := [], laidByText := true, laidKinds := [.data, .pinned], laidTests := true, laidLooks := .later }
def FnOptionsCardSaid : Prop := Claim7.holds Tryd.pinned (.plain (OpenSpec.ofChange fnOptionsSpec)) fnOptionsCard

/-- THE SECOND FORM's CARD OF 'laws.FnDelta'. -/
def fnDeltaUptoCard : Claim7 := { stood := { row := fnDeltaUptoRow, standIns := [], harness := (true, "6a583b7f616b351d00d7d357a7fc42aafb0e8f77966b8f1f2041e42f42403504"), looks := false }, kinds := [], alts := [], laidByText := true, laidKinds := [.data, .data], laidTests := true, laidLooks := .later }
def FnDeltaUptoCardSaid : Prop := Claim7.holds Tryd.pinned (.plain (OpenSpec.upto fnDeltaSpec)) fnDeltaUptoCard

/-- THE SECOND FORM's CARD OF 'laws.FnExactShowOpts'. -/
def fnExactShowOptsUptoCard : Claim7 := { stood := { row := fnExactShowOptsUptoRow, standIns := [], harness := (true, "6a583b7f616b351d00d7d357a7fc42aafb0e8f77966b8f1f2041e42f42403504"), looks := false }, kinds := [], alts := [], laidByText := true, laidKinds := [.data, .pinned], laidTests := true, laidLooks := .later }
def FnExactShowOptsUptoCardSaid : Prop := Claim7.holds Tryd.pinned (.plain (OpenSpec.upto fnExactShowOptsSpec)) fnExactShowOptsUptoCard

/-- THE SECOND FORM's CARD OF 'laws.FnExactParseOpts'. -/
def fnExactParseOptsUptoCard : Claim7 := { stood := { row := fnExactParseOptsUptoRow, standIns := [], harness := (true, "6a583b7f616b351d00d7d357a7fc42aafb0e8f77966b8f1f2041e42f42403504"), looks := false }, kinds := [], alts := [], laidByText := true, laidKinds := [.data, .pinned], laidTests := true, laidLooks := .later }
def FnExactParseOptsUptoCardSaid : Prop := Claim7.holds Tryd.pinned (.plain (OpenSpec.upto fnExactParseOptsSpec)) fnExactParseOptsUptoCard

/-- THE SECOND FORM's CARD OF 'laws.FnOptions'. -/
def fnOptionsUptoCard : Claim7 := { stood := { row := fnOptionsUptoRow, standIns := [], harness := (true, "6a583b7f616b351d00d7d357a7fc42aafb0e8f77966b8f1f2041e42f42403504"), looks := false }, kinds := [], alts := [], laidByText := true, laidKinds := [.data, .pinned], laidTests := true, laidLooks := .later }
def FnOptionsUptoCardSaid : Prop := Claim7.holds Tryd.pinned (.plain (OpenSpec.upto fnOptionsSpec)) fnOptionsUptoCard
end Rows
end Go.Proofs.YtkjbhlhebjfklaaDoor
