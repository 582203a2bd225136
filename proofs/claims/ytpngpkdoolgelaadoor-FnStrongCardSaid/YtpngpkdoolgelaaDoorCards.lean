/-
  DERIVED. GIVEN WITH THE SEED: THE CARDS: each row of YtpngpkdoolgelaaDoorRows.lean that lists a variable, with what it lists TIED to the program's text (the seventh form; the later family's looks); each row that meets fmt, with fmt's text TOLD by the authors' own Lean function (tested against real Go, not proved from fmt's source: count such statements apart). THE CARD IS WHAT COUNTS. Prove the row's statement (the work); the ties are given (YtpngpkdoolgelaaDoorTie.lean); close each card by the builder's one call (the guide's Derived/Test/ToyasCard.lean, 'card_holds'). Laid BY PROGRAM, IN A SANDBOX (cutbox-door.mjs). By AI agents, Wed Nov 11 2026. No macro, syntax, notation, axiom, sorry.
-/
import Derived.Test.YtpngpkdoolgelaaDoorRows
import GoSem.ClaimSeven
namespace Go.Proofs.YtpngpkdoolgelaaDoor
namespace Rows

/-- THE TIED CARD OF 'laws.FnDelta'. -/
def fnDeltaCard : Claim7 := { stood := { row := fnDeltaRow, standIns := [], harness := (true, "0e341a9d7b8039f86eb4bac984a12ecbe5288b355849b70635b6f257b01a033c"), looks := false }, kinds := [], alts := [], laidByText := true, laidKinds := [.data, .data], laidTests := true, laidLooks := .later }
def FnDeltaCardSaid : Prop := Claim7.holds Tryd.pinned (.plain (OpenSpec.ofChange fnDeltaSpec)) fnDeltaCard

/-- THE TIED CARD OF 'laws.FnStrong'. -/
def fnStrongCard : Claim7 := { stood := { row := fnStrongRow, standIns := [], harness := (true, "0e341a9d7b8039f86eb4bac984a12ecbe5288b355849b70635b6f257b01a033c"), looks := false }, kinds := [], alts := [], laidByText := true, laidKinds := [.data, .data], laidTests := true, laidLooks := .later }
def FnStrongCardSaid : Prop := Claim7.holds Tryd.pinned (.plain (OpenSpec.ofChange fnStrongSpec)) fnStrongCard

/-- THE SECOND FORM's CARD OF 'laws.FnDelta'. -/
def fnDeltaUptoCard : Claim7 := { stood := { row := fnDeltaUptoRow, standIns := [], harness := (true, "0e341a9d7b8039f86eb4bac984a12ecbe5288b355849b70635b6f257b01a033c"), looks := false }, kinds := [], alts := [], laidByText := true, laidKinds := [.data, .data], laidTests := true, laidLooks := .later }
def FnDeltaUptoCardSaid : Prop := Claim7.holds Tryd.pinned (.plain (OpenSpec.upto fnDeltaSpec)) fnDeltaUptoCard

/-- THE SECOND FORM's CARD OF 'laws.FnStrong'. -/
def fnStrongUptoCard : Claim7 := { stood := { row := fnStrongUptoRow, standIns := [], harness := (true, "0e341a9d7b8039f86eb4bac984a12ecbe5288b355849b70635b6f257b01a033c"), looks := false }, kinds := [], alts := [], laidByText := true, laidKinds := [.data, .data], laidTests := true, laidLooks := .later }
def FnStrongUptoCardSaid : Prop := Claim7.holds Tryd.pinned (.plain (OpenSpec.upto fnStrongSpec)) fnStrongUptoCard
end Rows
end Go.Proofs.YtpngpkdoolgelaaDoor
