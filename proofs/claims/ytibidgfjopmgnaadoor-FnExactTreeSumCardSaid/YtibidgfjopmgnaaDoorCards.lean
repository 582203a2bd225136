/-
  DERIVED. GIVEN WITH THE SEED: THE CARDS: each row of YtibidgfjopmgnaaDoorRows.lean that lists a variable, with what it lists TIED to the program's text (the seventh form; the later family's looks); each row that meets fmt, with fmt's text TOLD by the authors' own Lean function (tested against real Go, not proved from fmt's source: count such statements apart). THE CARD IS WHAT COUNTS. Prove the row's statement (the work); the ties are given (YtibidgfjopmgnaaDoorTie.lean); close each card by the builder's one call (the guide's Derived/Test/ToyasCard.lean, 'card_holds'). Laid BY PROGRAM, IN A SANDBOX (cutbox-door.mjs). By AI agents, Wed Nov 11 2026. No macro, syntax, notation, axiom, sorry.
-/
import Derived.Test.YtibidgfjopmgnaaDoorRows
import GoSem.ClaimSeven
namespace Go.Proofs.YtibidgfjopmgnaaDoor
namespace Rows

/-- THE TIED CARD OF 'laws.FnExactFuzzyOf'. -/
def fnExactFuzzyOfCard : Claim7 := { stood := { row := fnExactFuzzyOfRow, standIns := [], harness := (true, "98cc4900b543c22f97b81383f76809909555d8ba66cc8e62feecfbd2557285e1"), looks := false }, kinds := [], alts := [], laidByText := true, laidKinds := [.data, .pinned], laidTests := true, laidLooks := .later }
def FnExactFuzzyOfCardSaid : Prop := Claim7.holds Tryd.pinned (.plain (OpenSpec.ofChange fnExactFuzzyOfSpec)) fnExactFuzzyOfCard

/-- THE TIED CARD OF 'laws.FnExactRemove'. -/
def fnExactRemoveCard : Claim7 := { stood := { row := fnExactRemoveRow, standIns := [], harness := (true, "98cc4900b543c22f97b81383f76809909555d8ba66cc8e62feecfbd2557285e1"), looks := false }, kinds := [], alts := [], laidByText := true, laidKinds := [.data, .pinned], laidTests := true, laidLooks := .later }
def FnExactRemoveCardSaid : Prop := Claim7.holds Tryd.pinned (.plain (OpenSpec.ofChange fnExactRemoveSpec)) fnExactRemoveCard

/-- THE TIED CARD OF 'laws.FnExactBasisOf'. -/
def fnExactBasisOfCard : Claim7 := { stood := { row := fnExactBasisOfRow, standIns := [], harness := (true, "98cc4900b543c22f97b81383f76809909555d8ba66cc8e62feecfbd2557285e1"), looks := false }, kinds := [], alts := [], laidByText := true, laidKinds := [.data, .pinned], laidTests := true, laidLooks := .later }
def FnExactBasisOfCardSaid : Prop := Claim7.holds Tryd.pinned (.plain (OpenSpec.ofChange fnExactBasisOfSpec)) fnExactBasisOfCard

/-- THE TIED CARD OF 'laws.FnExactPut'. -/
def fnExactPutCard : Claim7 := { stood := { row := fnExactPutRow, standIns := [], harness := (true, "98cc4900b543c22f97b81383f76809909555d8ba66cc8e62feecfbd2557285e1"), looks := false }, kinds := [], alts := [], laidByText := true, laidKinds := [.data, .pinned], laidTests := true, laidLooks := .later }
def FnExactPutCardSaid : Prop := Claim7.holds Tryd.pinned (.plain (OpenSpec.ofChange fnExactPutSpec)) fnExactPutCard

/-- THE TIED CARD OF 'laws.FnExactChildren'. -/
def fnExactChildrenCard : Claim7 := { stood := { row := fnExactChildrenRow, standIns := [], harness := (true, "98cc4900b543c22f97b81383f76809909555d8ba66cc8e62feecfbd2557285e1"), looks := false }, kinds := [], alts := [], laidByText := true, laidKinds := [.data, .pinned], laidTests := true, laidLooks := .later }
def FnExactChildrenCardSaid : Prop := Claim7.holds Tryd.pinned (.plain (OpenSpec.ofChange fnExactChildrenSpec)) fnExactChildrenCard

/-- THE TIED CARD OF 'laws.FnPut'. -/
def fnPutCard : Claim7 := { stood := { row := fnPutRow, standIns := [], harness := (true, "98cc4900b543c22f97b81383f76809909555d8ba66cc8e62feecfbd2557285e1"), looks := false }, kinds := [], alts := [], laidByText := true, laidKinds := [.data, .pinned], laidTests := true, laidLooks := .later }
def FnPutCardSaid : Prop := Claim7.holds Tryd.pinned (.plain (OpenSpec.ofChange fnPutSpec)) fnPutCard

/-- THE TIED CARD OF 'laws.FnExactTreeSum'. -/
def fnExactTreeSumCard : Claim7 := { stood := { row := fnExactTreeSumRow, standIns := [], harness := (true, "98cc4900b543c22f97b81383f76809909555d8ba66cc8e62feecfbd2557285e1"), looks := false }, kinds := [], alts := [], laidByText := true, laidKinds := [.data, .data, .data, .pinned], laidTests := true, laidLooks := .later }
def FnExactTreeSumCardSaid : Prop := Claim7.holds Tryd.pinned (.plain (OpenSpec.ofChange fnExactTreeSumSpec)) fnExactTreeSumCard

/-- THE TIED CARD OF 'laws.FnChildren'. -/
def fnChildrenCard : Claim7 := { stood := { row := fnChildrenRow, standIns := [], harness := (true, "98cc4900b543c22f97b81383f76809909555d8ba66cc8e62feecfbd2557285e1"), looks := false }, kinds := [], alts := [], laidByText := true, laidKinds := [.data, .data, .data, .pinned], laidTests := true, laidLooks := .later }
def FnChildrenCardSaid : Prop := Claim7.holds Tryd.pinned (.plain (OpenSpec.ofChange fnChildrenSpec)) fnChildrenCard

/-- THE SECOND FORM's CARD OF 'laws.FnExactFuzzyOf'. -/
def fnExactFuzzyOfUptoCard : Claim7 := { stood := { row := fnExactFuzzyOfUptoRow, standIns := [], harness := (true, "98cc4900b543c22f97b81383f76809909555d8ba66cc8e62feecfbd2557285e1"), looks := false }, kinds := [], alts := [], laidByText := true, laidKinds := [.data, .pinned], laidTests := true, laidLooks := .later }
def FnExactFuzzyOfUptoCardSaid : Prop := Claim7.holds Tryd.pinned (.plain (OpenSpec.upto fnExactFuzzyOfSpec)) fnExactFuzzyOfUptoCard

/-- THE SECOND FORM's CARD OF 'laws.FnExactRemove'. -/
def fnExactRemoveUptoCard : Claim7 := { stood := { row := fnExactRemoveUptoRow, standIns := [], harness := (true, "98cc4900b543c22f97b81383f76809909555d8ba66cc8e62feecfbd2557285e1"), looks := false }, kinds := [], alts := [], laidByText := true, laidKinds := [.data, .pinned], laidTests := true, laidLooks := .later }
def FnExactRemoveUptoCardSaid : Prop := Claim7.holds Tryd.pinned (.plain (OpenSpec.upto fnExactRemoveSpec)) fnExactRemoveUptoCard

/-- THE SECOND FORM's CARD OF 'laws.FnExactBasisOf'. -/
def fnExactBasisOfUptoCard : Claim7 := { stood := { row := fnExactBasisOfUptoRow, standIns := [], harness := (true, "98cc4900b543c22f97b81383f76809909555d8ba66cc8e62feecfbd2557285e1"), looks := false }, kinds := [], alts := [], laidByText := true, laidKinds := [.data, .pinned], laidTests := true, laidLooks := .later }
def FnExactBasisOfUptoCardSaid : Prop := Claim7.holds Tryd.pinned (.plain (OpenSpec.upto fnExactBasisOfSpec)) fnExactBasisOfUptoCard

/-- THE SECOND FORM's CARD OF 'laws.FnExactPut'. -/
def fnExactPutUptoCard : Claim7 := { stood := { row := fnExactPutUptoRow, standIns := [], harness := (true, "98cc4900b543c22f97b81383f76809909555d8ba66cc8e62feecfbd2557285e1"), looks := false }, kinds := [], alts := [], laidByText := true, laidKinds := [.data, .pinned], laidTests := true, laidLooks := .later }
def FnExactPutUptoCardSaid : Prop := Claim7.holds Tryd.pinned (.plain (OpenSpec.upto fnExactPutSpec)) fnExactPutUptoCard

/-- THE SECOND FORM's CARD OF 'laws.FnExactChildren'. -/
def fnExactChildrenUptoCard : Claim7 := { stood := { row := fnExactChildrenUptoRow, standIns := [], harness := (true, "98cc4900b543c22f97b81383f76809909555d8ba66cc8e62feecfbd2557285e1"), looks := false }, kinds := [], alts := [], laidByText := true, laidKinds := [.data, .pinned], laidTests := true, laidLooks := .later }
def FnExactChildrenUptoCardSaid : Prop := Claim7.holds Tryd.pinned (.plain (OpenSpec.upto fnExactChildrenSpec)) fnExactChildrenUptoCard

/-- THE SECOND FORM's CARD OF 'laws.FnPut'. -/
def fnPutUptoCard : Claim7 := { stood := { row := fnPutUptoRow, standIns := [], harness := (true, "98cc4900b543c22f97b81383f76809909555d8ba66cc8e62feecfbd2557285e1"), looks := false }, kinds := [], alts := [], laidByText := true, laidKinds := [.data, .pinned], laidTests := true, laidLooks := .later }
def FnPutUptoCardSaid : Prop := Claim7.holds Tryd.pinned (.plain (OpenSpec.upto fnPutSpec)) fnPutUptoCard

/-- THE SECOND FORM's CARD OF 'laws.FnExactTreeSum'. -/
def fnExactTreeSumUptoCard : Claim7 := { stood := { row := fnExactTreeSumUptoRow, standIns := [], harness := (true, "98cc4900b543c22f97b81383f76809909555d8ba66cc8e62feecfbd2557285e1"), looks := false }, kinds := [], alts := [], laidByText := true, laidKinds := [.data, .data, .data, .pinned], laidTests := true, laidLooks := .later }
def FnExactTreeSumUptoCardSaid : Prop := Claim7.holds Tryd.pinned (.plain (OpenSpec.upto fnExactTreeSumSpec)) fnExactTreeSumUptoCard

/-- THE SECOND FORM's CARD OF 'laws.FnChildren'. -/
def fnChildrenUptoCard : Claim7 := { stood := { row := fnChildrenUptoRow, standIns := [], harness := (true, "98cc4900b543c22f97b81383f76809909555d8ba66cc8e62feecfbd2557285e1"), looks := false }, kinds := [], alts := [], laidByText := true, laidKinds := [.data, .data, .data, .pinned], laidTests := true, laidLooks := .later }
def FnChildrenUptoCardSaid : Prop := Claim7.holds Tryd.pinned (.plain (OpenSpec.upto fnChildrenSpec)) fnChildrenUptoCard
end Rows
end Go.Proofs.YtibidgfjopmgnaaDoor
