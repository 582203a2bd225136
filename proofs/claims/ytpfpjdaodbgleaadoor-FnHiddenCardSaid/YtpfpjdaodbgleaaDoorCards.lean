/-
  DERIVED. GIVEN WITH THE SEED: THE CARDS: each row of YtpfpjdaodbgleaaDoorRows.lean that lists a variable, with what it lists TIED to the program's text (the seventh form; the later family's looks); each row that meets fmt, with fmt's text TOLD by the authors' own Lean function (tested against real Go, not proved from fmt's source: count such statements apart). THE CARD IS WHAT COUNTS. Prove the row's statement (the work); the ties are given (YtpfpjdaodbgleaaDoorTie.lean); close each card by the builder's one call (the guide's Derived/Test/ToyasCard.lean, 'card_holds'). Laid BY PROGRAM, IN A SANDBOX (cutbox-door.mjs). By AI agents, Wed Nov 11 2026. No macro, syntax, notation, axiom, sorry.
-/
import Derived.Test.YtpfpjdaodbgleaaDoorRows
import GoSem.ClaimSeven
namespace Go.Proofs.YtpfpjdaodbgleaaDoor
namespace Rows

/-- THE TIED CARD OF 'laws.FnExactParseRules'. -/
def fnExactParseRulesCard : Claim7 := { stood := { row := fnExactParseRulesRow, standIns := [], harness := (true, "a239dfb1cc209ae6ac9bcb1d977e87b08d485aa0f3a6a160d9d9101cb2a6f530"), looks := false }, kinds := [], alts := [], laidByText := true, laidKinds := [.data, .pinned], laidTests := true, laidLooks := .later }
def FnExactParseRulesCardSaid : Prop := Claim7.holds Tryd.pinned (.plain (OpenSpec.ofChange fnExactParseRulesSpec)) fnExactParseRulesCard

/-- THE TIED CARD OF 'laws.FnRuleLines'. -/
def fnRuleLinesCard : Claim7 := { stood := { row := fnRuleLinesRow, standIns := [], harness := (true, "a239dfb1cc209ae6ac9bcb1d977e87b08d485aa0f3a6a160d9d9101cb2a6f530"), looks := false }, kinds := [], alts := [], laidByText := true, laidKinds := [.data, .pinned], laidTests := true, laidLooks := .later }
def FnRuleLinesCardSaid : Prop := Claim7.holds Tryd.pinned (.plain (OpenSpec.ofChange fnRuleLinesSpec)) fnRuleLinesCard

/-- THE TIED CARD OF 'laws.FnHidden'. -/
def fnHiddenCard : Claim7 := { stood := { row := fnHiddenRow, standIns := [], harness := (true, "a239dfb1cc209ae6ac9bcb1d977e87b08d485aa0f3a6a160d9d9101cb2a6f530"), looks := false }, kinds := [], alts := [], laidByText := true, laidKinds := [.data, .pinned], laidTests := true, laidLooks := .later }
def FnHiddenCardSaid : Prop := Claim7.holds Tryd.pinned (.plain (OpenSpec.ofChange fnHiddenSpec)) fnHiddenCard

/-- THE SECOND FORM's CARD OF 'laws.FnExactParseRules'. -/
def fnExactParseRulesUptoCard : Claim7 := { stood := { row := fnExactParseRulesUptoRow, standIns := [], harness := (true, "a239dfb1cc209ae6ac9bcb1d977e87b08d485aa0f3a6a160d9d9101cb2a6f530"), looks := false }, kinds := [], alts := [], laidByText := true, laidKinds := [.data, .pinned], laidTests := true, laidLooks := .later }
def FnExactParseRulesUptoCardSaid : Prop := Claim7.holds Tryd.pinned (.plain (OpenSpec.upto fnExactParseRulesSpec)) fnExactParseRulesUptoCard

/-- THE SECOND FORM's CARD OF 'laws.FnRuleLines'. -/
def fnRuleLinesUptoCard : Claim7 := { stood := { row := fnRuleLinesUptoRow, standIns := [], harness := (true, "a239dfb1cc209ae6ac9bcb1d977e87b08d485aa0f3a6a160d9d9101cb2a6f530"), looks := false }, kinds := [], alts := [], laidByText := true, laidKinds := [.data, .pinned], laidTests := true, laidLooks := .later }
def FnRuleLinesUptoCardSaid : Prop := Claim7.holds Tryd.pinned (.plain (OpenSpec.upto fnRuleLinesSpec)) fnRuleLinesUptoCard

/-- THE SECOND FORM's CARD OF 'laws.FnHidden'. -/
def fnHiddenUptoCard : Claim7 := { stood := { row := fnHiddenUptoRow, standIns := [], harness := (true, "a239dfb1cc209ae6ac9bcb1d977e87b08d485aa0f3a6a160d9d9101cb2a6f530"), looks := false }, kinds := [], alts := [], laidByText := true, laidKinds := [.data, .pinned], laidTests := true, laidLooks := .later }
def FnHiddenUptoCardSaid : Prop := Claim7.holds Tryd.pinned (.plain (OpenSpec.upto fnHiddenSpec)) fnHiddenUptoCard
end Rows
end Go.Proofs.YtpfpjdaodbgleaaDoor
