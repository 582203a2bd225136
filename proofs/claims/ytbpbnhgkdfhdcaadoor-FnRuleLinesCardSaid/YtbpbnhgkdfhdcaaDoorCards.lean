/-
  DERIVED. GIVEN WITH THE SEED: THE CARDS: each row of YtbpbnhgkdfhdcaaDoorRows.lean that lists a variable, with what it lists TIED to the program's text (the seventh form; the later family's looks); each row that meets fmt, with fmt's text TOLD by the authors' own Lean function (tested against real Go, not proved from fmt's source: count such statements apart). THE CARD IS WHAT COUNTS. Prove the row's statement (the work); the ties are given (YtbpbnhgkdfhdcaaDoorTie.lean); close each card by the builder's one call (the guide's Derived/Test/ToyasCard.lean, 'card_holds'). Laid BY PROGRAM, IN A SANDBOX (cutbox-door.mjs). By AI agents, Wed Nov 11 2026. No macro, syntax, notation, axiom, sorry.
-/
import Derived.Test.YtbpbnhgkdfhdcaaDoorRows
import GoSem.ClaimSeven
namespace Go.Proofs.YtbpbnhgkdfhdcaaDoor
namespace Rows

/-- THE TIED CARD OF 'laws.FnExactParseRules'. -/
def fnExactParseRulesCard : Claim7 := { stood := { row := fnExactParseRulesRow, standIns := [], harness := (true, "8844bf14828b11aae05cfacb523ae3193558e76ed223f192796f0ab75d7c71c3"), looks := false }, kinds := [], alts := [], laidByText := true, laidKinds := [.data, .pinned], laidTests := true, laidLooks := .later }
def FnExactParseRulesCardSaid : Prop := Claim7.holds Tryd.pinned (.plain (OpenSpec.ofChange fnExactParseRulesSpec)) fnExactParseRulesCard

/-- THE TIED CARD OF 'laws.FnRuleLines'. -/
def fnRuleLinesCard : Claim7 := { stood := { row := fnRuleLinesRow, standIns := [], harness := (true, "8844bf14828b11aae05cfacb523ae3193558e76ed223f192796f0ab75d7c71c3"), looks := false }, kinds := [], alts := [], laidByText := true, laidKinds := [.data, .pinned], laidTests := true, laidLooks := .later }
def FnRuleLinesCardSaid : Prop := Claim7.holds Tryd.pinned (.plain (OpenSpec.ofChange fnRuleLinesSpec)) fnRuleLinesCard

/-- THE SECOND FORM's CARD OF 'laws.FnExactParseRules'. -/
def fnExactParseRulesUptoCard : Claim7 := { stood := { row := fnExactParseRulesUptoRow, standIns := [], harness := (true, "8844bf14828b11aae05cfacb523ae3193558e76ed223f192796f0ab75d7c71c3"), looks := false }, kinds := [], alts := [], laidByText := true, laidKinds := [.data, .pinned], laidTests := true, laidLooks := .later }
def FnExactParseRulesUptoCardSaid : Prop := Claim7.holds Tryd.pinned (.plain (OpenSpec.upto fnExactParseRulesSpec)) fnExactParseRulesUptoCard

/-- THE SECOND FORM's CARD OF 'laws.FnRuleLines'. -/
def fnRuleLinesUptoCard : Claim7 := { stood := { row := fnRuleLinesUptoRow, standIns := [], harness := (true, "8844bf14828b11aae05cfacb523ae3193558e76ed223f192796f0ab75d7c71c3"), looks := false }, kinds := [], alts := [], laidByText := true, laidKinds := [.data, .pinned], laidTests := true, laidLooks := .later }
def FnRuleLinesUptoCardSaid : Prop := Claim7.holds Tryd.pinned (.plain (OpenSpec.upto fnRuleLinesSpec)) fnRuleLinesUptoCard
end Rows
end Go.Proofs.YtbpbnhgkdfhdcaaDoor
