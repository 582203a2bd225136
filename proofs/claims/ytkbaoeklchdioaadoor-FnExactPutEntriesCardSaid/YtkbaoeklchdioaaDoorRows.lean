/-
  NARROWER THAN 'FOR EVERY INPUT', by the rows' own cells (each row's printed sentence says how): FnExactOptsOk: laid · FnExactBackupPath: laid · FnExactShowOpts: laid · FnExactParseOpts: laid · FnOptions: laid · FnExactEntriesOk: laid · FnExactPutEntries: laid · FnExactItem: laid · FnExactItemLine: laid · FnExactItems: laid.
  DERIVED. THE GIVEN ROWS OF THIS SEAT. 10 by the template 'for every input the law returns true; each argument reads behind the call as it read before'; 0 by the template 'total and deterministic' (their statements: YtkbaoeklchdioaaDoorTotals.lean).
  GIVEN WITH THE SEED: the statements are not yours to turn. If you find one false, say at which input.
  Laid BY PROGRAM, IN A SANDBOX (cutbox-rows.mjs): the forced cells as the released guide's own fill.sh prints them over the translation 1f76e8db16332cab… (all of the seat's roots in one cut). By AI agents, Wed Nov 11 2026. No macro, syntax, notation, axiom, sorry.
-/
import Derived.Test.YtkbaoeklchdioaaDoorChecked
import GoSem.PinnedTables
import GoSem.Claim
import GoSem.ClaimJoined
import GoSem.ClaimMapViews
import Derived.JoinedTies
import Derived.KernelRfl
namespace Go.Proofs.YtkbaoeklchdioaaDoor
/- THE CELL 'sum', in the pinned program and in every row, IS THE sha256 OF THE DUMP (.gsa) THAT YtkbaoeklchdioaaDoorProg.lean LOADS. Nothing in Lean hashes anything: it is a label: what it is worth is what the hold of that sum in a sandbox is worth. -/
noncomputable def Tryd.pinned : Pinned := { name := "ytkbaoeklchdioaadoor", sum := "1f76e8db16332cabd231b8784ac1f317807f86e0030f25eb3c4ba48bb573df67", checked := Tryd.checked }
namespace Rows
def none {H : Type} : Left H := { results := [], args := [] }

/- WHAT THE LISTED PACKAGE-LEVEL VARIABLES READ AS WHEN THE CALL BEGINS. Each datum BY PROGRAM (the guide's laid-datum.mjs) off the statement by which the dump's own 'gosem.cut.vars' lays the variable. In a bare row this is a premise. The card (YtkbaoeklchdioaaDoorCards.lean) ties it to the program's text. -/
def laid_unicode_utf8_acceptRanges {H : Type} : DataW H := .agg [.agg [.lit (.int .u8 128), .lit (.int .u8 191)], .agg [.lit (.int .u8 160), .lit (.int .u8 191)], .agg [.lit (.int .u8 128), .lit (.int .u8 159)], .agg [.lit (.int .u8 144), .lit (.int .u8 191)], .agg [.lit (.int .u8 128), .lit (.int .u8 143)], .agg [.lit (.int .u8 0), .lit (.int .u8 0)], .agg [.lit (.int .u8 0), .lit (.int .u8 0)], .agg [.lit (.int .u8 0), .lit (.int .u8 0)], .agg [.lit (.int .u8 0), .lit (.int .u8 0)], .agg [.lit (.int .u8 0), .lit (.int .u8 0)], .agg [.lit (.int .u8 0), .lit (.int .u8 0)], .agg [.lit (.int .u8 0), .lit (.int .u8 0)], .agg [.lit (.int .u8 0), .lit (.int .u8 0)], .agg [.lit (.int .u8 0), .lit (.int .u8 0)], .agg [.lit (.int .u8 0), .lit (.int .u8 0)], .agg [.lit (.int .u8 0), .lit (.int .u8 0)]]
/-- One of Go's own tables, pinned by name: the form's constant. -/
def laid_unicode_utf8_first : DataW Unit := Go.Pinned.utf8First

/-- 'laws.FnExactOptsOk': WHATEVER THE INPUT: true; the input reads as it did. -/
def fnExactOptsOkSpec : ChangeSpec := { name := "fnExactOptsOk", fn := fun _ => fun
  | [d] => { results := [.lit (.bool true)], args := [d] }
  | _ => none }
def fnExactOptsOkRow : OpenClaim := { program := "ytkbaoeklchdioaadoor", sum := "1f76e8db16332cabd231b8784ac1f317807f86e0030f25eb3c4ba48bb573df67", func := "loop.example/g00100/laws.FnExactOptsOk", spec := "fnExactOptsOk", inPlace := ["internal/bytealg.CountString", "internal/bytealg.IndexByteString", "internal/bytealg.IndexString"], named := ["unicode/utf8.first", "unicode/utf8.acceptRanges", "internal/bytealg.MaxLen"], apart := false, laid := [("unicode/utf8.acceptRanges", laid_unicode_utf8_acceptRanges), ("unicode/utf8.first", laid_unicode_utf8_first)] }
def FnExactOptsOkSaid : Prop := fnExactOptsOkRow.holds Tryd.pinned (OpenSpec.ofChange fnExactOptsOkSpec)

/-- ITS FALSE NEIGHBOUR: 'it returns false'. Refute it at one input. -/
def fnExactOptsOkWrong : ChangeSpec := { name := "fnExactOptsOk", fn := fun _ => fun
  | [d] => { results := [.lit (.bool false)], args := [d] }
  | _ => none }
def FnExactOptsOkWrongFalsely : Prop := fnExactOptsOkRow.holds Tryd.pinned (OpenSpec.ofChange fnExactOptsOkWrong)

/-- 'laws.FnExactBackupPath': WHATEVER THE INPUT: true; the input reads as it did. -/
def fnExactBackupPathSpec : ChangeSpec := { name := "fnExactBackupPath", fn := fun _ => fun
  | [d1, d2] => { results := [.lit (.bool true)], args := [d1, d2] }
  | _ => none }
def fnExactBackupPathRow : OpenClaim := { program := "ytkbaoeklchdioaadoor", sum := "1f76e8db16332cabd231b8784ac1f317807f86e0030f25eb3c4ba48bb573df67", func := "loop.example/g00100/laws.FnExactBackupPath", spec := "fnExactBackupPath", inPlace := ["internal/bytealg.CountString", "internal/bytealg.IndexByteString", "internal/bytealg.IndexString"], named := ["unicode/utf8.first", "unicode/utf8.acceptRanges", "internal/bytealg.MaxLen"], apart := false, laid := [("unicode/utf8.acceptRanges", laid_unicode_utf8_acceptRanges), ("unicode/utf8.first", laid_unicode_utf8_first)] }
def FnExactBackupPathSaid : Prop := fnExactBackupPathRow.holds Tryd.pinned (OpenSpec.ofChange fnExactBackupPathSpec)

/-- ITS FALSE NEIGHBOUR: 'it returns false'. Refute it at one input. -/
def fnExactBackupPathWrong : ChangeSpec := { name := "fnExactBackupPath", fn := fun _ => fun
  | [d1, d2] => { results := [.lit (.bool false)], args := [d1, d2] }
  | _ => none }
def FnExactBackupPathWrongFalsely : Prop := fnExactBackupPathRow.holds Tryd.pinned (OpenSpec.ofChange fnExactBackupPathWrong)

/-- 'laws.FnExactShowOpts': WHATEVER THE INPUT: true; the input reads as it did. -/
def fnExactShowOptsSpec : ChangeSpec := { name := "fnExactShowOpts", fn := fun _ => fun
  | [d] => { results := [.lit (.bool true)], args := [d] }
  | _ => none }
def fnExactShowOptsRow : OpenClaim := { program := "ytkbaoeklchdioaadoor", sum := "1f76e8db16332cabd231b8784ac1f317807f86e0030f25eb3c4ba48bb573df67", func := "loop.example/g00100/laws.FnExactShowOpts", spec := "fnExactShowOpts", inPlace := ["internal/bytealg.CountString", "internal/bytealg.IndexByteString", "internal/bytealg.IndexString", "internal/abi.NoEscape", "internal/bytealg.MakeNoZero"], unfollowed := true, recurses := true, named := ["unicode/utf8.first", "unicode/utf8.acceptRanges", "internal/bytealg.MaxLen"], apart := false, laid := [("unicode/utf8.acceptRanges", laid_unicode_utf8_acceptRanges), ("unicode/utf8.first", laid_unicode_utf8_first)] }
def FnExactShowOptsSaid : Prop := fnExactShowOptsRow.holds Tryd.pinned (OpenSpec.ofChange fnExactShowOptsSpec)

/-- ITS FALSE NEIGHBOUR: 'it returns false'. Refute it at one input. -/
def fnExactShowOptsWrong : ChangeSpec := { name := "fnExactShowOpts", fn := fun _ => fun
  | [d] => { results := [.lit (.bool false)], args := [d] }
  | _ => none }
def FnExactShowOptsWrongFalsely : Prop := fnExactShowOptsRow.holds Tryd.pinned (OpenSpec.ofChange fnExactShowOptsWrong)

/-- 'laws.FnExactParseOpts': WHATEVER THE INPUT: true; the input reads as it did. -/
def fnExactParseOptsSpec : ChangeSpec := { name := "fnExactParseOpts", fn := fun _ => fun
  | [d] => { results := [.lit (.bool true)], args := [d] }
  | _ => none }
def fnExactParseOptsRow : OpenClaim := { program := "ytkbaoeklchdioaadoor", sum := "1f76e8db16332cabd231b8784ac1f317807f86e0030f25eb3c4ba48bb573df67", func := "loop.example/g00100/laws.FnExactParseOpts", spec := "fnExactParseOpts", inPlace := ["internal/bytealg.CountString", "internal/bytealg.IndexByteString", "internal/bytealg.IndexString"], unfollowed := true, recurses := true, named := ["unicode/utf8.first", "unicode/utf8.acceptRanges", "internal/bytealg.MaxLen"], apart := false, laid := [("unicode/utf8.acceptRanges", laid_unicode_utf8_acceptRanges), ("unicode/utf8.first", laid_unicode_utf8_first)] }
def FnExactParseOptsSaid : Prop := fnExactParseOptsRow.holds Tryd.pinned (OpenSpec.ofChange fnExactParseOptsSpec)

/-- ITS FALSE NEIGHBOUR: 'it returns false'. Refute it at one input. -/
def fnExactParseOptsWrong : ChangeSpec := { name := "fnExactParseOpts", fn := fun _ => fun
  | [d] => { results := [.lit (.bool false)], args := [d] }
  | _ => none }
def FnExactParseOptsWrongFalsely : Prop := fnExactParseOptsRow.holds Tryd.pinned (OpenSpec.ofChange fnExactParseOptsWrong)

/-- 'laws.FnOptions': WHATEVER THE INPUT: true; the input reads as it did. -/
def fnOptionsSpec : ChangeSpec := { name := "fnOptions", fn := fun _ => fun
  | [d] => { results := [.lit (.bool true)], args := [d] }
  | _ => none }
def fnOptionsRow : OpenClaim := { program := "ytkbaoeklchdioaadoor", sum := "1f76e8db16332cabd231b8784ac1f317807f86e0030f25eb3c4ba48bb573df67", func := "loop.example/g00100/laws.FnOptions", spec := "fnOptions", inPlace := ["internal/bytealg.CountString", "internal/bytealg.IndexByteString", "internal/bytealg.IndexString", "internal/abi.NoEscape", "internal/bytealg.MakeNoZero"], unfollowed := true, recurses := true, named := ["unicode/utf8.first", "unicode/utf8.acceptRanges", "internal/bytealg.MaxLen"], apart := false, laid := [("unicode/utf8.acceptRanges", laid_unicode_utf8_acceptRanges), ("unicode/utf8.first", laid_unicode_utf8_first)] }
def FnOptionsSaid : Prop := fnOptionsRow.holds Tryd.pinned (OpenSpec.ofChange fnOptionsSpec)

/-- ITS FALSE NEIGHBOUR: 'it returns false'. Refute it at one input. -/
def fnOptionsWrong : ChangeSpec := { name := "fnOptions", fn := fun _ => fun
  | [d] => { results := [.lit (.bool false)], args := [d] }
  | _ => none }
def FnOptionsWrongFalsely : Prop := fnOptionsRow.holds Tryd.pinned (OpenSpec.ofChange fnOptionsWrong)

/-- 'laws.FnExactEntriesOk': WHATEVER THE INPUT: true; the input reads as it did. -/
def fnExactEntriesOkSpec : ChangeSpec := { name := "fnExactEntriesOk", fn := fun _ => fun
  | [d] => { results := [.lit (.bool true)], args := [d] }
  | _ => none }
def fnExactEntriesOkRow : OpenClaim := { program := "ytkbaoeklchdioaadoor", sum := "1f76e8db16332cabd231b8784ac1f317807f86e0030f25eb3c4ba48bb573df67", func := "loop.example/g00100/laws.FnExactEntriesOk", spec := "fnExactEntriesOk", inPlace := ["internal/bytealg.CountString", "internal/bytealg.IndexByteString", "internal/bytealg.IndexString"], named := ["unicode/utf8.first", "unicode/utf8.acceptRanges", "internal/bytealg.MaxLen"], apart := false, laid := [("unicode/utf8.acceptRanges", laid_unicode_utf8_acceptRanges), ("unicode/utf8.first", laid_unicode_utf8_first)] }
def FnExactEntriesOkSaid : Prop := fnExactEntriesOkRow.holds Tryd.pinned (OpenSpec.ofChange fnExactEntriesOkSpec)

/-- ITS FALSE NEIGHBOUR: 'it returns false'. Refute it at one input. -/
def fnExactEntriesOkWrong : ChangeSpec := { name := "fnExactEntriesOk", fn := fun _ => fun
  | [d] => { results := [.lit (.bool false)], args := [d] }
  | _ => none }
def FnExactEntriesOkWrongFalsely : Prop := fnExactEntriesOkRow.holds Tryd.pinned (OpenSpec.ofChange fnExactEntriesOkWrong)

/-- 'laws.FnExactPutEntries': WHATEVER THE INPUT: true; the input reads as it did. -/
def fnExactPutEntriesSpec : ChangeSpec := { name := "fnExactPutEntries", fn := fun _ => fun
  | [d] => { results := [.lit (.bool true)], args := [d] }
  | _ => none }
def fnExactPutEntriesRow : OpenClaim := { program := "ytkbaoeklchdioaadoor", sum := "1f76e8db16332cabd231b8784ac1f317807f86e0030f25eb3c4ba48bb573df67", func := "loop.example/g00100/laws.FnExactPutEntries", spec := "fnExactPutEntries", inPlace := ["internal/bytealg.CountString", "internal/bytealg.IndexByteString", "internal/bytealg.IndexString", "internal/abi.NoEscape"], named := ["unicode/utf8.first", "unicode/utf8.acceptRanges", "internal/bytealg.MaxLen"], apart := false, laid := [("unicode/utf8.acceptRanges", laid_unicode_utf8_acceptRanges), ("unicode/utf8.first", laid_unicode_utf8_first)] }
def FnExactPutEntriesSaid : Prop := fnExactPutEntriesRow.holds Tryd.pinned (OpenSpec.ofChange fnExactPutEntriesSpec)

/-- ITS FALSE NEIGHBOUR: 'it returns false'. Refute it at one input. -/
def fnExactPutEntriesWrong : ChangeSpec := { name := "fnExactPutEntries", fn := fun _ => fun
  | [d] => { results := [.lit (.bool false)], args := [d] }
  | _ => none }
def FnExactPutEntriesWrongFalsely : Prop := fnExactPutEntriesRow.holds Tryd.pinned (OpenSpec.ofChange fnExactPutEntriesWrong)

/-- 'laws.FnExactItem': WHATEVER THE INPUT: true; the input reads as it did. -/
def fnExactItemSpec : ChangeSpec := { name := "fnExactItem", fn := fun _ => fun
  | [d1, d2] => { results := [.lit (.bool true)], args := [d1, d2] }
  | _ => none }
def fnExactItemRow : OpenClaim := { program := "ytkbaoeklchdioaadoor", sum := "1f76e8db16332cabd231b8784ac1f317807f86e0030f25eb3c4ba48bb573df67", func := "loop.example/g00100/laws.FnExactItem", spec := "fnExactItem", inPlace := ["internal/bytealg.CountString", "internal/bytealg.IndexByteString", "internal/bytealg.IndexString", "internal/abi.NoEscape", "internal/bytealg.MakeNoZero"], named := ["unicode/utf8.first", "unicode/utf8.acceptRanges", "internal/bytealg.MaxLen"], apart := false, laid := [("unicode/utf8.acceptRanges", laid_unicode_utf8_acceptRanges), ("unicode/utf8.first", laid_unicode_utf8_first)] }
def FnExactItemSaid : Prop := fnExactItemRow.holds Tryd.pinned (OpenSpec.ofChange fnExactItemSpec)

/-- ITS FALSE NEIGHBOUR: 'it returns false'. Refute it at one input. -/
def fnExactItemWrong : ChangeSpec := { name := "fnExactItem", fn := fun _ => fun
  | [d1, d2] => { results := [.lit (.bool false)], args := [d1, d2] }
  | _ => none }
def FnExactItemWrongFalsely : Prop := fnExactItemRow.holds Tryd.pinned (OpenSpec.ofChange fnExactItemWrong)

/-- 'laws.FnExactItemLine': WHATEVER THE INPUT: true; the input reads as it did. -/
def fnExactItemLineSpec : ChangeSpec := { name := "fnExactItemLine", fn := fun _ => fun
  | [d1, d2] => { results := [.lit (.bool true)], args := [d1, d2] }
  | _ => none }
def fnExactItemLineRow : OpenClaim := { program := "ytkbaoeklchdioaadoor", sum := "1f76e8db16332cabd231b8784ac1f317807f86e0030f25eb3c4ba48bb573df67", func := "loop.example/g00100/laws.FnExactItemLine", spec := "fnExactItemLine", inPlace := ["internal/bytealg.CountString", "internal/bytealg.IndexByteString", "internal/bytealg.IndexString", "internal/abi.NoEscape", "internal/bytealg.MakeNoZero"], named := ["unicode/utf8.first", "unicode/utf8.acceptRanges", "internal/bytealg.MaxLen"], apart := false, laid := [("unicode/utf8.acceptRanges", laid_unicode_utf8_acceptRanges), ("unicode/utf8.first", laid_unicode_utf8_first)] }
def FnExactItemLineSaid : Prop := fnExactItemLineRow.holds Tryd.pinned (OpenSpec.ofChange fnExactItemLineSpec)

/-- ITS FALSE NEIGHBOUR: 'it returns false'. Refute it at one input. -/
def fnExactItemLineWrong : ChangeSpec := { name := "fnExactItemLine", fn := fun _ => fun
  | [d1, d2] => { results := [.lit (.bool false)], args := [d1, d2] }
  | _ => none }
def FnExactItemLineWrongFalsely : Prop := fnExactItemLineRow.holds Tryd.pinned (OpenSpec.ofChange fnExactItemLineWrong)

/-- 'laws.FnExactItems': WHATEVER THE INPUT: true; the input reads as it did. -/
def fnExactItemsSpec : ChangeSpec := { name := "fnExactItems", fn := fun _ => fun
  | [d1, d2] => { results := [.lit (.bool true)], args := [d1, d2] }
  | _ => none }
def fnExactItemsRow : OpenClaim := { program := "ytkbaoeklchdioaadoor", sum := "1f76e8db16332cabd231b8784ac1f317807f86e0030f25eb3c4ba48bb573df67", func := "loop.example/g00100/laws.FnExactItems", spec := "fnExactItems", inPlace := ["internal/bytealg.CountString", "internal/bytealg.IndexByteString", "internal/bytealg.IndexString", "internal/abi.NoEscape", "internal/bytealg.MakeNoZero"], named := ["unicode/utf8.first", "unicode/utf8.acceptRanges", "internal/bytealg.MaxLen"], apart := false, laid := [("unicode/utf8.acceptRanges", laid_unicode_utf8_acceptRanges), ("unicode/utf8.first", laid_unicode_utf8_first)] }
def FnExactItemsSaid : Prop := fnExactItemsRow.holds Tryd.pinned (OpenSpec.ofChange fnExactItemsSpec)

/-- ITS FALSE NEIGHBOUR: 'it returns false'. Refute it at one input. -/
def fnExactItemsWrong : ChangeSpec := { name := "fnExactItems", fn := fun _ => fun
  | [d1, d2] => { results := [.lit (.bool false)], args := [d1, d2] }
  | _ => none }
def FnExactItemsWrongFalsely : Prop := fnExactItemsRow.holds Tryd.pinned (OpenSpec.ofChange fnExactItemsWrong)

/- THE SECOND FORM. 'bulk': how many values and letters a reading holds, each counted each time it is reached (what is shared counts as often as it is met; a slice's spare places count too). A statement '..UptoSaid' is the law's where the arguments, and the package variables that the reading takes, are together of bulk at most 1048576: NARROWER than '..Said'. Prove '..Said' where nothing that the law and all that it calls make is longer than what came in: it says more and counts as full. Else prove '..UptoSaid'. A law counts once. -/
mutual
def uptoBulk {H : Type} : DataW H → Nat
  | .lit (.string bytes) => bytes.length + 1
  | .lit _ => 1
  | .nil => 1
  | .ptr d => uptoBulk d + 1
  | .slice elems spare => uptoBulkAll elems + uptoBulkAll spare + 1
  | .agg parts => uptoBulkAll parts + 1
  | .iface _ d => uptoBulk d + 1
  | .map entries => uptoBulkEntries entries + 1
  | .held _ => 1
def uptoBulkAll {H : Type} : List (DataW H) → Nat
  | [] => 0
  | d :: r => uptoBulk d + uptoBulkAll r
def uptoBulkEntries {H : Type} : List (Lit × DataW H) → Nat
  | [] => 0
  | x :: r => uptoBulkEntry x + uptoBulkEntries r
def uptoBulkEntry {H : Type} : Lit × DataW H → Nat
  | (.string bytes, d) => bytes.length + uptoBulk d + 1
  | (_, d) => uptoBulk d + 1
 end
def uptoSmall : (H : Type) → List (DataW H) → Bool := fun _ ds => decide (uptoBulkAll ds ≤ 1048576)
def OpenSpec.upto (s : _root_.Go.ChangeSpec) : _root_.Go.OpenSpec := { _root_.Go.OpenSpec.ofChange s with cond := some uptoSmall }

/-- 'laws.FnExactOptsOk', WHERE WHAT IT READS IS OF BULK AT MOST 1048576: true; the input reads as it did. -/
def fnExactOptsOkUptoRow : OpenClaim := { program := "ytkbaoeklchdioaadoor", sum := "1f76e8db16332cabd231b8784ac1f317807f86e0030f25eb3c4ba48bb573df67", func := "loop.example/g00100/laws.FnExactOptsOk", spec := "fnExactOptsOk", inPlace := ["internal/bytealg.CountString", "internal/bytealg.IndexByteString", "internal/bytealg.IndexString"], named := ["unicode/utf8.first", "unicode/utf8.acceptRanges", "internal/bytealg.MaxLen"], apart := false, laid := [("unicode/utf8.acceptRanges", laid_unicode_utf8_acceptRanges), ("unicode/utf8.first", laid_unicode_utf8_first)], narrowed := true }
def FnExactOptsOkUptoSaid : Prop := fnExactOptsOkUptoRow.holds Tryd.pinned (OpenSpec.upto fnExactOptsOkSpec)

/-- 'laws.FnExactBackupPath', WHERE WHAT IT READS IS OF BULK AT MOST 1048576: true; the input reads as it did. -/
def fnExactBackupPathUptoRow : OpenClaim := { program := "ytkbaoeklchdioaadoor", sum := "1f76e8db16332cabd231b8784ac1f317807f86e0030f25eb3c4ba48bb573df67", func := "loop.example/g00100/laws.FnExactBackupPath", spec := "fnExactBackupPath", inPlace := ["internal/bytealg.CountString", "internal/bytealg.IndexByteString", "internal/bytealg.IndexString"], named := ["unicode/utf8.first", "unicode/utf8.acceptRanges", "internal/bytealg.MaxLen"], apart := false, laid := [("unicode/utf8.acceptRanges", laid_unicode_utf8_acceptRanges), ("unicode/utf8.first", laid_unicode_utf8_first)], narrowed := true }
def FnExactBackupPathUptoSaid : Prop := fnExactBackupPathUptoRow.holds Tryd.pinned (OpenSpec.upto fnExactBackupPathSpec)

/-- 'laws.FnExactShowOpts', WHERE WHAT IT READS IS OF BULK AT MOST 1048576: true; the input reads as it did. -/
def fnExactShowOptsUptoRow : OpenClaim := { program := "ytkbaoeklchdioaadoor", sum := "1f76e8db16332cabd231b8784ac1f317807f86e0030f25eb3c4ba48bb573df67", func := "loop.example/g00100/laws.FnExactShowOpts", spec := "fnExactShowOpts", inPlace := ["internal/bytealg.CountString", "internal/bytealg.IndexByteString", "internal/bytealg.IndexString", "internal/abi.NoEscape", "internal/bytealg.MakeNoZero"], unfollowed := true, recurses := true, named := ["unicode/utf8.first", "unicode/utf8.acceptRanges", "internal/bytealg.MaxLen"], apart := false, laid := [("unicode/utf8.acceptRanges", laid_unicode_utf8_acceptRanges), ("unicode/utf8.first", laid_unicode_utf8_first)], narrowed := true }
def FnExactShowOptsUptoSaid : Prop := fnExactShowOptsUptoRow.holds Tryd.pinned (OpenSpec.upto fnExactShowOptsSpec)

/-- 'laws.FnExactParseOpts', WHERE WHAT IT READS IS OF BULK AT MOST 1048576: true; the input reads as it did. -/
def fnExactParseOptsUptoRow : OpenClaim := { program := "ytkbaoeklchdioaadoor", sum := "1f76e8db16332cabd231b8784ac1f317807f86e0030f25eb3c4ba48bb573df67", func := "loop.example/g00100/laws.FnExactParseOpts", spec := "fnExactParseOpts", inPlace := ["internal/bytealg.CountString", "internal/bytealg.IndexByteString", "internal/bytealg.IndexString"], unfollowed := true, recurses := true, named := ["unicode/utf8.first", "unicode/utf8.acceptRanges", "internal/bytealg.MaxLen"], apart := false, laid := [("unicode/utf8.acceptRanges", laid_unicode_utf8_acceptRanges), ("unicode/utf8.first", laid_unicode_utf8_first)], narrowed := true }
def FnExactParseOptsUptoSaid : Prop := fnExactParseOptsUptoRow.holds Tryd.pinned (OpenSpec.upto fnExactParseOptsSpec)

/-- 'laws.FnOptions', WHERE WHAT IT READS IS OF BULK AT MOST 1048576: true; the input reads as it did. -/
def fnOptionsUptoRow : OpenClaim := { program := "ytkbaoeklchdioaadoor", sum := "1f76e8db16332cabd231b8784ac1f317807f86e0030f25eb3c4ba48bb573df67", func := "loop.example/g00100/laws.FnOptions", spec := "fnOptions", inPlace := ["internal/bytealg.CountString", "internal/bytealg.IndexByteString", "internal/bytealg.IndexString", "internal/abi.NoEscape", "internal/bytealg.MakeNoZero"], unfollowed := true, recurses := true, named := ["unicode/utf8.first", "unicode/utf8.acceptRanges", "internal/bytealg.MaxLen"], apart := false, laid := [("unicode/utf8.acceptRanges", laid_unicode_utf8_acceptRanges), ("unicode/utf8.first", laid_unicode_utf8_first)], narrowed := true }
def FnOptionsUptoSaid : Prop := fnOptionsUptoRow.holds Tryd.pinned (OpenSpec.upto fnOptionsSpec)

/-- 'laws.FnExactEntriesOk', WHERE WHAT IT READS IS OF BULK AT MOST 1048576: true; the input reads as it did. -/
def fnExactEntriesOkUptoRow : OpenClaim := { program := "ytkbaoeklchdioaadoor", sum := "1f76e8db16332cabd231b8784ac1f317807f86e0030f25eb3c4ba48bb573df67", func := "loop.example/g00100/laws.FnExactEntriesOk", spec := "fnExactEntriesOk", inPlace := ["internal/bytealg.CountString", "internal/bytealg.IndexByteString", "internal/bytealg.IndexString"], named := ["unicode/utf8.first", "unicode/utf8.acceptRanges", "internal/bytealg.MaxLen"], apart := false, laid := [("unicode/utf8.acceptRanges", laid_unicode_utf8_acceptRanges), ("unicode/utf8.first", laid_unicode_utf8_first)], narrowed := true }
def FnExactEntriesOkUptoSaid : Prop := fnExactEntriesOkUptoRow.holds Tryd.pinned (OpenSpec.upto fnExactEntriesOkSpec)

/-- 'laws.FnExactPutEntries', WHERE WHAT IT READS IS OF BULK AT MOST 1048576: true; the input reads as it did. -/
def fnExactPutEntriesUptoRow : OpenClaim := { program := "ytkbaoeklchdioaadoor", sum := "1f76e8db16332cabd231b8784ac1f317807f86e0030f25eb3c4ba48bb573df67", func := "loop.example/g00100/laws.FnExactPutEntries", spec := "fnExactPutEntries", inPlace := ["internal/bytealg.CountString", "internal/bytealg.IndexByteString", "internal/bytealg.IndexString", "internal/abi.NoEscape"], named := ["unicode/utf8.first", "unicode/utf8.acceptRanges", "internal/bytealg.MaxLen"], apart := false, laid := [("unicode/utf8.acceptRanges", laid_unicode_utf8_acceptRanges), ("unicode/utf8.first", laid_unicode_utf8_first)], narrowed := true }
def FnExactPutEntriesUptoSaid : Prop := fnExactPutEntriesUptoRow.holds Tryd.pinned (OpenSpec.upto fnExactPutEntriesSpec)

/-- 'laws.FnExactItem', WHERE WHAT IT READS IS OF BULK AT MOST 1048576: true; the input reads as it did. -/
def fnExactItemUptoRow : OpenClaim := { program := "ytkbaoeklchdioaadoor", sum := "1f76e8db16332cabd231b8784ac1f317807f86e0030f25eb3c4ba48bb573df67", func := "loop.example/g00100/laws.FnExactItem", spec := "fnExactItem", inPlace := ["internal/bytealg.CountString", "internal/bytealg.IndexByteString", "internal/bytealg.IndexString", "internal/abi.NoEscape", "internal/bytealg.MakeNoZero"], named := ["unicode/utf8.first", "unicode/utf8.acceptRanges", "internal/bytealg.MaxLen"], apart := false, laid := [("unicode/utf8.acceptRanges", laid_unicode_utf8_acceptRanges), ("unicode/utf8.first", laid_unicode_utf8_first)], narrowed := true }
def FnExactItemUptoSaid : Prop := fnExactItemUptoRow.holds Tryd.pinned (OpenSpec.upto fnExactItemSpec)

/-- 'laws.FnExactItemLine', WHERE WHAT IT READS IS OF BULK AT MOST 1048576: true; the input reads as it did. -/
def fnExactItemLineUptoRow : OpenClaim := { program := "ytkbaoeklchdioaadoor", sum := "1f76e8db16332cabd231b8784ac1f317807f86e0030f25eb3c4ba48bb573df67", func := "loop.example/g00100/laws.FnExactItemLine", spec := "fnExactItemLine", inPlace := ["internal/bytealg.CountString", "internal/bytealg.IndexByteString", "internal/bytealg.IndexString", "internal/abi.NoEscape", "internal/bytealg.MakeNoZero"], named := ["unicode/utf8.first", "unicode/utf8.acceptRanges", "internal/bytealg.MaxLen"], apart := false, laid := [("unicode/utf8.acceptRanges", laid_unicode_utf8_acceptRanges), ("unicode/utf8.first", laid_unicode_utf8_first)], narrowed := true }
def FnExactItemLineUptoSaid : Prop := fnExactItemLineUptoRow.holds Tryd.pinned (OpenSpec.upto fnExactItemLineSpec)

/-- 'laws.FnExactItems', WHERE WHAT IT READS IS OF BULK AT MOST 1048576: true; the input reads as it did. -/
def fnExactItemsUptoRow : OpenClaim := { program := "ytkbaoeklchdioaadoor", sum := "1f76e8db16332cabd231b8784ac1f317807f86e0030f25eb3c4ba48bb573df67", func := "loop.example/g00100/laws.FnExactItems", spec := "fnExactItems", inPlace := ["internal/bytealg.CountString", "internal/bytealg.IndexByteString", "internal/bytealg.IndexString", "internal/abi.NoEscape", "internal/bytealg.MakeNoZero"], named := ["unicode/utf8.first", "unicode/utf8.acceptRanges", "internal/bytealg.MaxLen"], apart := false, laid := [("unicode/utf8.acceptRanges", laid_unicode_utf8_acceptRanges), ("unicode/utf8.first", laid_unicode_utf8_first)], narrowed := true }
def FnExactItemsUptoSaid : Prop := fnExactItemsUptoRow.holds Tryd.pinned (OpenSpec.upto fnExactItemsSpec)

end Rows
end Go.Proofs.YtkbaoeklchdioaaDoor
