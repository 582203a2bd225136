/-
  No cell of these rows narrows 'for every input' (looked for: loops, veiled, ifaces, maps, wideKeys, modest, calm, conditions, laid).
  DERIVED. THE GIVEN ROWS OF THIS SEAT. 6 by the template 'for every input the law returns true; each argument reads behind the call as it read before'; 0 by the template 'total and deterministic' (their statements: YtpgnbcemdkgjgaaTotals.lean).
  GIVEN WITH THE SEED: the statements are not yours to turn. If you find one false, say at which input.
  Laid BY PROGRAM, IN A SANDBOX (cutbox-rows.mjs): the forced cells as the released guide's own fill.sh prints them over the translation ac92d5a947775516… (all of the seat's roots in one cut). By AI agents, Wed Nov 11 2026. No macro, syntax, notation, axiom, sorry.
-/
import Derived.Test.YtpgnbcemdkgjgaaChecked
import GoSem.Claim
import GoSem.ClaimJoined
import GoSem.ClaimMapViews
import Derived.JoinedTies
import Derived.KernelRfl
namespace Go.Proofs.Ytpgnbcemdkgjgaa
/- THE CELL 'sum', in the pinned program and in every row, IS THE sha256 OF THE DUMP (.gsa) THAT YtpgnbcemdkgjgaaProg.lean LOADS. Nothing in Lean hashes anything: it is a label: what it is worth is what the hold of that sum in a sandbox is worth. -/
noncomputable def Try.pinned : Pinned := { name := "ytpgnbcemdkgjgaa", sum := "ac92d5a947775516b9f0e28f64f0f80c8458ff4dfd6b91ad911792aa8354af93", checked := Try.checked }
namespace Rows
def none {H : Type} : Left H := { results := [], args := [] }

/-- 'laws.FnExactEntryOf': WHATEVER THE INPUT: true; the input reads as it did. -/
def fnExactEntryOfSpec : ChangeSpec := { name := "fnExactEntryOf", fn := fun _ => fun
  | [d] => { results := [.lit (.bool true)], args := [d] }
  | _ => none }
def fnExactEntryOfRow : OpenClaim := { program := "ytpgnbcemdkgjgaa", sum := "ac92d5a947775516b9f0e28f64f0f80c8458ff4dfd6b91ad911792aa8354af93", func := "loop.example/g00100/laws.FnExactEntryOf", spec := "fnExactEntryOf", apart := false }
def FnExactEntryOfSaid : Prop := fnExactEntryOfRow.holds Try.pinned (OpenSpec.ofChange fnExactEntryOfSpec)

/-- ITS FALSE NEIGHBOUR: 'it returns false'. Refute it at one input. -/
def fnExactEntryOfWrong : ChangeSpec := { name := "fnExactEntryOf", fn := fun _ => fun
  | [d] => { results := [.lit (.bool false)], args := [d] }
  | _ => none }
def FnExactEntryOfWrongFalsely : Prop := fnExactEntryOfRow.holds Try.pinned (OpenSpec.ofChange fnExactEntryOfWrong)

/-- 'laws.FnExactQuick': WHATEVER THE INPUT: true; the input reads as it did. -/
def fnExactQuickSpec : ChangeSpec := { name := "fnExactQuick", fn := fun _ => fun
  | [d1, d2, d3] => { results := [.lit (.bool true)], args := [d1, d2, d3] }
  | _ => none }
def fnExactQuickRow : OpenClaim := { program := "ytpgnbcemdkgjgaa", sum := "ac92d5a947775516b9f0e28f64f0f80c8458ff4dfd6b91ad911792aa8354af93", func := "loop.example/g00100/laws.FnExactQuick", spec := "fnExactQuick", apart := false }
def FnExactQuickSaid : Prop := fnExactQuickRow.holds Try.pinned (OpenSpec.ofChange fnExactQuickSpec)

/-- ITS FALSE NEIGHBOUR: 'it returns false'. Refute it at one input. -/
def fnExactQuickWrong : ChangeSpec := { name := "fnExactQuick", fn := fun _ => fun
  | [d1, d2, d3] => { results := [.lit (.bool false)], args := [d1, d2, d3] }
  | _ => none }
def FnExactQuickWrongFalsely : Prop := fnExactQuickRow.holds Try.pinned (OpenSpec.ofChange fnExactQuickWrong)

/-- 'laws.FnExactLikeness': WHATEVER THE INPUT: true; the input reads as it did. -/
def fnExactLikenessSpec : ChangeSpec := { name := "fnExactLikeness", fn := fun _ => fun
  | [d1, d2] => { results := [.lit (.bool true)], args := [d1, d2] }
  | _ => none }
def fnExactLikenessRow : OpenClaim := { program := "ytpgnbcemdkgjgaa", sum := "ac92d5a947775516b9f0e28f64f0f80c8458ff4dfd6b91ad911792aa8354af93", func := "loop.example/g00100/laws.FnExactLikeness", spec := "fnExactLikeness", apart := false }
def FnExactLikenessSaid : Prop := fnExactLikenessRow.holds Try.pinned (OpenSpec.ofChange fnExactLikenessSpec)

/-- ITS FALSE NEIGHBOUR: 'it returns false'. Refute it at one input. -/
def fnExactLikenessWrong : ChangeSpec := { name := "fnExactLikeness", fn := fun _ => fun
  | [d1, d2] => { results := [.lit (.bool false)], args := [d1, d2] }
  | _ => none }
def FnExactLikenessWrongFalsely : Prop := fnExactLikenessRow.holds Try.pinned (OpenSpec.ofChange fnExactLikenessWrong)

/-- 'laws.FnRoll': WHATEVER THE INPUT: true; the input reads as it did. -/
def fnRollSpec : ChangeSpec := { name := "fnRoll", fn := fun _ => fun
  | [d] => { results := [.lit (.bool true)], args := [d] }
  | _ => none }
def fnRollRow : OpenClaim := { program := "ytpgnbcemdkgjgaa", sum := "ac92d5a947775516b9f0e28f64f0f80c8458ff4dfd6b91ad911792aa8354af93", func := "loop.example/g00100/laws.FnRoll", spec := "fnRoll", apart := false }
def FnRollSaid : Prop := fnRollRow.holds Try.pinned (OpenSpec.ofChange fnRollSpec)

/-- ITS FALSE NEIGHBOUR: 'it returns false'. Refute it at one input. -/
def fnRollWrong : ChangeSpec := { name := "fnRoll", fn := fun _ => fun
  | [d] => { results := [.lit (.bool false)], args := [d] }
  | _ => none }
def FnRollWrongFalsely : Prop := fnRollRow.holds Try.pinned (OpenSpec.ofChange fnRollWrong)

/-- 'laws.FnExactCountOf': WHATEVER THE INPUT: true; the input reads as it did. -/
def fnExactCountOfSpec : ChangeSpec := { name := "fnExactCountOf", fn := fun _ => fun
  | [d1, d2] => { results := [.lit (.bool true)], args := [d1, d2] }
  | _ => none }
def fnExactCountOfRow : OpenClaim := { program := "ytpgnbcemdkgjgaa", sum := "ac92d5a947775516b9f0e28f64f0f80c8458ff4dfd6b91ad911792aa8354af93", func := "loop.example/g00100/laws.FnExactCountOf", spec := "fnExactCountOf", apart := false }
def FnExactCountOfSaid : Prop := fnExactCountOfRow.holds Try.pinned (OpenSpec.ofChange fnExactCountOfSpec)

/-- ITS FALSE NEIGHBOUR: 'it returns false'. Refute it at one input. -/
def fnExactCountOfWrong : ChangeSpec := { name := "fnExactCountOf", fn := fun _ => fun
  | [d1, d2] => { results := [.lit (.bool false)], args := [d1, d2] }
  | _ => none }
def FnExactCountOfWrongFalsely : Prop := fnExactCountOfRow.holds Try.pinned (OpenSpec.ofChange fnExactCountOfWrong)

/-- 'laws.FnLikeness': WHATEVER THE INPUT: true; the input reads as it did. -/
def fnLikenessSpec : ChangeSpec := { name := "fnLikeness", fn := fun _ => fun
  | [d] => { results := [.lit (.bool true)], args := [d] }
  | _ => none }
def fnLikenessRow : OpenClaim := { program := "ytpgnbcemdkgjgaa", sum := "ac92d5a947775516b9f0e28f64f0f80c8458ff4dfd6b91ad911792aa8354af93", func := "loop.example/g00100/laws.FnLikeness", spec := "fnLikeness", apart := false }
def FnLikenessSaid : Prop := fnLikenessRow.holds Try.pinned (OpenSpec.ofChange fnLikenessSpec)

/-- ITS FALSE NEIGHBOUR: 'it returns false'. Refute it at one input. -/
def fnLikenessWrong : ChangeSpec := { name := "fnLikeness", fn := fun _ => fun
  | [d] => { results := [.lit (.bool false)], args := [d] }
  | _ => none }
def FnLikenessWrongFalsely : Prop := fnLikenessRow.holds Try.pinned (OpenSpec.ofChange fnLikenessWrong)

/- THE SECOND FORM. 'bulk': how many values and letters a reading holds, each counted each time it is reached (what is shared counts as often as it is met; a slice's spare places count too). A statement '..UptoSaid' is the law's where the arguments, and the package variables that the reading takes, are together of bulk at most 1048576: NARROWER than '..Said'. Prove '..Said' where nothing that the law and all that it calls make is longer than what came in: it says more and counts as full. Else prove '..UptoSaid'. A law counts once. -/
mutual
def uptoBulk {H : Type} : DataW H → Nat
  | .lit (.string bytes) => bytes.length + 1
  | .lit _ => 1
  | .nil => 1
  | .ptr d => uptoBulk d + 1
  | .slice elems spare => uptoBulkAll elems + uptoBulkAll spare + 1
  | .agg parts => uptoBulkAll parts + 1
  | .iface _ d => uptoBulk d + 1
  | .map entries => uptoBulkEntries entries + 1
  | .held _ => 1
def uptoBulkAll {H : Type} : List (DataW H) → Nat
  | [] => 0
  | d :: r => uptoBulk d + uptoBulkAll r
def uptoBulkEntries {H : Type} : List (Lit × DataW H) → Nat
  | [] => 0
  | x :: r => uptoBulkEntry x + uptoBulkEntries r
def uptoBulkEntry {H : Type} : Lit × DataW H → Nat
  | (.string bytes, d) => bytes.length + uptoBulk d + 1
  | (_, d) => uptoBulk d + 1
 end
def uptoSmall : (H : Type) → List (DataW H) → Bool := fun _ ds => decide (uptoBulkAll ds ≤ 1048576)
def OpenSpec.upto (s : _root_.Go.ChangeSpec) : _root_.Go.OpenSpec := { _root_.Go.OpenSpec.ofChange s with cond := some uptoSmall }

/-- 'laws.FnExactEntryOf', WHERE WHAT IT READS IS OF BULK AT MOST 1048576: true; the input reads as it did. -/
def fnExactEntryOfUptoRow : OpenClaim := { program := "ytpgnbcemdkgjgaa", sum := "ac92d5a947775516b9f0e28f64f0f80c8458ff4dfd6b91ad911792aa8354af93", func := "loop.example/g00100/laws.FnExactEntryOf", spec := "fnExactEntryOf", apart := false, narrowed := true }
def FnExactEntryOfUptoSaid : Prop := fnExactEntryOfUptoRow.holds Try.pinned (OpenSpec.upto fnExactEntryOfSpec)

/-- 'laws.FnExactQuick', WHERE WHAT IT READS IS OF BULK AT MOST 1048576: true; the input reads as it did. -/
def fnExactQuickUptoRow : OpenClaim := { program := "ytpgnbcemdkgjgaa", sum := "ac92d5a947775516b9f0e28f64f0f80c8458ff4dfd6b91ad911792aa8354af93", func := "loop.example/g00100/laws.FnExactQuick", spec := "fnExactQuick", apart := false, narrowed := true }
def FnExactQuickUptoSaid : Prop := fnExactQuickUptoRow.holds Try.pinned (OpenSpec.upto fnExactQuickSpec)

/-- 'laws.FnExactLikeness', WHERE WHAT IT READS IS OF BULK AT MOST 1048576: true; the input reads as it did. -/
def fnExactLikenessUptoRow : OpenClaim := { program := "ytpgnbcemdkgjgaa", sum := "ac92d5a947775516b9f0e28f64f0f80c8458ff4dfd6b91ad911792aa8354af93", func := "loop.example/g00100/laws.FnExactLikeness", spec := "fnExactLikeness", apart := false, narrowed := true }
def FnExactLikenessUptoSaid : Prop := fnExactLikenessUptoRow.holds Try.pinned (OpenSpec.upto fnExactLikenessSpec)

/-- 'laws.FnRoll', WHERE WHAT IT READS IS OF BULK AT MOST 1048576: true; the input reads as it did. -/
def fnRollUptoRow : OpenClaim := { program := "ytpgnbcemdkgjgaa", sum := "ac92d5a947775516b9f0e28f64f0f80c8458ff4dfd6b91ad911792aa8354af93", func := "loop.example/g00100/laws.FnRoll", spec := "fnRoll", apart := false, narrowed := true }
def FnRollUptoSaid : Prop := fnRollUptoRow.holds Try.pinned (OpenSpec.upto fnRollSpec)

/-- 'laws.FnExactCountOf', WHERE WHAT IT READS IS OF BULK AT MOST 1048576: true; the input reads as it did. -/
def fnExactCountOfUptoRow : OpenClaim := { program := "ytpgnbcemdkgjgaa", sum := "ac92d5a947775516b9f0e28f64f0f80c8458ff4dfd6b91ad911792aa8354af93", func := "loop.example/g00100/laws.FnExactCountOf", spec := "fnExactCountOf", apart := false, narrowed := true }
def FnExactCountOfUptoSaid : Prop := fnExactCountOfUptoRow.holds Try.pinned (OpenSpec.upto fnExactCountOfSpec)

/-- 'laws.FnLikeness', WHERE WHAT IT READS IS OF BULK AT MOST 1048576: true; the input reads as it did. -/
def fnLikenessUptoRow : OpenClaim := { program := "ytpgnbcemdkgjgaa", sum := "ac92d5a947775516b9f0e28f64f0f80c8458ff4dfd6b91ad911792aa8354af93", func := "loop.example/g00100/laws.FnLikeness", spec := "fnLikeness", apart := false, narrowed := true }
def FnLikenessUptoSaid : Prop := fnLikenessUptoRow.holds Try.pinned (OpenSpec.upto fnLikenessSpec)

end Rows
end Go.Proofs.Ytpgnbcemdkgjgaa
