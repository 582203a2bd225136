/- The pure statement of the law FnExactCountOf: at all arguments that can be read, its printed function answers true. -/
import Derived.Test.YtpgnbcemdkgjgaaPFnExactCountOfx2
namespace Go.Proofs.Ytpgnbcemdkgjgaa.QFnExactCountOf
open Go Go.RowKit Go.Proofs.Ytpgnbcemdkgjgaa.PFnExactCountOf Go.Proofs.YtpgnbcemdkgjgaaW.PrintWords Go.Proofs.YtpgnbcemdkgjgaaW.PrintLast Go.Proofs.YtpgnbcemdkgjgaaW.PrintMore
set_option linter.unusedVariables false
def Q23 (x : S23) : Prop := x.f0.size ≤ maxLen ∧ (Lit.int .i64 x.f1).wf = true ∧ (Lit.int .i64 x.f2).wf = true ∧ (Lit.int .i64 x.f3).wf = true ∧ x.f4.size ≤ maxLen ∧ x.f5.size ≤ maxLen ∧ (Lit.int .i64 x.f6).wf = true
def Q73 (x : S73) : Prop := (Lit.int .i64 x.f0).wf = true ∧ x.f1.size ≤ maxLen ∧ Q23 x.f2 ∧ Q23 x.f3
def Pure : Prop := ∀ (l0 : List (S73)) (a1 : Int), l0.length ≤ maxLen → (∀ y ∈ l0, Q73 y) → (Lit.int .i64 a1).wf = true → ∃ k, laws_FnExactCountOf.f k l0 a1 = some true
end Go.Proofs.Ytpgnbcemdkgjgaa.QFnExactCountOf
