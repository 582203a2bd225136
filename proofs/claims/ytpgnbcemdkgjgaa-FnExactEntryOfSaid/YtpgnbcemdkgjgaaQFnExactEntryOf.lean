/- The pure statement of the law FnExactEntryOf: at all arguments that can be read, its printed function answers true. -/
import Derived.Test.YtpgnbcemdkgjgaaPFnExactEntryOfx1
namespace Go.Proofs.Ytpgnbcemdkgjgaa.QFnExactEntryOf
open Go Go.RowKit Go.Proofs.Ytpgnbcemdkgjgaa.PFnExactEntryOf Go.Proofs.YtpgnbcemdkgjgaaW.PrintWords Go.Proofs.YtpgnbcemdkgjgaaW.PrintLast Go.Proofs.YtpgnbcemdkgjgaaW.PrintMore
set_option linter.unusedVariables false
def Pure : Prop := ∀ (a0_0 : ByteArray) (a0_1 : Int) (a0_2 : Int) (a0_3 : Int) (a0_4 : ByteArray) (a0_5 : ByteArray) (a0_6 : Int), a0_0.size ≤ maxLen → (Lit.int .i64 a0_1).wf = true → (Lit.int .i64 a0_2).wf = true → (Lit.int .i64 a0_3).wf = true → a0_4.size ≤ maxLen → a0_5.size ≤ maxLen → (Lit.int .i64 a0_6).wf = true → laws_FnExactEntryOf.f a0_0 a0_1 a0_2 a0_3 a0_4 a0_5 a0_6 = some true
end Go.Proofs.Ytpgnbcemdkgjgaa.QFnExactEntryOf
