/- What the arguments of CrcSums read as, and the one pure statement of it. -/
import Derived.Test.YtkkikdjfigffhaaXCrcx1
import Derived.Test.YtkkikdjfigffhaaXo
namespace Go.Proofs.Ytkkikdjfigffhaa.XCrc
open Go.RowKit Go.Proofs.YtkkikdjfigffhaaW.PrintWords Go.Proofs.YtkkikdjfigffhaaW.PrintLast Go.Proofs.YtkkikdjfigffhaaW.PrintMore
set_option linter.unusedVariables false
def newsreellaw05_CrcSums.Pure : Prop := ∀ (y0 : Int) (y1 : List (Int)), (Lit.int .u32 y0).wf = true → (y1.length ≤ maxLen ∧ ∀ y ∈ y1, (Lit.int .u8 y).wf = true) → ∃ k, newsreellaw05_CrcSums.f k y0 y1 = some true
end Go.Proofs.Ytkkikdjfigffhaa.XCrc
