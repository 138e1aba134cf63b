/- What the arguments of BlockOrder read as, and the one pure statement of it. -/
import Derived.Test.YtkkikdjfigffhaaXBlkx3
import Derived.Test.YtkkikdjfigffhaaXo
namespace Go.Proofs.Ytkkikdjfigffhaa.XBlk
open Go.RowKit Go.Proofs.YtkkikdjfigffhaaW.PrintWords Go.Proofs.YtkkikdjfigffhaaW.PrintLast Go.Proofs.YtkkikdjfigffhaaW.PrintMore
set_option linter.unusedVariables false
def newsreellaw08_BlockOrder.Pure : Prop := ∀ (y0 : Int) (y1 : List (Int)) (y2 : List (Int)), (Lit.int .u16 y0).wf = true → (y1.length ≤ maxLen ∧ ∀ y ∈ y1, (Lit.int .u8 y).wf = true) → (y2.length ≤ maxLen ∧ ∀ y ∈ y2, (Lit.int .u8 y).wf = true) → ∃ k, newsreellaw08_BlockOrder.f k y0 y1 y2 = some true
end Go.Proofs.Ytkkikdjfigffhaa.XBlk
