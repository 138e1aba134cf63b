/- What the arguments of FrameScan read as, and the one pure statement of it. -/
import Derived.Test.YtkkikdjfigffhabXFrax6
import Derived.Test.YtkkikdjfigffhabXo
namespace Go.Proofs.Ytkkikdjfigffhab.XFra
open Go.RowKit Go.Proofs.YtkkikdjfigffhabW.PrintWords Go.Proofs.YtkkikdjfigffhabW.PrintLast Go.Proofs.YtkkikdjfigffhabW.PrintMore
set_option linter.unusedVariables false
def newsreellaw12_FrameScan.Pure : Prop := ∀ (y0 : List (List (Int))) (y1 : Int), (y0.length ≤ maxLen ∧ ∀ y ∈ y0, (y.length ≤ maxLen ∧ ∀ yy ∈ y, (Lit.int .u8 yy).wf = true)) → (Lit.int .u16 y1).wf = true → ∃ k, newsreellaw12_FrameScan.f k y0 y1 = some true
end Go.Proofs.Ytkkikdjfigffhab.XFra
