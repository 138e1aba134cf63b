/- What the arguments of FrameTells read as, and the one pure statement of it. -/
import Derived.Test.YtkkikdjfigffhabXFrax5
import Derived.Test.YtkkikdjfigffhabXo
namespace Go.Proofs.Ytkkikdjfigffhab.XFra
open Go.RowKit Go.Proofs.YtkkikdjfigffhabW.PrintWords Go.Proofs.YtkkikdjfigffhabW.PrintLast Go.Proofs.YtkkikdjfigffhabW.PrintMore
set_option linter.unusedVariables false
def newsreellaw12_FrameTells.Pure : Prop := ∀ (y0 : List (Int)) (y1 : List (Int)), (y0.length ≤ maxLen ∧ ∀ y ∈ y0, (Lit.int .u8 y).wf = true) → (y1.length ≤ maxLen ∧ ∀ y ∈ y1, (Lit.int .u8 y).wf = true) → ∃ k, newsreellaw12_FrameTells.f k y0 y1 = some true
end Go.Proofs.Ytkkikdjfigffhab.XFra
