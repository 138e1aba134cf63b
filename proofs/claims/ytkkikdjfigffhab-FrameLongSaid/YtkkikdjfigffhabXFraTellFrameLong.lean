/- What the arguments of FrameLong read as, and the one pure statement of it. -/
import Derived.Test.YtkkikdjfigffhabXFrax5
import Derived.Test.YtkkikdjfigffhabXo
namespace Go.Proofs.Ytkkikdjfigffhab.XFra
open Go.RowKit Go.Proofs.YtkkikdjfigffhabW.PrintWords Go.Proofs.YtkkikdjfigffhabW.PrintLast Go.Proofs.YtkkikdjfigffhabW.PrintMore
set_option linter.unusedVariables false
def newsreellaw12_FrameLong.Pure : Prop := ∀ (y0 : Int), (Lit.int .u8 y0).wf = true → ∃ k, newsreellaw12_FrameLong.f k y0 = some true
end Go.Proofs.Ytkkikdjfigffhab.XFra
