/- What the arguments of BackoffGrows read as, and the one pure statement of it. -/
import Derived.Test.YtkkikdjfigffhaaXBacx1
import Derived.Test.YtkkikdjfigffhaaXo
namespace Go.Proofs.Ytkkikdjfigffhaa.XBac
open Go.RowKit Go.Proofs.YtkkikdjfigffhaaW.PrintWords Go.Proofs.YtkkikdjfigffhaaW.PrintLast Go.Proofs.YtkkikdjfigffhaaW.PrintMore
set_option linter.unusedVariables false
def newsreellaw39_BackoffGrows.Pure : Prop := ∀ (y0 : Int) (y1 : Int) (y2 : Int), (Lit.int .i64 y0).wf = true → (Lit.int .i64 y1).wf = true → (Lit.int .i64 y2).wf = true → ∃ k, newsreellaw39_BackoffGrows.f k y0 y1 y2 = some true
end Go.Proofs.Ytkkikdjfigffhaa.XBac
