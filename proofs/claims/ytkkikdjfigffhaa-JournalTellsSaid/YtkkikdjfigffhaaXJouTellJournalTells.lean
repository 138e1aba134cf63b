/- What the arguments of JournalTells read as, and the one pure statement of it. -/
import Derived.Test.YtkkikdjfigffhaaXJoux3
import Derived.Test.YtkkikdjfigffhaaXo
namespace Go.Proofs.Ytkkikdjfigffhaa.XJou
open Go.RowKit Go.Proofs.YtkkikdjfigffhaaW.PrintWords Go.Proofs.YtkkikdjfigffhaaW.PrintLast Go.Proofs.YtkkikdjfigffhaaW.PrintMore
set_option linter.unusedVariables false
def newsreellaw37_JournalTells.Pure : Prop := ∀ (y0 : Int) (y1 : List (Int)), (Lit.int .i64 y0).wf = true → (y1.length ≤ maxLen ∧ ∀ y ∈ y1, (Lit.int .u8 y).wf = true) → ∃ k, newsreellaw37_JournalTells.f k y0 y1 = some true
end Go.Proofs.Ytkkikdjfigffhaa.XJou
