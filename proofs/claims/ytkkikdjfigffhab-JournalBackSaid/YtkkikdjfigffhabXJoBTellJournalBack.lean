/- What the arguments of JournalBack read as, and the one pure statement of it. -/
import Derived.Test.YtkkikdjfigffhabXJoBx3
import Derived.Test.YtkkikdjfigffhabXo
namespace Go.Proofs.Ytkkikdjfigffhab.XJoB
open Go.RowKit Go.Proofs.YtkkikdjfigffhabW.PrintWords Go.Proofs.YtkkikdjfigffhabW.PrintLast Go.Proofs.YtkkikdjfigffhabW.PrintMore
set_option linter.unusedVariables false
def newsreellaw37_JournalBack.Pure : Prop := ∀ (y0 : Int) (y1 : List (Int)), (Lit.int .u32 y0).wf = true → (y1.length ≤ maxLen ∧ ∀ y ∈ y1, (Lit.int .u8 y).wf = true) → ∃ k, newsreellaw37_JournalBack.f k y0 y1 = some true
end Go.Proofs.Ytkkikdjfigffhab.XJoB
