/- What the arguments of FileCrash read as, and the one pure statement of it. -/
import Derived.Test.YtkkikdjfigffhaaXFicx9
import Derived.Test.YtkkikdjfigffhaaXFicW
namespace Go.Proofs.Ytkkikdjfigffhaa.XFic
open Go.RowKit Go.Proofs.YtkkikdjfigffhaaW.PrintWords Go.Proofs.YtkkikdjfigffhaaW.PrintLast Go.Proofs.YtkkikdjfigffhaaW.PrintMore
set_option linter.unusedVariables false
def good78 (x : S78) : Prop := True ∧ (Lit.int .i64 x.f1).wf = true ∧ (x.f2.length ≤ maxLen ∧ ∀ y ∈ x.f2, (Lit.int .u8 y).wf = true)
theorem tell78 : Tell Try.prog 78 k78 good78 := Tell.imp (d := k78) (tell_struct (fun x : S78 => (x.f0, x.f1, x.f2)) (fun y => ⟨y.1, y.2.1, y.2.2⟩) (fun _ => rfl) Try.underlying78 (by kernel_rfl) (tellF_cons rfl (by kernel_rfl) (tell_bool Try.underlying4) (tellF_cons rfl (by kernel_rfl) (tell_int Try.underlying3) (tellF_one rfl (by kernel_rfl) (tell_slice Try.underlying27 (by kernel_rfl) (tell_int Try.underlying5)))))) (fun _ h => h)
def newsreellaw09_FileCrash.Pure : Prop := ∀ (y0 : List (S78)) (y1 : S78) (y2 : List (Bool)), (y0.length ≤ maxLen ∧ ∀ y ∈ y0, good78 y) → good78 y1 → (y2.length ≤ maxLen ∧ ∀ y ∈ y2, True) → ∃ k, newsreellaw09_FileCrash.f k y0 (y1.f0) (y1.f1) (y1.f2) y2 = some true
end Go.Proofs.Ytkkikdjfigffhaa.XFic
