/- What the arguments of WireBends read as, and the one pure statement of it. -/
import Derived.Test.YtkkikdjfigffhaaXWirx3
import Derived.Test.YtkkikdjfigffhaaXo
namespace Go.Proofs.Ytkkikdjfigffhaa.XWir
open Go.RowKit Go.Proofs.YtkkikdjfigffhaaW.PrintWords Go.Proofs.YtkkikdjfigffhaaW.PrintLast Go.Proofs.YtkkikdjfigffhaaW.PrintMore
set_option linter.unusedVariables false
def good29 (x : S29) : Prop := (Lit.int .i64 x.f0).wf = true ∧ (x.f1.length ≤ maxLen ∧ ∀ y ∈ x.f1, (Lit.int .u8 y).wf = true)
theorem tell29 : Tell Try.prog 29 k29 good29 := Tell.imp (d := k29) (tell_struct (fun x : S29 => (x.f0, x.f1)) (fun y => ⟨y.1, y.2⟩) (fun _ => rfl) Try.underlying29 (by kernel_rfl) (tellF_cons rfl (by kernel_rfl) (tell_int Try.underlying3) (tellF_one rfl (by kernel_rfl) (tell_slice Try.underlying27 (by kernel_rfl) (tell_int Try.underlying5))))) (fun _ h => h)
def newsreellaw36_WireBends.Pure : Prop := ∀ (y0 : List (Int)) (y1 : S29) (y2 : List (S29)), (y0.length ≤ maxLen ∧ ∀ y ∈ y0, (Lit.int .u8 y).wf = true) → good29 y1 → (y2.length ≤ maxLen ∧ ∀ y ∈ y2, good29 y) → ∃ k, newsreellaw36_WireBends.f k y0 (y1.f0) (y1.f1) y2 = some true
end Go.Proofs.Ytkkikdjfigffhaa.XWir
