/- What the arguments of CrcCuts read as, and the one pure statement of it. -/
import Derived.Test.YtkkikdjfigffhaaXCrBx1
import Derived.Test.YtkkikdjfigffhaaXo
namespace Go.Proofs.Ytkkikdjfigffhaa.XCrB
open Go.RowKit Go.Proofs.YtkkikdjfigffhaaW.PrintWords Go.Proofs.YtkkikdjfigffhaaW.PrintLast Go.Proofs.YtkkikdjfigffhaaW.PrintMore
set_option linter.unusedVariables false
def good38 (x : S38) : Prop := (x.f0.length ≤ maxLen ∧ ∀ y ∈ x.f0, (Lit.int .u8 y).wf = true) ∧ (x.f1.length ≤ maxLen ∧ ∀ y ∈ x.f1, (Lit.int .u8 y).wf = true)
theorem tell38 : Tell Try.prog 38 k38 good38 := Tell.imp (d := k38) (tell_arr2 (fun x : S38 => (x.f0, x.f1)) (fun y => ⟨y.1, y.2⟩) (fun _ => rfl) Try.underlying38 (by kernel_rfl) (by kernel_rfl) (tell_slice Try.underlying27 (by kernel_rfl) (tell_int Try.underlying5))) (fun _ h => h)
def newsreellaw05_CrcCuts.Pure : Prop := ∀ (y0 : Int) (y1 : S38) (y2 : Int), (Lit.int .u32 y0).wf = true → good38 y1 → (Lit.int .u16 y2).wf = true → ∃ k, newsreellaw05_CrcCuts.f k y0 (y1.f0) (y1.f1) y2 = some true
end Go.Proofs.Ytkkikdjfigffhaa.XCrB
