/- What the arguments of BlockTells read as, and the one pure statement of it. -/
import Derived.Test.YtkkikdjfigffhaaXBltx6
import Derived.Test.YtkkikdjfigffhaaXo
namespace Go.Proofs.Ytkkikdjfigffhaa.XBlt
open Go.RowKit Go.Proofs.YtkkikdjfigffhaaW.PrintWords Go.Proofs.YtkkikdjfigffhaaW.PrintLast Go.Proofs.YtkkikdjfigffhaaW.PrintMore
set_option linter.unusedVariables false
def good38 (x : S38) : Prop := (x.f0.length ≤ maxLen ∧ ∀ y ∈ x.f0, (Lit.int .u8 y).wf = true) ∧ (x.f1.length ≤ maxLen ∧ ∀ y ∈ x.f1, (Lit.int .u8 y).wf = true)
theorem tell38 : Tell Try.prog 38 k38 good38 := Tell.imp (d := k38) (tell_arr2 (fun x : S38 => (x.f0, x.f1)) (fun y => ⟨y.1, y.2⟩) (fun _ => rfl) Try.underlying38 (by kernel_rfl) (by kernel_rfl) (tell_slice Try.underlying27 (by kernel_rfl) (tell_int Try.underlying5))) (fun _ h => h)
def good46 (x : S46) : Prop := (Lit.int .i64 x.f0).wf = true ∧ (x.f1.length ≤ maxLen ∧ ∀ y ∈ x.f1, (Lit.int .u8 y).wf = true)
theorem tell46 : Tell Try.prog 46 k46 good46 := Tell.imp (d := k46) (tell_struct (fun x : S46 => (x.f0, x.f1)) (fun y => ⟨y.1, y.2⟩) (fun _ => rfl) Try.underlying46 (by kernel_rfl) (tellF_cons rfl (by kernel_rfl) (tell_int Try.underlying3) (tellF_one rfl (by kernel_rfl) (tell_slice Try.underlying27 (by kernel_rfl) (tell_int Try.underlying5))))) (fun _ h => h)
def newsreellaw08_BlockTells.Pure : Prop := ∀ (y0 : Int) (y1 : S38) (y2 : List (S46)), (Lit.int .i64 y0).wf = true → good38 y1 → (y2.length ≤ maxLen ∧ ∀ y ∈ y2, good46 y) → ∃ k, newsreellaw08_BlockTells.f k y0 (y1.f0) (y1.f1) y2 = some true
end Go.Proofs.Ytkkikdjfigffhaa.XBlt
