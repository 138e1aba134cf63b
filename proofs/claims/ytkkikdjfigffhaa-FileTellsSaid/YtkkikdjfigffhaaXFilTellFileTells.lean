/- What the arguments of FileTells read as, and the one pure statement of it. -/
import Derived.Test.YtkkikdjfigffhaaXFilx9
import Derived.Test.YtkkikdjfigffhaaXFilW
namespace Go.Proofs.Ytkkikdjfigffhaa.XFil
open Go.RowKit Go.Proofs.YtkkikdjfigffhaaW.PrintWords Go.Proofs.YtkkikdjfigffhaaW.PrintLast Go.Proofs.YtkkikdjfigffhaaW.PrintMore
set_option linter.unusedVariables false
def good46 (x : S46) : Prop := (Lit.int .i64 x.f0).wf = true ∧ (x.f1.length ≤ maxLen ∧ ∀ y ∈ x.f1, (Lit.int .u8 y).wf = true)
theorem tell46 : Tell Try.prog 46 k46 good46 := Tell.imp (d := k46) (tell_struct (fun x : S46 => (x.f0, x.f1)) (fun y => ⟨y.1, y.2⟩) (fun _ => rfl) Try.underlying46 (by kernel_rfl) (tellF_cons rfl (by kernel_rfl) (tell_int Try.underlying3) (tellF_one rfl (by kernel_rfl) (tell_slice Try.underlying27 (by kernel_rfl) (tell_int Try.underlying5))))) (fun _ h => h)
def good76 (x : S76) : Prop := (x.f0.length ≤ maxLen ∧ ∀ y ∈ x.f0, (Lit.int .u8 y).wf = true) ∧ (x.f1.length ≤ maxLen ∧ ∀ y ∈ x.f1, (Lit.int .u8 y).wf = true) ∧ (x.f2.length ≤ maxLen ∧ ∀ y ∈ x.f2, good46 y)
theorem tell76 : Tell Try.prog 76 k76 good76 := Tell.imp (d := k76) (tell_struct (fun x : S76 => (x.f0, x.f1, x.f2)) (fun y => ⟨y.1, y.2.1, y.2.2⟩) (fun _ => rfl) Try.underlying76 (by kernel_rfl) (tellF_cons rfl (by kernel_rfl) (tell_slice Try.underlying27 (by kernel_rfl) (tell_int Try.underlying5)) (tellF_cons rfl (by kernel_rfl) (tell_slice Try.underlying27 (by kernel_rfl) (tell_int Try.underlying5)) (tellF_one rfl (by kernel_rfl) (tell_slice Try.underlying39 (by kernel_rfl) tell46))))) (fun _ h => h)
def good78 (x : S78) : Prop := True ∧ (Lit.int .i64 x.f1).wf = true ∧ (x.f2.length ≤ maxLen ∧ ∀ y ∈ x.f2, (Lit.int .u8 y).wf = true)
theorem tell78 : Tell Try.prog 78 k78 good78 := Tell.imp (d := k78) (tell_struct (fun x : S78 => (x.f0, x.f1, x.f2)) (fun y => ⟨y.1, y.2.1, y.2.2⟩) (fun _ => rfl) Try.underlying78 (by kernel_rfl) (tellF_cons rfl (by kernel_rfl) (tell_bool Try.underlying4) (tellF_cons rfl (by kernel_rfl) (tell_int Try.underlying3) (tellF_one rfl (by kernel_rfl) (tell_slice Try.underlying27 (by kernel_rfl) (tell_int Try.underlying5)))))) (fun _ h => h)
def newsreellaw09_FileTells.Pure : Prop := ∀ (y0 : S76) (y1 : S78) (y2 : List (Bool)), good76 y0 → good78 y1 → (y2.length ≤ maxLen ∧ ∀ y ∈ y2, True) → ∃ k, newsreellaw09_FileTells.f k (y0.f0) (y0.f1) (y0.f2) (y1.f0) (y1.f1) (y1.f2) y2 = some true
end Go.Proofs.Ytkkikdjfigffhaa.XFil
