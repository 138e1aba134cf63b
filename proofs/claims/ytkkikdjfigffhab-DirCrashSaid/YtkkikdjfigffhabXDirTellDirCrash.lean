/- What the arguments of DirCrash read as, and the one pure statement of it. -/
import Derived.Test.YtkkikdjfigffhabXDirx42
import Derived.Test.YtkkikdjfigffhabXDirW
namespace Go.Proofs.Ytkkikdjfigffhab.XDir
open Go.RowKit Go.Proofs.YtkkikdjfigffhabW.PrintWords Go.Proofs.YtkkikdjfigffhabW.PrintLast Go.Proofs.YtkkikdjfigffhabW.PrintMore
set_option linter.unusedVariables false
def good69 (x : S69) : Prop := (Lit.int .i64 x.f0).wf = true ∧ x.f1.size ≤ maxLen ∧ x.f2.size ≤ maxLen ∧ (Lit.int .i64 x.f3).wf = true
theorem tell69 : Tell Try.prog 69 k69 good69 := Tell.imp (d := k69) (tell_struct (fun x : S69 => (x.f0, x.f1, x.f2, x.f3)) (fun y => ⟨y.1, y.2.1, y.2.2.1, y.2.2.2⟩) (fun _ => rfl) Try.underlying69 (by kernel_rfl) (tellF_cons rfl (by kernel_rfl) (tell_int Try.underlying3) (tellF_cons rfl (by kernel_rfl) (tell_string Try.underlying9) (tellF_cons rfl (by kernel_rfl) (tell_string Try.underlying9) (tellF_one rfl (by kernel_rfl) (tell_int Try.underlying3)))))) (fun _ h => h)
def newsreellaw10_DirCrash.Pure : Prop := ∀ (y0 : List (S69)) (y1 : List (Bool)) (y2 : Int), (y0.length ≤ maxLen ∧ ∀ y ∈ y0, good69 y) → (y1.length ≤ maxLen ∧ ∀ y ∈ y1, True) → (Lit.int .i64 y2).wf = true → ∃ k, newsreellaw10_DirCrash.f k y0 y1 y2 = some true
end Go.Proofs.Ytkkikdjfigffhab.XDir
