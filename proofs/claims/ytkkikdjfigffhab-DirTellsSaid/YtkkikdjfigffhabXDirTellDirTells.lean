/- What the arguments of DirTells read as, and the one pure statement of it. -/
import Derived.Test.YtkkikdjfigffhabXDirx39
import Derived.Test.YtkkikdjfigffhabXDirW
namespace Go.Proofs.Ytkkikdjfigffhab.XDir
open Go.RowKit Go.Proofs.YtkkikdjfigffhabW.PrintWords Go.Proofs.YtkkikdjfigffhabW.PrintLast Go.Proofs.YtkkikdjfigffhabW.PrintMore
set_option linter.unusedVariables false
def good77 (x : S77) : Prop := x.f0.size ≤ maxLen ∧ (Lit.int .i64 x.f1).wf = true
theorem tell77 : Tell Try.prog 77 k77 good77 := Tell.imp (d := k77) (tell_struct (fun x : S77 => (x.f0, x.f1)) (fun y => ⟨y.1, y.2⟩) (fun _ => rfl) Try.underlying77 (by kernel_rfl) (tellF_cons rfl (by kernel_rfl) (tell_string Try.underlying9) (tellF_one rfl (by kernel_rfl) (tell_int Try.underlying3)))) (fun _ h => h)
def good69 (x : S69) : Prop := (Lit.int .i64 x.f0).wf = true ∧ x.f1.size ≤ maxLen ∧ x.f2.size ≤ maxLen ∧ (Lit.int .i64 x.f3).wf = true
theorem tell69 : Tell Try.prog 69 k69 good69 := Tell.imp (d := k69) (tell_struct (fun x : S69 => (x.f0, x.f1, x.f2, x.f3)) (fun y => ⟨y.1, y.2.1, y.2.2.1, y.2.2.2⟩) (fun _ => rfl) Try.underlying69 (by kernel_rfl) (tellF_cons rfl (by kernel_rfl) (tell_int Try.underlying3) (tellF_cons rfl (by kernel_rfl) (tell_string Try.underlying9) (tellF_cons rfl (by kernel_rfl) (tell_string Try.underlying9) (tellF_one rfl (by kernel_rfl) (tell_int Try.underlying3)))))) (fun _ h => h)
def good67 (x : S67) : Prop := (x.f0.length ≤ maxLen ∧ ∀ y ∈ x.f0, good77 y) ∧ (x.f1.length ≤ maxLen ∧ ∀ y ∈ x.f1, good77 y) ∧ (x.f2.length ≤ maxLen ∧ ∀ y ∈ x.f2, good69 y)
theorem tell67 : Tell Try.prog 67 k67 good67 := Tell.imp (d := k67) (tell_struct (fun x : S67 => (x.f0, x.f1, x.f2)) (fun y => ⟨y.1, y.2.1, y.2.2⟩) (fun _ => rfl) Try.underlying67 (by kernel_rfl) (tellF_cons rfl (by kernel_rfl) (tell_slice Try.underlying64 (by kernel_rfl) tell77) (tellF_cons rfl (by kernel_rfl) (tell_slice Try.underlying64 (by kernel_rfl) tell77) (tellF_one rfl (by kernel_rfl) (tell_slice Try.underlying65 (by kernel_rfl) tell69))))) (fun _ h => h)
def newsreellaw10_DirTells.Pure : Prop := ∀ (y0 : S67) (y1 : S69) (y2 : Int), good67 y0 → good69 y1 → (Lit.int .i64 y2).wf = true → ∃ k, newsreellaw10_DirTells.f k (y0.f0) (y0.f1) (y0.f2) (y1.f0) (y1.f1) (y1.f2) (y1.f3) y2 = some true
end Go.Proofs.Ytkkikdjfigffhab.XDir
