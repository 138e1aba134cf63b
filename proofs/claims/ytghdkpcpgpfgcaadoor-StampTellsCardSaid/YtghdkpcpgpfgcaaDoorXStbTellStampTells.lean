/- What the arguments of StampTells read as, and the one pure statement of it. -/
import Derived.Test.YtghdkpcpgpfgcaaDoorXStbM3a
import Derived.Test.YtghdkpcpgpfgcaaDoorXStbW
namespace Go.Proofs.YtghdkpcpgpfgcaaDoor.XStb
open Go.RowKit Go.Proofs.YtghdkpcpgpfgcaaDoorW.PrintWords Go.Proofs.YtghdkpcpgpfgcaaDoorW.PrintLast Go.Proofs.YtghdkpcpgpfgcaaDoorW.PrintMore
set_option linter.unusedVariables false
def good22 (x : S22) : Prop := (Lit.int .i64 x.f0).wf = true ∧ (Lit.int .i64 x.f1).wf = true
theorem tell22 : Tell Tryd.prog 22 k22 good22 := Tell.imp (d := k22) (tell_arr2 (fun x : S22 => (x.f0, x.f1)) (fun y => ⟨y.1, y.2⟩) (fun _ => rfl) Tryd.underlying22 (by kernel_rfl) (by kernel_rfl) (tell_int Tryd.underlying3)) (fun _ h => h)
def newsreellaw17_StampTells.Pure : Prop := ∀ (y0 : ByteArray) (y1 : Int) (y2 : S22), y0.size ≤ maxLen → (Lit.int .i64 y1).wf = true → good22 y2 → ∃ k, newsreellaw17_StampTells.f k y0 y1 (y2.f0) (y2.f1) = some true
end Go.Proofs.YtghdkpcpgpfgcaaDoor.XStb
