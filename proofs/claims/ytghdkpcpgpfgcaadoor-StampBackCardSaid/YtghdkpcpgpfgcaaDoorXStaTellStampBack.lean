/- What the arguments of StampBack read as, and the one pure statement of it. -/
import Derived.Test.YtghdkpcpgpfgcaaDoorXStax35
import Derived.Test.YtghdkpcpgpfgcaaDoorXStaW
namespace Go.Proofs.YtghdkpcpgpfgcaaDoor.XSta
open Go.RowKit Go.Proofs.YtghdkpcpgpfgcaaDoorW.PrintWords Go.Proofs.YtghdkpcpgpfgcaaDoorW.PrintLast Go.Proofs.YtghdkpcpgpfgcaaDoorW.PrintMore
set_option linter.unusedVariables false
def newsreellaw17_StampBack.Pure : Prop := ∀ (y0 : Int) (y1 : Int), (Lit.int .u32 y0).wf = true → (Lit.int .u16 y1).wf = true → ∃ k, newsreellaw17_StampBack.f k y0 y1 = some true
end Go.Proofs.YtghdkpcpgpfgcaaDoor.XSta
