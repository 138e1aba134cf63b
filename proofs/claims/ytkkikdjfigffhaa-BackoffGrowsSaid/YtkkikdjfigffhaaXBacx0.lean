-- By a program of this work (xprint.py) over the translation; Lean checks it.
import Derived.Test.YtkkikdjfigffhaaProg
import Derived.Below
import Derived.Deep.Draws
import Derived.Deep.AppendLies
import Derived.Maps.AppendAt
import Derived.OwnWalk
import Derived.Laws.BytesArg
import Derived.Laws.MakeOwn
import Derived.Laws.OwnMore
import Derived.Deep.OwnRows
import Derived.Tactics
import Derived.Lib.ConvBytes
import Derived.Laws.Slices
import Derived.WalkKit
import Derived.KernelRfl
import Derived.RowKit3
import Derived.Deep.LoopGhost
import Derived.Deep.QuietTactic
import Derived.BigQuiet
import Derived.WideLaws
import Derived.Deep.DeepCutAuto
import Derived.Deep.CutBlock
import Derived.Deep.RegionHeld3
import Derived.Laws.Rows
import Derived.Lib.AppendStr
import Derived.ArgAppend
import Derived.Laws.IdiomCopy
import Derived.OrdersHeld
import Derived.Laws.BitsLemmas
import Derived.RowKit
import Derived.Lib.SliceRun
import Derived.Lib.SlBytesConst
import Derived.Test.YtkkikdjfigffhaaXc
import Derived.Test.YtkkikdjfigffhaaWWords
import Derived.Test.YtkkikdjfigffhaaWLast
import Derived.Test.YtkkikdjfigffhaaWTab
import Derived.Test.YtkkikdjfigffhaaWFour
import Derived.Test.YtkkikdjfigffhaaWQPut
import Derived.Test.YtkkikdjfigffhaaWApart
import Derived.Test.YtkkikdjfigffhaaWArr
import Derived.Test.YtkkikdjfigffhaaWZeros
import Derived.Test.YtkkikdjfigffhaaWFoot
import Derived.Test.YtkkikdjfigffhaaWKept
import Derived.Test.YtkkikdjfigffhaaWShare
import Derived.Test.YtkkikdjfigffhaaWN
import Derived.Test.YtkkikdjfigffhaaWFootNe
import Derived.Test.YtkkikdjfigffhaaWAt
import Derived.Test.YtkkikdjfigffhaaWEqStruct
import Derived.Test.YtkkikdjfigffhaaWRepsOne
import Derived.Test.YtkkikdjfigffhaaWInv
import Derived.Test.YtkkikdjfigffhaaWInvWords
import Derived.Test.YtkkikdjfigffhaaWGuard
import Derived.Test.YtkkikdjfigffhaaWNEv
import Derived.Test.YtkkikdjfigffhaaWMore
namespace Go.Proofs.Ytkkikdjfigffhaa.XBac
open Go.RowKit Go.Proofs.YtkkikdjfigffhaaW.PrintWords Go.Proofs.YtkkikdjfigffhaaW.PrintLast Go.Proofs.YtkkikdjfigffhaaW.PrintMore
attribute [local go_sem] max2_int min2_int max_two min_two max_three min_three max_four min_four   -- for this text's walks alone
set_option linter.unusedVariables false
set_option linter.unusedSimpArgs false



def errW : Option Int → Value
  | none => .nilIface
  | some c => .iface 0 (.int .i64 c)
theorem errW_none : errW none = .nilIface := rfl
theorem errW_some (c : Int) : errW (some c) = .iface 0 (.int .i64 c) := rfl

-- the values' own types

end Go.Proofs.Ytkkikdjfigffhaa.XBac
