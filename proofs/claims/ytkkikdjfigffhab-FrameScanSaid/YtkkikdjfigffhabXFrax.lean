-- By a program of this work (xprint.py) over the translation; Lean checks it.
import Derived.Test.YtkkikdjfigffhabXFrax0
import Derived.Test.YtkkikdjfigffhabXFrax1
import Derived.Test.YtkkikdjfigffhabXFrax2
import Derived.Test.YtkkikdjfigffhabXFrax3
import Derived.Test.YtkkikdjfigffhabXFrax4
import Derived.Test.YtkkikdjfigffhabXFrax5
import Derived.Test.YtkkikdjfigffhabXFrax6
namespace Go.Proofs.Ytkkikdjfigffhab.XFra
open Go.RowKit Go.Proofs.YtkkikdjfigffhabW.PrintWords Go.Proofs.YtkkikdjfigffhabW.PrintLast Go.Proofs.YtkkikdjfigffhabW.PrintMore
attribute [local go_sem] max2_int min2_int max_two min_two max_three min_three max_four min_four   -- for this text's walks alone
set_option linter.unusedVariables false
set_option linter.unusedSimpArgs false

end Go.Proofs.Ytkkikdjfigffhab.XFra
