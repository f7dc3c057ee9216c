-- Made by a program of this session out of the translation (wip/pp.py): functions, contracts.
import Derived.Test.YtaihfoihlbileaaDoorR4x0
import Derived.Test.YtaihfoihlbileaaDoorR4x1
import Derived.Test.YtaihfoihlbileaaDoorR4x2
import Derived.Test.YtaihfoihlbileaaDoorR4x3
import Derived.Test.YtaihfoihlbileaaDoorR4x4
import Derived.Test.YtaihfoihlbileaaDoorR4x5
import Derived.Test.YtaihfoihlbileaaDoorR4x6
import Derived.Test.YtaihfoihlbileaaDoorR4x7
import Derived.Test.YtaihfoihlbileaaDoorR4x8
import Derived.Test.YtaihfoihlbileaaDoorR4x9
import Derived.Test.YtaihfoihlbileaaDoorR4x10
import Derived.Test.YtaihfoihlbileaaDoorR4x11
namespace Go.Proofs.YtaihfoihlbileaaDoor.R4
open Go.RowKit Go.Proofs.YtaihfoihlbileaaDoorW.PrintWords Go.Proofs.YtaihfoihlbileaaDoorW.PrintLast Go.Proofs.YtaihfoihlbileaaDoorW.PrintMore
attribute [local go_sem] max2_int min2_int max_two min_two max_three min_three max_four min_four   -- for this text's walks alone
set_option linter.unusedVariables false
set_option linter.unusedSimpArgs false

end Go.Proofs.YtaihfoihlbileaaDoor.R4
