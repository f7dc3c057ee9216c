-- Made by a program of this session out of the translation (wip/pp.py): functions, contracts.
import Derived.Test.YthgefhnolmloiaaGreatDoorP3x0
import Derived.Test.YthgefhnolmloiaaGreatDoorP3x1
import Derived.Test.YthgefhnolmloiaaGreatDoorP3x2
import Derived.Test.YthgefhnolmloiaaGreatDoorP3x3
import Derived.Test.YthgefhnolmloiaaGreatDoorP3x4
import Derived.Test.YthgefhnolmloiaaGreatDoorP3x5
import Derived.Test.YthgefhnolmloiaaGreatDoorP3x6
import Derived.Test.YthgefhnolmloiaaGreatDoorP3x7
import Derived.Test.YthgefhnolmloiaaGreatDoorP3x8
import Derived.Test.YthgefhnolmloiaaGreatDoorP3x9
import Derived.Test.YthgefhnolmloiaaGreatDoorP3x10
import Derived.Test.YthgefhnolmloiaaGreatDoorP3x11
import Derived.Test.YthgefhnolmloiaaGreatDoorP3x12
import Derived.Test.YthgefhnolmloiaaGreatDoorP3x13
import Derived.Test.YthgefhnolmloiaaGreatDoorP3x14
import Derived.Test.YthgefhnolmloiaaGreatDoorP3x15
import Derived.Test.YthgefhnolmloiaaGreatDoorP3x16
import Derived.Test.YthgefhnolmloiaaGreatDoorP3x17
import Derived.Test.YthgefhnolmloiaaGreatDoorP3x18
import Derived.Test.YthgefhnolmloiaaGreatDoorP3x19
import Derived.Test.YthgefhnolmloiaaGreatDoorP3x20
import Derived.Test.YthgefhnolmloiaaGreatDoorP3x21
import Derived.Test.YthgefhnolmloiaaGreatDoorP3x22
import Derived.Test.YthgefhnolmloiaaGreatDoorP3x23
namespace Go.Proofs.YthgefhnolmloiaaGreatDoor.P3
open Go.RowKit Go.Proofs.YthgefhnolmloiaaGreatDoorW.PrintWords Go.Proofs.YthgefhnolmloiaaGreatDoorW.PrintLast Go.Proofs.YthgefhnolmloiaaGreatDoorW.PrintMore
attribute [local go_sem] max2_int min2_int max_two min_two max_three min_three max_four min_four   -- for this text's walks alone
set_option linter.unusedVariables false
set_option linter.unusedSimpArgs false

end Go.Proofs.YthgefhnolmloiaaGreatDoor.P3
