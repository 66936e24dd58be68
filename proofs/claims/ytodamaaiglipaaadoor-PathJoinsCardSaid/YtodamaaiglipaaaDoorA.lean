-- PRINTED by print.py (a twelfth state) out of the translation. Not trusted: Lean checks it.
import Derived.Test.YtodamaaiglipaaaDoorA0
import Derived.Test.YtodamaaiglipaaaDoorA1
import Derived.Test.YtodamaaiglipaaaDoorA2
import Derived.Test.YtodamaaiglipaaaDoorA3
import Derived.Test.YtodamaaiglipaaaDoorA4
import Derived.Test.YtodamaaiglipaaaDoorA5
import Derived.Test.YtodamaaiglipaaaDoorA6
namespace Go.Proofs.YtodamaaiglipaaaDoor.A
open Go.RowKit Go.Proofs.YtodamaaiglipaaaDoorW.PrintWords Go.Proofs.YtodamaaiglipaaaDoorW.PrintLast Go.Proofs.YtodamaaiglipaaaDoorW.PrintMore
attribute [local go_sem] max2_int min2_int max_two min_two max_three min_three max_four min_four   -- for this text's walks alone
set_option linter.unusedVariables false
set_option linter.unusedSimpArgs false

end Go.Proofs.YtodamaaiglipaaaDoor.A
