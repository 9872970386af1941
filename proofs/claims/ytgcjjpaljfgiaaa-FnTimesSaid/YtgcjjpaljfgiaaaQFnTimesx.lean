-- Written by a program of this project's session, after the kit's print (a turned copy of its programs). Lean checks it.
import Derived.Test.YtgcjjpaljfgiaaaQFnTimesx0
import Derived.Test.YtgcjjpaljfgiaaaQFnTimesx1
import Derived.Test.YtgcjjpaljfgiaaaQFnTimesx2
import Derived.Test.YtgcjjpaljfgiaaaQFnTimesx3
import Derived.Test.YtgcjjpaljfgiaaaQFnTimesx4
import Derived.Test.YtgcjjpaljfgiaaaQFnTimesx5
import Derived.Test.YtgcjjpaljfgiaaaQFnTimesx6
import Derived.Test.YtgcjjpaljfgiaaaQFnTimesx7
namespace Go.Proofs.Ytgcjjpaljfgiaaa.QFnTimes
open Go.RowKit Go.Proofs.YtgcjjpaljfgiaaaW.PrintWords Go.Proofs.YtgcjjpaljfgiaaaW.PrintLast Go.Proofs.YtgcjjpaljfgiaaaW.PrintMore
attribute [local go_sem] max2_int min2_int max_two min_two max_three min_three max_four min_four   -- for this text's walks alone
set_option linter.unusedVariables false
set_option linter.unusedSimpArgs false

end Go.Proofs.Ytgcjjpaljfgiaaa.QFnTimes
