-- Written by a program of this project's session, after the kit's print (a turned copy of its programs). Lean checks it.
import Derived.Test.YtgcjjpaljfgiaaaQFnExactListTextx0
import Derived.Test.YtgcjjpaljfgiaaaQFnExactListTextx1
import Derived.Test.YtgcjjpaljfgiaaaQFnExactListTextx2
import Derived.Test.YtgcjjpaljfgiaaaQFnExactListTextx3
namespace Go.Proofs.Ytgcjjpaljfgiaaa.QFnExactListText
open Go.RowKit Go.Proofs.YtgcjjpaljfgiaaaW.PrintWords Go.Proofs.YtgcjjpaljfgiaaaW.PrintLast Go.Proofs.YtgcjjpaljfgiaaaW.PrintMore
attribute [local go_sem] max2_int min2_int max_two min_two max_three min_three max_four min_four   -- for this text's walks alone
set_option linter.unusedVariables false
set_option linter.unusedSimpArgs false

end Go.Proofs.Ytgcjjpaljfgiaaa.QFnExactListText
