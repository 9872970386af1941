-- Written by a program of this project's session, after the kit's print (a turned copy of its programs). Lean checks it.
import Derived.Test.YtgcjjpaljfgiaaaQFnExactWordsTextx0
import Derived.Test.YtgcjjpaljfgiaaaQFnExactWordsTextx1
import Derived.Test.YtgcjjpaljfgiaaaQFnExactWordsTextx2
import Derived.Test.YtgcjjpaljfgiaaaQFnExactWordsTextx3
namespace Go.Proofs.Ytgcjjpaljfgiaaa.QFnExactWordsText
open Go.RowKit Go.Proofs.YtgcjjpaljfgiaaaW.PrintWords Go.Proofs.YtgcjjpaljfgiaaaW.PrintLast Go.Proofs.YtgcjjpaljfgiaaaW.PrintMore
attribute [local go_sem] max2_int min2_int max_two min_two max_three min_three max_four min_four   -- for this text's walks alone
set_option linter.unusedVariables false
set_option linter.unusedSimpArgs false

end Go.Proofs.Ytgcjjpaljfgiaaa.QFnExactWordsText
