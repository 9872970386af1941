-- Written by a program of this project's session, after the kit's print (a turned copy of its programs). Lean checks it.
import Derived.Test.YtgcjjpaljfgiaaaQFnWordsx0
import Derived.Test.YtgcjjpaljfgiaaaQFnWordsx1
import Derived.Test.YtgcjjpaljfgiaaaQFnWordsx2
import Derived.Test.YtgcjjpaljfgiaaaQFnWordsx3
import Derived.Test.YtgcjjpaljfgiaaaQFnWordsx4
import Derived.Test.YtgcjjpaljfgiaaaQFnWordsx5
namespace Go.Proofs.Ytgcjjpaljfgiaaa.QFnWords
open Go.RowKit Go.Proofs.YtgcjjpaljfgiaaaW.PrintWords Go.Proofs.YtgcjjpaljfgiaaaW.PrintLast Go.Proofs.YtgcjjpaljfgiaaaW.PrintMore
attribute [local go_sem] max2_int min2_int max_two min_two max_three min_three max_four min_four   -- for this text's walks alone
set_option linter.unusedVariables false
set_option linter.unusedSimpArgs false

end Go.Proofs.Ytgcjjpaljfgiaaa.QFnWords
