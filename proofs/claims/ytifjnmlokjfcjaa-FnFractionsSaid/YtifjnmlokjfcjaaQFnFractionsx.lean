-- Written by a program of this project's session, after the kit's print (a turned copy of its programs). Lean checks it.
import Derived.Test.YtifjnmlokjfcjaaQFnFractionsx0
import Derived.Test.YtifjnmlokjfcjaaQFnFractionsx1
import Derived.Test.YtifjnmlokjfcjaaQFnFractionsx2
import Derived.Test.YtifjnmlokjfcjaaQFnFractionsx3
import Derived.Test.YtifjnmlokjfcjaaQFnFractionsx4
namespace Go.Proofs.Ytifjnmlokjfcjaa.QFnFractions
open Go.RowKit Go.Proofs.YtifjnmlokjfcjaaW.PrintWords Go.Proofs.YtifjnmlokjfcjaaW.PrintLast Go.Proofs.YtifjnmlokjfcjaaW.PrintMore
attribute [local go_sem] max2_int min2_int max_two min_two max_three min_three max_four min_four   -- for this text's walks alone
set_option linter.unusedVariables false
set_option linter.unusedSimpArgs false

end Go.Proofs.Ytifjnmlokjfcjaa.QFnFractions
