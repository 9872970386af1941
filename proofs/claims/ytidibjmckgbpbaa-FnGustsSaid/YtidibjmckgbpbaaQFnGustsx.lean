-- Written by a program of this project's session, after the kit's print (a turned copy of its programs). Lean checks it.
import Derived.Test.YtidibjmckgbpbaaQFnGustsx0
import Derived.Test.YtidibjmckgbpbaaQFnGustsx1
import Derived.Test.YtidibjmckgbpbaaQFnGustsx2
import Derived.Test.YtidibjmckgbpbaaQFnGustsx3
import Derived.Test.YtidibjmckgbpbaaQFnGustsx4
import Derived.Test.YtidibjmckgbpbaaQFnGustsx5
import Derived.Test.YtidibjmckgbpbaaQFnGustsx6
import Derived.Test.YtidibjmckgbpbaaQFnGustsx7
import Derived.Test.YtidibjmckgbpbaaQFnGustsx8
import Derived.Test.YtidibjmckgbpbaaQFnGustsx9
namespace Go.Proofs.Ytidibjmckgbpbaa.QFnGusts
open Go.RowKit Go.Proofs.YtidibjmckgbpbaaW.PrintWords Go.Proofs.YtidibjmckgbpbaaW.PrintLast Go.Proofs.YtidibjmckgbpbaaW.PrintMore
attribute [local go_sem] max2_int min2_int max_two min_two max_three min_three max_four min_four   -- for this text's walks alone
set_option linter.unusedVariables false
set_option linter.unusedSimpArgs false

end Go.Proofs.Ytidibjmckgbpbaa.QFnGusts
