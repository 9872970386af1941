-- Written by a program of this project's session, after the kit's print (a turned copy of its programs). Lean checks it.
import Derived.Test.YtidibjmckgbpbaaQFnProfilesx0
import Derived.Test.YtidibjmckgbpbaaQFnProfilesx1
import Derived.Test.YtidibjmckgbpbaaQFnProfilesx2
import Derived.Test.YtidibjmckgbpbaaQFnProfilesx3
import Derived.Test.YtidibjmckgbpbaaQFnProfilesx4
import Derived.Test.YtidibjmckgbpbaaQFnProfilesx5
import Derived.Test.YtidibjmckgbpbaaQFnProfilesx6
import Derived.Test.YtidibjmckgbpbaaQFnProfilesx7
import Derived.Test.YtidibjmckgbpbaaQFnProfilesx8
namespace Go.Proofs.Ytidibjmckgbpbaa.QFnProfiles
open Go.RowKit Go.Proofs.YtidibjmckgbpbaaW.PrintWords Go.Proofs.YtidibjmckgbpbaaW.PrintLast Go.Proofs.YtidibjmckgbpbaaW.PrintMore
attribute [local go_sem] max2_int min2_int max_two min_two max_three min_three max_four min_four   -- for this text's walks alone
set_option linter.unusedVariables false
set_option linter.unusedSimpArgs false

end Go.Proofs.Ytidibjmckgbpbaa.QFnProfiles
