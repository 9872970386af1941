-- Written by a program of this project's session, after the kit's print (a turned copy of its programs). Lean checks it.
import Derived.Test.YtidibjmckgbpbaaQFnExactJoinProfilesx0
import Derived.Test.YtidibjmckgbpbaaQFnExactJoinProfilesx1
import Derived.Test.YtidibjmckgbpbaaQFnExactJoinProfilesx2
import Derived.Test.YtidibjmckgbpbaaQFnExactJoinProfilesx3
import Derived.Test.YtidibjmckgbpbaaQFnExactJoinProfilesx4
import Derived.Test.YtidibjmckgbpbaaQFnExactJoinProfilesx5
import Derived.Test.YtidibjmckgbpbaaQFnExactJoinProfilesx6
import Derived.Test.YtidibjmckgbpbaaQFnExactJoinProfilesx7
import Derived.Test.YtidibjmckgbpbaaQFnExactJoinProfilesx8
namespace Go.Proofs.Ytidibjmckgbpbaa.QFnExactJoinProfiles
open Go.RowKit Go.Proofs.YtidibjmckgbpbaaW.PrintWords Go.Proofs.YtidibjmckgbpbaaW.PrintLast Go.Proofs.YtidibjmckgbpbaaW.PrintMore
attribute [local go_sem] max2_int min2_int max_two min_two max_three min_three max_four min_four   -- for this text's walks alone
set_option linter.unusedVariables false
set_option linter.unusedSimpArgs false

end Go.Proofs.Ytidibjmckgbpbaa.QFnExactJoinProfiles
