-- Written by a program of this project's session, after the kit's print (a turned copy of its programs). Lean checks it.
import Derived.Test.YtkedlfedjbgbiaaQFnLandingsx0
import Derived.Test.YtkedlfedjbgbiaaQFnLandingsx1
import Derived.Test.YtkedlfedjbgbiaaQFnLandingsx2
import Derived.Test.YtkedlfedjbgbiaaQFnLandingsx3
import Derived.Test.YtkedlfedjbgbiaaQFnLandingsx4
import Derived.Test.YtkedlfedjbgbiaaQFnLandingsx5
namespace Go.Proofs.Ytkedlfedjbgbiaa.QFnLandings
open Go.RowKit Go.Proofs.YtkedlfedjbgbiaaW.PrintWords Go.Proofs.YtkedlfedjbgbiaaW.PrintLast Go.Proofs.YtkedlfedjbgbiaaW.PrintMore
attribute [local go_sem] max2_int min2_int max_two min_two max_three min_three max_four min_four   -- for this text's walks alone
set_option linter.unusedVariables false
set_option linter.unusedSimpArgs false

end Go.Proofs.Ytkedlfedjbgbiaa.QFnLandings
