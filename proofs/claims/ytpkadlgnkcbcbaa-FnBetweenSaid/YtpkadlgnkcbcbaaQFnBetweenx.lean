-- Written by a program of this project's session, after the kit's print (a turned copy of its programs). Lean checks it.
import Derived.Test.YtpkadlgnkcbcbaaQFnBetweenx0
import Derived.Test.YtpkadlgnkcbcbaaQFnBetweenx1
import Derived.Test.YtpkadlgnkcbcbaaQFnBetweenx2
import Derived.Test.YtpkadlgnkcbcbaaQFnBetweenx3
import Derived.Test.YtpkadlgnkcbcbaaQFnBetweenx4
import Derived.Test.YtpkadlgnkcbcbaaQFnBetweenx5
import Derived.Test.YtpkadlgnkcbcbaaQFnBetweenx6
import Derived.Test.YtpkadlgnkcbcbaaQFnBetweenx7
namespace Go.Proofs.Ytpkadlgnkcbcbaa.QFnBetween
open Go.RowKit Go.Proofs.YtpkadlgnkcbcbaaW.PrintWords Go.Proofs.YtpkadlgnkcbcbaaW.PrintLast Go.Proofs.YtpkadlgnkcbcbaaW.PrintMore
attribute [local go_sem] max2_int min2_int max_two min_two max_three min_three max_four min_four   -- for this text's walks alone
set_option linter.unusedVariables false
set_option linter.unusedSimpArgs false

end Go.Proofs.Ytpkadlgnkcbcbaa.QFnBetween
