-- Written by a program of this project's session, after the kit's print (a turned copy of its programs). Lean checks it.
import Derived.Test.YtpkadlgnkcbcbaaQFnRatioTextsx0
import Derived.Test.YtpkadlgnkcbcbaaQFnRatioTextsx1
import Derived.Test.YtpkadlgnkcbcbaaQFnRatioTextsx2
import Derived.Test.YtpkadlgnkcbcbaaQFnRatioTextsx3
import Derived.Test.YtpkadlgnkcbcbaaQFnRatioTextsx4
import Derived.Test.YtpkadlgnkcbcbaaQFnRatioTextsx5
import Derived.Test.YtpkadlgnkcbcbaaQFnRatioTextsx6
import Derived.Test.YtpkadlgnkcbcbaaQFnRatioTextsx7
import Derived.Test.YtpkadlgnkcbcbaaQFnRatioTextsx8
import Derived.Test.YtpkadlgnkcbcbaaQFnRatioTextsx9
import Derived.Test.YtpkadlgnkcbcbaaQFnRatioTextsx10
namespace Go.Proofs.Ytpkadlgnkcbcbaa.QFnRatioTexts
open Go.RowKit Go.Proofs.YtpkadlgnkcbcbaaW.PrintWords Go.Proofs.YtpkadlgnkcbcbaaW.PrintLast Go.Proofs.YtpkadlgnkcbcbaaW.PrintMore
attribute [local go_sem] max2_int min2_int max_two min_two max_three min_three max_four min_four   -- for this text's walks alone
set_option linter.unusedVariables false
set_option linter.unusedSimpArgs false

end Go.Proofs.Ytpkadlgnkcbcbaa.QFnRatioTexts
