-- Written by a program of this project's session, after the kit's print (a turned copy of its programs). Lean checks it.
import Derived.Test.YtfchbmjpgpdefaaQFnSortedx0
import Derived.Test.YtfchbmjpgpdefaaQFnSortedx1
import Derived.Test.YtfchbmjpgpdefaaQFnSortedx2
import Derived.Test.YtfchbmjpgpdefaaQFnSortedx3
import Derived.Test.YtfchbmjpgpdefaaQFnSortedx4
import Derived.Test.YtfchbmjpgpdefaaQFnSortedx5
namespace Go.Proofs.Ytfchbmjpgpdefaa.QFnSorted
open Go.RowKit Go.Proofs.YtfchbmjpgpdefaaW.PrintWords Go.Proofs.YtfchbmjpgpdefaaW.PrintLast Go.Proofs.YtfchbmjpgpdefaaW.PrintMore
attribute [local go_sem] max2_int min2_int max_two min_two max_three min_three max_four min_four   -- for this text's walks alone
set_option linter.unusedVariables false
set_option linter.unusedSimpArgs false

end Go.Proofs.Ytfchbmjpgpdefaa.QFnSorted
