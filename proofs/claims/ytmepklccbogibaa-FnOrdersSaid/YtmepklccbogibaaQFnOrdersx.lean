-- Written by a program of this project's session, after the kit's print (a turned copy of its programs). Lean checks it.
import Derived.Test.YtmepklccbogibaaQFnOrdersx0
import Derived.Test.YtmepklccbogibaaQFnOrdersx1
import Derived.Test.YtmepklccbogibaaQFnOrdersx2
import Derived.Test.YtmepklccbogibaaQFnOrdersx3
import Derived.Test.YtmepklccbogibaaQFnOrdersx4
import Derived.Test.YtmepklccbogibaaQFnOrdersx5
import Derived.Test.YtmepklccbogibaaQFnOrdersx6
import Derived.Test.YtmepklccbogibaaQFnOrdersx7
import Derived.Test.YtmepklccbogibaaQFnOrdersx8
import Derived.Test.YtmepklccbogibaaQFnOrdersx9
import Derived.Test.YtmepklccbogibaaQFnOrdersx10
namespace Go.Proofs.Ytmepklccbogibaa.QFnOrders
open Go.RowKit Go.Proofs.YtmepklccbogibaaW.PrintWords Go.Proofs.YtmepklccbogibaaW.PrintLast Go.Proofs.YtmepklccbogibaaW.PrintMore
attribute [local go_sem] max2_int min2_int max_two min_two max_three min_three max_four min_four   -- for this text's walks alone
set_option linter.unusedVariables false
set_option linter.unusedSimpArgs false

end Go.Proofs.Ytmepklccbogibaa.QFnOrders
