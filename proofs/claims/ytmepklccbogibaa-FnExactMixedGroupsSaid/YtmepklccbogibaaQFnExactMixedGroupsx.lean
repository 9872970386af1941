-- Written by a program of this project's session, after the kit's print (a turned copy of its programs). Lean checks it.
import Derived.Test.YtmepklccbogibaaQFnExactMixedGroupsx0
import Derived.Test.YtmepklccbogibaaQFnExactMixedGroupsx1
import Derived.Test.YtmepklccbogibaaQFnExactMixedGroupsx2
import Derived.Test.YtmepklccbogibaaQFnExactMixedGroupsx3
import Derived.Test.YtmepklccbogibaaQFnExactMixedGroupsx4
import Derived.Test.YtmepklccbogibaaQFnExactMixedGroupsx5
import Derived.Test.YtmepklccbogibaaQFnExactMixedGroupsx6
import Derived.Test.YtmepklccbogibaaQFnExactMixedGroupsx7
import Derived.Test.YtmepklccbogibaaQFnExactMixedGroupsx8
import Derived.Test.YtmepklccbogibaaQFnExactMixedGroupsx9
import Derived.Test.YtmepklccbogibaaQFnExactMixedGroupsxm
namespace Go.Proofs.Ytmepklccbogibaa.QFnExactMixedGroups
open Go.RowKit Go.Proofs.YtmepklccbogibaaW.PrintWords Go.Proofs.YtmepklccbogibaaW.PrintLast Go.Proofs.YtmepklccbogibaaW.PrintMore
attribute [local go_sem] max2_int min2_int max_two min_two max_three min_three max_four min_four   -- for this text's walks alone
set_option linter.unusedVariables false
set_option linter.unusedSimpArgs false

end Go.Proofs.Ytmepklccbogibaa.QFnExactMixedGroups
