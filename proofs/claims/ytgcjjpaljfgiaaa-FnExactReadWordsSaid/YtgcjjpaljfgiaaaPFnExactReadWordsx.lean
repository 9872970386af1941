-- PRINTED BY print.sh 35421559b90ae4d0a3588c463048766b98c2df88dd9212a6774a882060cdf62d: not written by this session
import Derived.Test.YtgcjjpaljfgiaaaPFnExactReadWordsx0
import Derived.Test.YtgcjjpaljfgiaaaPFnExactReadWordsx1
import Derived.Test.YtgcjjpaljfgiaaaPFnExactReadWordsx2
import Derived.Test.YtgcjjpaljfgiaaaPFnExactReadWordsx3
namespace Go.Proofs.Ytgcjjpaljfgiaaa.PFnExactReadWords
open Go.RowKit Go.Proofs.YtgcjjpaljfgiaaaW.PrintWords Go.Proofs.YtgcjjpaljfgiaaaW.PrintLast Go.Proofs.YtgcjjpaljfgiaaaW.PrintMore
attribute [local go_sem] max2_int min2_int max_two min_two max_three min_three max_four min_four   -- for this text's walks alone
set_option linter.unusedVariables false
set_option linter.unusedSimpArgs false

end Go.Proofs.Ytgcjjpaljfgiaaa.PFnExactReadWords
