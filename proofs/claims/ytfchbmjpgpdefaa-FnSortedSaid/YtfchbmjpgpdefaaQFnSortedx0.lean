-- Written by a program of this project's session, after the kit's print (a turned copy of its programs). Lean checks it.
import Derived.Test.YtfchbmjpgpdefaaProg
import Derived.Below
import Derived.Deep.Draws
import Derived.Deep.AppendLies
import Derived.Maps.AppendAt
import Derived.OwnWalk
import Derived.Laws.BytesArg
import Derived.Laws.MakeOwn
import Derived.Laws.OwnMore
import Derived.Deep.OwnRows
import Derived.Tactics
import Derived.Lib.ConvBytes
import Derived.Laws.Slices
import Derived.WalkKit
import Derived.KernelRfl
import Derived.RowKit3
import Derived.Deep.LoopGhost
import Derived.Deep.QuietTactic
import Derived.BigQuiet
import Derived.WideLaws
import Derived.Deep.DeepCutAuto
import Derived.Deep.CutBlock
import Derived.Deep.RegionHeld3
import Derived.Laws.Rows
import Derived.Lib.AppendStr
import Derived.ArgAppend
import Derived.Laws.IdiomCopy
import Derived.OrdersHeld
import Derived.Laws.BitsLemmas
import Derived.RowKit
import Derived.Test.YtfchbmjpgpdefaaWWords
import Derived.Test.YtfchbmjpgpdefaaWLast
import Derived.Test.YtfchbmjpgpdefaaWTab
import Derived.Test.YtfchbmjpgpdefaaWFour
import Derived.Test.YtfchbmjpgpdefaaWQPut
import Derived.Test.YtfchbmjpgpdefaaWApart
import Derived.Test.YtfchbmjpgpdefaaWArr
import Derived.Test.YtfchbmjpgpdefaaWZeros
import Derived.Test.YtfchbmjpgpdefaaWFoot
import Derived.Test.YtfchbmjpgpdefaaWKept
import Derived.Test.YtfchbmjpgpdefaaWShare
import Derived.Test.YtfchbmjpgpdefaaWN
import Derived.Test.YtfchbmjpgpdefaaWFootNe
import Derived.Test.YtfchbmjpgpdefaaWAt
import Derived.Test.YtfchbmjpgpdefaaWEqStruct
import Derived.Test.YtfchbmjpgpdefaaWRepsOne
import Derived.Test.YtfchbmjpgpdefaaWInv
import Derived.Test.YtfchbmjpgpdefaaWInvWords
import Derived.Test.YtfchbmjpgpdefaaWGuard
import Derived.Test.YtfchbmjpgpdefaaWNEv
import Derived.Test.YtfchbmjpgpdefaaWMore
namespace Go.Proofs.Ytfchbmjpgpdefaa.QFnSorted
open Go.RowKit Go.Proofs.YtfchbmjpgpdefaaW.PrintWords Go.Proofs.YtfchbmjpgpdefaaW.PrintLast Go.Proofs.YtfchbmjpgpdefaaW.PrintMore
attribute [local go_sem] max2_int min2_int max_two min_two max_three min_three max_four min_four   -- for this text's walks alone
set_option linter.unusedVariables false
set_option linter.unusedSimpArgs false



def errW : Option Int → Value
  | none => .nilIface
  | some c => .iface 0 (.int .i64 c)
theorem errW_none : errW none = .nilIface := rfl
theorem errW_some (c : Int) : errW (some c) = .iface 0 (.int .i64 c) := rfl

theorem info2 : (Try.prog.info? 2).map (fun i => (i.zero, i.size, i.bytes)) = some (some (.int .i64 0), 1, 8) := by kernel_rfl
theorem info9 : (Try.prog.info? 9).map (fun i => (i.zero, i.size, i.bytes)) = some (some (.string ⟨#[]⟩), 1, 16) := by kernel_rfl
-- the values' own types

end Go.Proofs.Ytfchbmjpgpdefaa.QFnSorted
