/- Every exported constant of the program has the value of the specification: no condition. -/
import Derived.Test.YtgcjjpaljfgiaaaPFnExactConstantsx1
namespace Go.Proofs.Ytgcjjpaljfgiaaa.Pure
open Go.RowKit Go.Proofs.Ytgcjjpaljfgiaaa.PFnExactConstants Go.Proofs.YtgcjjpaljfgiaaaW.PrintWords Go.Proofs.YtgcjjpaljfgiaaaW.PrintLast

theorem FnExactConstants : laws_FnExactConstants.Pure := by
  unfold laws_FnExactConstants.Pure laws_FnExactConstants.f
  trivial

end Go.Proofs.Ytgcjjpaljfgiaaa.Pure
