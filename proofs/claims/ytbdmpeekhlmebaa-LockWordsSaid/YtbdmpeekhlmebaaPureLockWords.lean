/- The plain law of LockWords: the printed function of the law answers true, for every value of its parameters that the row lets in. -/
import Derived.Test.YtbdmpeekhlmebaaDefLockWords
import Derived.Test.YtbdmpeekhlmebaaLockA
namespace Go.Proofs.Ytbdmpeekhlmebaa.Pure
open Go.RowKit Go.Proofs.YtbdmpeekhlmebaaW.PrintWords Go.Proofs.YtbdmpeekhlmebaaW.PrintLast Go.Proofs.YtbdmpeekhlmebaaW.PrintMore Go.Proofs.Ytbdmpeekhlmebaa.Opn Go.Proofs.Ytbdmpeekhlmebaa.P
set_option linter.unusedVariables false
set_option linter.unusedSimpArgs false

theorem LockWords : stelelaw15_LockWords.Pure := by
  intro x0 x1 x2 _ _ _
  unfold stelelaw15_LockWords.f
  rw [right_eq, rright_eq, active_eq, ractive_eq, covers_eq, rcovers_eq, alive_true]
  simp
end Go.Proofs.Ytbdmpeekhlmebaa.Pure
