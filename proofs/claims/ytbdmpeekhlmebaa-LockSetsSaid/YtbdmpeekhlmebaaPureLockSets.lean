/- The plain law of LockSets: the printed function of the law answers true, for every value of its parameters that the row lets in. -/
import Derived.Test.YtbdmpeekhlmebaaDefLockSets
import Derived.Test.YtbdmpeekhlmebaaLockA
namespace Go.Proofs.Ytbdmpeekhlmebaa.Pure
open Go.RowKit Go.Proofs.YtbdmpeekhlmebaaW.PrintWords Go.Proofs.YtbdmpeekhlmebaaW.PrintLast Go.Proofs.YtbdmpeekhlmebaaW.PrintMore Go.Proofs.Ytbdmpeekhlmebaa.Opn Go.Proofs.Ytbdmpeekhlmebaa.P
set_option linter.unusedVariables false
set_option linter.unusedSimpArgs false

theorem rmayset_eq (k : Nat) (om ou tm tu n : Int) (b : Bool) : steleref15_MaySet.f (k + 1) om ou tm tu n b = some (maySetI om ou tm tu n b) := by
  unfold steleref15_MaySet.f maySetI standsB; rw [rright_eq, ractive_eq, rcovers_eq]; simp only [Option.bind_some, steleref15_MaySet.j0]
  cases rightB tm tu n <;> cases activeB om ou n <;> cases coversB tm tu om ou <;> cases b <;> by_cases g : om = 2 <;> simp [g]
theorem LockSets : stelelaw15_LockSets.Pure := by
  intro x0 x1 x2 x3 _ _ _
  refine ⟨1, ?_⟩
  unfold stelelaw15_LockSets.f
  rw [mayset_eq, rmayset_eq, alive_true]
  simp
end Go.Proofs.Ytbdmpeekhlmebaa.Pure
