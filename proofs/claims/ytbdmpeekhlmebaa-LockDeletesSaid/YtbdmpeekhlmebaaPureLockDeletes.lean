/- The plain law of LockDeletes: the printed function of the law answers true, for every value of its parameters that the row lets in. -/
import Derived.Test.YtbdmpeekhlmebaaDefLockDeletes
import Derived.Test.YtbdmpeekhlmebaaLockA
namespace Go.Proofs.Ytbdmpeekhlmebaa.Pure
open Go.RowKit Go.Proofs.YtbdmpeekhlmebaaW.PrintWords Go.Proofs.YtbdmpeekhlmebaaW.PrintLast Go.Proofs.YtbdmpeekhlmebaaW.PrintMore Go.Proofs.Ytbdmpeekhlmebaa.Opn Go.Proofs.Ytbdmpeekhlmebaa.P
set_option linter.unusedVariables false
set_option linter.unusedSimpArgs false

theorem maydelete_eq (a0 a1 : ByteArray) (a2 a3 : Int) (a4 : Bool) (l5 : List Int) (m u : Int) (h : Bool) (t n : Int) (b : Bool) :
    lock_MayDelete.f a0 a1 a2 a3 a4 l5 m u h t n b = some (if h then 38 else if standsB m u n b then 37 else 0) := by
  unfold lock_MayDelete.f; rw [stands_eq]; simp only [Option.bind_some]
  cases h <;> cases standsB m u n b <;> rfl
theorem rmaydelete_eq (a0 a1 : ByteArray) (a2 a3 : Int) (a4 : Bool) (l5 : List Int) (m u : Int) (h : Bool) (t n : Int) (b : Bool) :
    steleref15_MayDelete.f a0 a1 a2 a3 a4 l5 m u h t n b = some (if h then 38 else if standsB m u n b then 37 else 0) := by
  unfold steleref15_MayDelete.f standsB; rw [ractive_eq]; simp only [Option.bind_some]
  cases h <;> cases activeB m u n <;> cases b <;> by_cases g : m = 2 <;> simp [g]
theorem LockDeletes : stelelaw15_LockDeletes.Pure := by
  intro x0 x1 x2 _ _
  unfold stelelaw15_LockDeletes.f
  rw [maydelete_eq, rmaydelete_eq, alive_true]
  simp
end Go.Proofs.Ytbdmpeekhlmebaa.Pure
