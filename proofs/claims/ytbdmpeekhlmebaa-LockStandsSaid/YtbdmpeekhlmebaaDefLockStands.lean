-- written by the workplace's driver round the kit's printer (wip/tools/myprint.py)
import Derived.Test.YtbdmpeekhlmebaaPx7
import Derived.Test.YtbdmpeekhlmebaaPxK
namespace Go.Proofs.Ytbdmpeekhlmebaa.P
open Go.RowKit Go.Proofs.YtbdmpeekhlmebaaW.PrintWords Go.Proofs.YtbdmpeekhlmebaaW.PrintLast Go.Proofs.YtbdmpeekhlmebaaW.PrintMore Go.Proofs.Ytbdmpeekhlmebaa.Opn Go.Proofs.Ytbdmpeekhlmebaa.P
def stelelaw15_LockStands.Pure : Prop := ∀ (x0 : S24) (x1 : Int) (x2 : List (S40)), ok24 x0 → (Lit.int .u64 x1).wf = true → (x2.length * 32 ≤ 140737488351232 ∧ ∀ y ∈ x2, ok40 y) → ∃ k, stelelaw15_LockStands.f k x0.f0 x0.f1 x1 x2 = some true
end Go.Proofs.Ytbdmpeekhlmebaa.P
