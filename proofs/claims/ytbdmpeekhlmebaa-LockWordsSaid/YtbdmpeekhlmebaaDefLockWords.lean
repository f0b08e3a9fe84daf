-- written by the workplace's driver round the kit's printer (wip/tools/myprint.py)
import Derived.Test.YtbdmpeekhlmebaaPx3
import Derived.Test.YtbdmpeekhlmebaaPxK
namespace Go.Proofs.Ytbdmpeekhlmebaa.P
open Go.RowKit Go.Proofs.YtbdmpeekhlmebaaW.PrintWords Go.Proofs.YtbdmpeekhlmebaaW.PrintLast Go.Proofs.YtbdmpeekhlmebaaW.PrintMore Go.Proofs.Ytbdmpeekhlmebaa.Opn Go.Proofs.Ytbdmpeekhlmebaa.P
def stelelaw15_LockWords.Pure : Prop := ∀ (x0 : S24) (x1 : S24) (x2 : Int), ok24 x0 → ok24 x1 → (Lit.int .u64 x2).wf = true → stelelaw15_LockWords.f x0.f0 x0.f1 x1.f0 x1.f1 x2 = some true
end Go.Proofs.Ytbdmpeekhlmebaa.P
