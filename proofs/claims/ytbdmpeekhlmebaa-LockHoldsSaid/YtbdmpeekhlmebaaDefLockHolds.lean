-- written by the workplace's driver round the kit's printer (wip/tools/myprint.py)
import Derived.Test.YtbdmpeekhlmebaaPx8
import Derived.Test.YtbdmpeekhlmebaaPxK
namespace Go.Proofs.Ytbdmpeekhlmebaa.P
open Go.RowKit Go.Proofs.YtbdmpeekhlmebaaW.PrintWords Go.Proofs.YtbdmpeekhlmebaaW.PrintLast Go.Proofs.YtbdmpeekhlmebaaW.PrintMore Go.Proofs.Ytbdmpeekhlmebaa.Opn Go.Proofs.Ytbdmpeekhlmebaa.P
def stelelaw15_LockHolds.Pure : Prop := ∀ (x0 : S35) (x1 : Int) (x2 : Bool), ok35 x0 → (Lit.int .u64 x1).wf = true → stelelaw15_LockHolds.f x0.f0 x0.f1 x0.f2 x0.f3 x0.f4 x0.f5 x0.f6.f0 x0.f6.f1 x0.f7 x0.f8 x1 x2 = some true
end Go.Proofs.Ytbdmpeekhlmebaa.P
