-- written by the workplace's driver round the kit's printer (wip/tools/myprint.py)
import Derived.Test.YtbdmpeekhlmebaaPDx2
import Derived.Test.YtbdmpeekhlmebaaPDxK
namespace Go.Proofs.Ytbdmpeekhlmebaa.PD
open Go.RowKit Go.Proofs.YtbdmpeekhlmebaaW.PrintWords Go.Proofs.YtbdmpeekhlmebaaW.PrintLast Go.Proofs.YtbdmpeekhlmebaaW.PrintMore Go.Proofs.Ytbdmpeekhlmebaa.Opn Go.Proofs.Ytbdmpeekhlmebaa.PD
def stelelaw15_LockDefaults.Pure : Prop := ∀ (x0 : S43) (x1 : Int), ok43 x0 → (Lit.int .u64 x1).wf = true → ∃ k, stelelaw15_LockDefaults.f k x0.f0 x0.f1 x0.f2 x0.f3 x0.f4 x0.f5 x0.f6 x0.f7 x0.f8 x1 = some true
end Go.Proofs.Ytbdmpeekhlmebaa.PD
