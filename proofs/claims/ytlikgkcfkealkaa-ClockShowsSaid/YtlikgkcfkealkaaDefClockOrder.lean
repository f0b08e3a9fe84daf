-- written by the workplace's driver round the kit's printer (wip/tools/myprint.py)
import Derived.Test.YtlikgkcfkealkaaPSx2
import Derived.Test.YtlikgkcfkealkaaPSxK
namespace Go.Proofs.Ytlikgkcfkealkaa.PS
open Go.RowKit Go.Proofs.YtlikgkcfkealkaaW.PrintWords Go.Proofs.YtlikgkcfkealkaaW.PrintLast Go.Proofs.YtlikgkcfkealkaaW.PrintMore Go.Proofs.Ytlikgkcfkealkaa.Opn Go.Proofs.Ytlikgkcfkealkaa.PS Go.Proofs.Ytlikgkcfkealkaa.PC
def stelelaw03_ClockOrder.Pure : Prop := ∀ (x0 : Int) (x1 : Int), (Lit.int .u64 x0).wf = true → (Lit.int .u64 x1).wf = true → stelelaw03_ClockOrder.f x0 x1 = some true
end Go.Proofs.Ytlikgkcfkealkaa.PS
