-- written by the workplace's driver round the kit's printer (wip/tools/myprint.py)
import Derived.Test.YtlikgkcfkealkaaPSx2
import Derived.Test.YtlikgkcfkealkaaPSxK
namespace Go.Proofs.Ytlikgkcfkealkaa.PS
open Go.RowKit Go.Proofs.YtlikgkcfkealkaaW.PrintWords Go.Proofs.YtlikgkcfkealkaaW.PrintLast Go.Proofs.YtlikgkcfkealkaaW.PrintMore Go.Proofs.Ytlikgkcfkealkaa.Opn Go.Proofs.Ytlikgkcfkealkaa.PS Go.Proofs.Ytlikgkcfkealkaa.PC
def stelelaw03_ClockBack.Pure : Prop := ∀ (x0 : Int) (x1 : ByteArray), (Lit.int .u64 x0).wf = true → x1.size ≤ 140737488351232 → ∃ k, stelelaw03_ClockBack.f k x0 x1 = some true
end Go.Proofs.Ytlikgkcfkealkaa.PS
