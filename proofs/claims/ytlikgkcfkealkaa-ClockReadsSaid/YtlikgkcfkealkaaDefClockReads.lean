-- written by the workplace's driver round the kit's printer (wip/tools/myprint.py)
import Derived.Test.YtlikgkcfkealkaaPRx2
import Derived.Test.YtlikgkcfkealkaaPRxK
namespace Go.Proofs.Ytlikgkcfkealkaa.PR
open Go.RowKit Go.Proofs.YtlikgkcfkealkaaW.PrintWords Go.Proofs.YtlikgkcfkealkaaW.PrintLast Go.Proofs.YtlikgkcfkealkaaW.PrintMore Go.Proofs.Ytlikgkcfkealkaa.Opn Go.Proofs.Ytlikgkcfkealkaa.PR Go.Proofs.Ytlikgkcfkealkaa.PC
def stelelaw03_ClockReads.Pure : Prop := ∀ (x0 : ByteArray), x0.size ≤ 140737488351232 → ∃ k, stelelaw03_ClockReads.f k x0 = some true
end Go.Proofs.Ytlikgkcfkealkaa.PR
