-- written by the workplace's driver round the kit's printer (wip/tools/myprint.py)
import Derived.Test.YtlikgkcfkealkaaPSx1
import Derived.Test.YtlikgkcfkealkaaPSxK
namespace Go.Proofs.Ytlikgkcfkealkaa.PS
open Go.RowKit Go.Proofs.YtlikgkcfkealkaaW.PrintWords Go.Proofs.YtlikgkcfkealkaaW.PrintLast Go.Proofs.YtlikgkcfkealkaaW.PrintMore Go.Proofs.Ytlikgkcfkealkaa.Opn Go.Proofs.Ytlikgkcfkealkaa.PS Go.Proofs.Ytlikgkcfkealkaa.PC
def stelelaw03_ClockShows.Pure : Prop := ∀ (x0 : Int), (Lit.int .u64 x0).wf = true → ∃ k, stelelaw03_ClockShows.f k x0 = some true
end Go.Proofs.Ytlikgkcfkealkaa.PS
