-- written by the workplace's driver round the kit's printer (wip/tools/myprint.py)
import Derived.Test.YtlikgkcfkealkaaPLx1
import Derived.Test.YtlikgkcfkealkaaPLxK
namespace Go.Proofs.Ytlikgkcfkealkaa.PL
open Go.RowKit Go.Proofs.YtlikgkcfkealkaaW.PrintWords Go.Proofs.YtlikgkcfkealkaaW.PrintLast Go.Proofs.YtlikgkcfkealkaaW.PrintMore Go.Proofs.Ytlikgkcfkealkaa.Opn Go.Proofs.Ytlikgkcfkealkaa.PL
def stelelaw03_ClockLater.Pure : Prop := ∀ (x0 : Int) (x1 : Int) (x2 : Int) (x3 : Int) (x4 : Int), (Lit.int .u64 x0).wf = true → (Lit.int .i64 x1).wf = true → (Lit.int .u64 x2).wf = true → (Lit.int .u64 x3).wf = true → (Lit.int .u64 x4).wf = true → ∃ k, stelelaw03_ClockLater.f k x0 x1 x2 x3 x4 = some true
end Go.Proofs.Ytlikgkcfkealkaa.PL
