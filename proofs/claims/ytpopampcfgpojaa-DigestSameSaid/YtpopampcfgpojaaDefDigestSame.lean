-- written by the workplace's driver round the kit's printer (wip/tools/myprint.py)
import Derived.Test.YtpopampcfgpojaaPSx1
import Derived.Test.YtpopampcfgpojaaPSxK
namespace Go.Proofs.Ytpopampcfgpojaa.PS
open Go.RowKit Go.Proofs.YtpopampcfgpojaaW.PrintWords Go.Proofs.YtpopampcfgpojaaW.PrintLast Go.Proofs.YtpopampcfgpojaaW.PrintMore Go.Proofs.Ytpopampcfgpojaa.Opn Go.Proofs.Ytpopampcfgpojaa.PS
def stelelaw01_DigestSame.Pure : Prop := ∀ (x0 : List Int) (x1 : List Int), (x0.length * 1 ≤ 140737488351232 ∧ ∀ y ∈ x0, (Lit.int .u8 y).wf = true) → (x1.length * 1 ≤ 140737488351232 ∧ ∀ y ∈ x1, (Lit.int .u8 y).wf = true) → ∃ k, stelelaw01_DigestSame.f k x0 x1 = some true
end Go.Proofs.Ytpopampcfgpojaa.PS
