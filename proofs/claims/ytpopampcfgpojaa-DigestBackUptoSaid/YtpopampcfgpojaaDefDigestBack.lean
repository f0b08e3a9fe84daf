-- written by the workplace's driver round the kit's printer (wip/tools/myprint.py)
import Derived.Test.YtpopampcfgpojaaPHx3
import Derived.Test.YtpopampcfgpojaaPHxK
namespace Go.Proofs.Ytpopampcfgpojaa.PH
open Go.RowKit Go.Proofs.YtpopampcfgpojaaW.PrintWords Go.Proofs.YtpopampcfgpojaaW.PrintLast Go.Proofs.YtpopampcfgpojaaW.PrintMore Go.Proofs.Ytpopampcfgpojaa.Opn Go.Proofs.Ytpopampcfgpojaa.PH Go.Proofs.Ytpopampcfgpojaa.PG
def stelelaw01_DigestBack.Pure : Prop := ∀ (x0 : List Int) (x1 : ByteArray), (x0.length * 1 ≤ 140737488351232 ∧ ∀ y ∈ x0, (Lit.int .u8 y).wf = true) → x1.size ≤ 140737488351232 → ((x0.map (fun y => 1)).sum + 1) + ((x1.size + 1)) ≤ 1048576 → ∃ k, stelelaw01_DigestBack.f k x0 x1 = some true
end Go.Proofs.Ytpopampcfgpojaa.PH
