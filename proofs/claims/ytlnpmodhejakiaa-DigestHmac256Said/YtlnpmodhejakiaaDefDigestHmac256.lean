-- written by the workplace's driver round the kit's printer (wip/tools/myprint.py)
import Derived.Test.YtlnpmodhejakiaaLawD
import Derived.Test.YtlnpmodhejakiaaPHxK
namespace Go.Proofs.Ytlnpmodhejakiaa.PH
open Go.RowKit Go.Proofs.YtlnpmodhejakiaaW.PrintWords Go.Proofs.YtlnpmodhejakiaaW.PrintLast Go.Proofs.YtlnpmodhejakiaaW.PrintMore Go.Proofs.Ytlnpmodhejakiaa.Opn Go.Proofs.Ytlnpmodhejakiaa.PH Go.Proofs.Ytlnpmodhejakiaa.D
def stelelaw01_DigestHmac256.Pure : Prop := ∀ (x0 : List Int) (x1 : List Int), (x0.length * 1 ≤ 140737488351232 ∧ ∀ y ∈ x0, (Lit.int .u8 y).wf = true) → (x1.length * 1 ≤ 140737488351232 ∧ ∀ y ∈ x1, (Lit.int .u8 y).wf = true) → stelelaw01_DigestHmac256.f x0 x1 = some true
end Go.Proofs.Ytlnpmodhejakiaa.PH
