-- written by the workplace's driver round the kit's printer (wip/tools/myprint.py)
import Derived.Test.YtlnpmodhejakiaaLawP
import Derived.Test.YtlnpmodhejakiaaPHxK
namespace Go.Proofs.Ytlnpmodhejakiaa.PH
open Go.RowKit Go.Proofs.YtlnpmodhejakiaaW.PrintWords Go.Proofs.YtlnpmodhejakiaaW.PrintLast Go.Proofs.YtlnpmodhejakiaaW.PrintMore Go.Proofs.Ytlnpmodhejakiaa.Opn Go.Proofs.Ytlnpmodhejakiaa.PH Go.Proofs.Ytlnpmodhejakiaa.D
def stelelaw01_DigestParts.Pure : Prop := ∀ (x0 : List (List Int)), (x0.length * 24 ≤ 140737488351232 ∧ ∀ y ∈ x0, (y.length * 1 ≤ 140737488351232 ∧ ∀ z ∈ y, (Lit.int .u8 z).wf = true)) → stelelaw01_DigestParts.f x0 = some true
end Go.Proofs.Ytlnpmodhejakiaa.PH
