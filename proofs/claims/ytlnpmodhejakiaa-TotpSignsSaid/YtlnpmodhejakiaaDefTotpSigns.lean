-- written by the workplace's driver round the kit's printer (wip/tools/myprint.py)
import Derived.Test.YtlnpmodhejakiaaPTx3
import Derived.Test.YtlnpmodhejakiaaPTxK
namespace Go.Proofs.Ytlnpmodhejakiaa.PT
open Go.RowKit Go.Proofs.YtlnpmodhejakiaaW.PrintWords Go.Proofs.YtlnpmodhejakiaaW.PrintLast Go.Proofs.YtlnpmodhejakiaaW.PrintMore Go.Proofs.Ytlnpmodhejakiaa.Opn Go.Proofs.Ytlnpmodhejakiaa.PT Go.Proofs.Ytlnpmodhejakiaa.D Go.Proofs.Ytlnpmodhejakiaa.T
set_option linter.unusedVariables false
def stelelaw07_TotpSigns.Pure : Prop := ∀ (x0 : List Int) (x1 : ByteArray), (x0.length * 1 ≤ 140737488351232 ∧ ∀ y ∈ x0, (Lit.int .u8 y).wf = true) → x1.size ≤ 140737488351232 → ∃ k, stelelaw07_TotpSigns.f k x0 x1 = some true
end Go.Proofs.Ytlnpmodhejakiaa.PT
