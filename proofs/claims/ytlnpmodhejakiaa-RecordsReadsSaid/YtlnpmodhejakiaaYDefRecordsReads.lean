/- Part of the proofs of this seat: DefRecordsReads. -/
import Derived.Test.YtlnpmodhejakiaaYLawRr
import Derived.Test.YtlnpmodhejakiaaYPQxK
namespace Go.Proofs.Ytlnpmodhejakiaa.PQ
open Go.RowKit Go.Proofs.YtlnpmodhejakiaaW.PrintWords Go.Proofs.YtlnpmodhejakiaaW.PrintLast Go.Proofs.YtlnpmodhejakiaaW.PrintMore Go.Proofs.Ytlnpmodhejakiaa.Opn Go.Proofs.Ytlnpmodhejakiaa.PQ Go.Proofs.Ytlnpmodhejakiaa.D
set_option linter.unusedVariables false
def stelelaw19_RecordsReads.Pure : Prop := ∀ (x0 : List Int), (x0.length * 1 ≤ 140737488351232 ∧ ∀ y ∈ x0, (Lit.int .u8 y).wf = true) → stelelaw19_RecordsReads.f x0 = some true
end Go.Proofs.Ytlnpmodhejakiaa.PQ
