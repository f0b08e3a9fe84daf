/- Part of the proofs of this seat: DefAuditVerifies. -/
import Derived.Test.YtlnpmodhejakiaaZLawV
import Derived.Test.YtlnpmodhejakiaaZPVxK
namespace Go.Proofs.Ytlnpmodhejakiaa.PV
open Go.RowKit Go.Proofs.YtlnpmodhejakiaaW.PrintWords Go.Proofs.YtlnpmodhejakiaaW.PrintLast Go.Proofs.YtlnpmodhejakiaaW.PrintMore Go.Proofs.Ytlnpmodhejakiaa.Opn Go.Proofs.Ytlnpmodhejakiaa.PV Go.Proofs.Ytlnpmodhejakiaa.D Go.Proofs.Ytlnpmodhejakiaa.AV
set_option linter.unusedVariables false
def stelelaw14_AuditVerifies.Pure : Prop := ∀ (x0 : List (S69)) (x1 : List Int), (x0.length * 136 ≤ 140737488351232 ∧ ∀ y ∈ x0, ok69 y) → (x1.length * 1 ≤ 140737488351232 ∧ ∀ y ∈ x1, (Lit.int .u8 y).wf = true) → stelelaw14_AuditVerifies.f x0 x1 = some true
end Go.Proofs.Ytlnpmodhejakiaa.PV
