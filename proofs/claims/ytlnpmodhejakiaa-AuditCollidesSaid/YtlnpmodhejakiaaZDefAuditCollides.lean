/- Part of the proofs of this seat: DefAuditCollides. -/
import Derived.Test.YtlnpmodhejakiaaZLawCo
import Derived.Test.YtlnpmodhejakiaaZPVxK
import Derived.Test.YtlnpmodhejakiaaZWb
import Derived.Test.YtlnpmodhejakiaaZShab
import Derived.Test.YtlnpmodhejakiaaZAudBb
import Derived.Test.YtlnpmodhejakiaaZAudRb
namespace Go.Proofs.Ytlnpmodhejakiaa.PV
open Go.RowKit Go.Proofs.YtlnpmodhejakiaaW.PrintWords Go.Proofs.YtlnpmodhejakiaaW.PrintLast Go.Proofs.YtlnpmodhejakiaaW.PrintMore Go.Proofs.Ytlnpmodhejakiaa.Opn Go.Proofs.Ytlnpmodhejakiaa.PV Go.Proofs.Ytlnpmodhejakiaa.D Go.Proofs.Ytlnpmodhejakiaa.AV
set_option linter.unusedVariables false
def stelelaw14_AuditCollides.Pure : Prop := ∀ (x0 : List (S69)) (x1 : List (S69)), (x0.length * 136 ≤ 140737488351232 ∧ ∀ y ∈ x0, ok69 y) → (x1.length * 136 ≤ 140737488351232 ∧ ∀ y ∈ x1, ok69 y) → stelelaw14_AuditCollides.f x0 x1 = some true
end Go.Proofs.Ytlnpmodhejakiaa.PV
