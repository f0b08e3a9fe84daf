/- Part of the proofs of this seat: DefAuditChains. -/
import Derived.Test.YtlnpmodhejakiaaZChx1
import Derived.Test.YtlnpmodhejakiaaZPVxK
import Derived.Test.YtlnpmodhejakiaaZWb
import Derived.Test.YtlnpmodhejakiaaZPVx0b
import Derived.Test.YtlnpmodhejakiaaZPAx0b
import Derived.Test.YtlnpmodhejakiaaZAudPb
import Derived.Test.YtlnpmodhejakiaaZAudBb
namespace Go.Proofs.Ytlnpmodhejakiaa.PV
open Go.RowKit Go.Proofs.YtlnpmodhejakiaaW.PrintWords Go.Proofs.YtlnpmodhejakiaaW.PrintLast Go.Proofs.YtlnpmodhejakiaaW.PrintMore Go.Proofs.Ytlnpmodhejakiaa.Opn Go.Proofs.Ytlnpmodhejakiaa.PV Go.Proofs.Ytlnpmodhejakiaa.D Go.Proofs.Ytlnpmodhejakiaa.PC Go.Proofs.Ytlnpmodhejakiaa.AV Go.Proofs.Ytlnpmodhejakiaa.PV
set_option linter.unusedVariables false
def stelelaw14_AuditChains.Pure : Prop := ∀ (x0 : List (S69)), (x0.length * 136 ≤ 140737488351232 ∧ ∀ y ∈ x0, ok69 y) → ∃ k, stelelaw14_AuditChains.f k x0 = some true
end Go.Proofs.Ytlnpmodhejakiaa.PV
