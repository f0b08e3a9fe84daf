/- Part of the proofs of this seat: DefAuditNexts. -/
import Derived.Test.YtlnpmodhejakiaaZLawN
import Derived.Test.YtlnpmodhejakiaaZPVxK
import Derived.Test.YtlnpmodhejakiaaZWb
import Derived.Test.YtlnpmodhejakiaaZPVx0b
import Derived.Test.YtlnpmodhejakiaaZPAx0b
import Derived.Test.YtlnpmodhejakiaaZAudPb
import Derived.Test.YtlnpmodhejakiaaZAudBb
import Derived.Test.YtlnpmodhejakiaaZAudNb
namespace Go.Proofs.Ytlnpmodhejakiaa.PV
open Go.RowKit Go.Proofs.YtlnpmodhejakiaaW.PrintWords Go.Proofs.YtlnpmodhejakiaaW.PrintLast Go.Proofs.YtlnpmodhejakiaaW.PrintMore Go.Proofs.Ytlnpmodhejakiaa.Opn Go.Proofs.Ytlnpmodhejakiaa.PV Go.Proofs.Ytlnpmodhejakiaa.D Go.Proofs.Ytlnpmodhejakiaa.AV
set_option linter.unusedVariables false
def stelelaw14_AuditNexts.Pure : Prop := ∀ (x0 : List (S69)) (x1 : S69), (x0.length * 136 ≤ 140737488351232 ∧ ∀ y ∈ x0, ok69 y) → ok69 x1 → stelelaw14_AuditNexts.f x0 x1.f0 x1.f1 x1.f2 x1.f3 x1.f4 x1.f5 x1.f6 x1.f7 x1.f8 x1.f9 = some true
end Go.Proofs.Ytlnpmodhejakiaa.PV
