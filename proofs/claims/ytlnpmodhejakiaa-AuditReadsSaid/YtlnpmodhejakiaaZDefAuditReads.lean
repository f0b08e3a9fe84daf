/- Part of the proofs of this seat: DefAuditReads. -/
import Derived.Test.YtlnpmodhejakiaaZMc
import Derived.Test.YtlnpmodhejakiaaZPVxK
import Derived.Test.YtlnpmodhejakiaaZWb
import Derived.Test.YtlnpmodhejakiaaZCanAb
import Derived.Test.YtlnpmodhejakiaaZCanBb
import Derived.Test.YtlnpmodhejakiaaZAudPb
import Derived.Test.YtlnpmodhejakiaaZAudBb
namespace Go.Proofs.Ytlnpmodhejakiaa.PV
open Go.RowKit Go.Proofs.YtlnpmodhejakiaaW.PrintWords Go.Proofs.YtlnpmodhejakiaaW.PrintLast Go.Proofs.YtlnpmodhejakiaaW.PrintMore Go.Proofs.Ytlnpmodhejakiaa.Opn Go.Proofs.Ytlnpmodhejakiaa.PV Go.Proofs.Ytlnpmodhejakiaa.D Go.Proofs.Ytlnpmodhejakiaa.AV
set_option linter.unusedVariables false
def stelelaw14_AuditReads.Pure : Prop := ∀ (x0 : List Int), (x0.length * 1 ≤ 140737488351232 ∧ ∀ y ∈ x0, (Lit.int .u8 y).wf = true) → stelelaw14_AuditReads.f x0 = some true
end Go.Proofs.Ytlnpmodhejakiaa.PV
