/- Part of the proofs of this seat: DefAuditForged. -/
import Derived.Test.YtlnpmodhejakiaaZMk
import Derived.Test.YtlnpmodhejakiaaZPVxK
import Derived.Test.YtlnpmodhejakiaaZWb
import Derived.Test.YtlnpmodhejakiaaZShab
import Derived.Test.YtlnpmodhejakiaaZAudBb
import Derived.Test.YtlnpmodhejakiaaZAudRb
namespace Go.Proofs.Ytlnpmodhejakiaa.PV
open Go.RowKit Go.Proofs.YtlnpmodhejakiaaW.PrintWords Go.Proofs.YtlnpmodhejakiaaW.PrintLast Go.Proofs.YtlnpmodhejakiaaW.PrintMore Go.Proofs.Ytlnpmodhejakiaa.Opn Go.Proofs.Ytlnpmodhejakiaa.PV Go.Proofs.Ytlnpmodhejakiaa.D Go.Proofs.Ytlnpmodhejakiaa.AV
set_option linter.unusedVariables false
def stelelaw14_AuditForged.Pure : Prop := ∀ (x0 : List (S69)) (x1 : List (S69)) (x2 : List Int), (x0.length * 136 ≤ 140737488351232 ∧ ∀ y ∈ x0, ok69 y) → (x1.length * 136 ≤ 140737488351232 ∧ ∀ y ∈ x1, ok69 y) → (x2.length * 1 ≤ 140737488351232 ∧ ∀ y ∈ x2, (Lit.int .u8 y).wf = true) → stelelaw14_AuditForged.f x0 x1 x2 = some true
end Go.Proofs.Ytlnpmodhejakiaa.PV
