/- Part of the proofs of this seat: DefAuditBack. -/
import Derived.Test.YtlnpmodhejakiaaZLawBk
import Derived.Test.YtlnpmodhejakiaaZPVxK
namespace Go.Proofs.Ytlnpmodhejakiaa.PV
open Go.RowKit Go.Proofs.YtlnpmodhejakiaaW.PrintWords Go.Proofs.YtlnpmodhejakiaaW.PrintLast Go.Proofs.YtlnpmodhejakiaaW.PrintMore Go.Proofs.Ytlnpmodhejakiaa.Opn Go.Proofs.Ytlnpmodhejakiaa.PV Go.Proofs.Ytlnpmodhejakiaa.D Go.Proofs.Ytlnpmodhejakiaa.AV
set_option linter.unusedVariables false
def stelelaw14_AuditBack.Pure : Prop := ∀ (x0 : S69) (x1 : List Int), ok69 x0 → (x1.length * 1 ≤ 140737488351232 ∧ ∀ y ∈ x1, (Lit.int .u8 y).wf = true) → stelelaw14_AuditBack.f x0.f0 x0.f1 x0.f2 x0.f3 x0.f4 x0.f5 x0.f6 x0.f7 x0.f8 x0.f9 x1 = some true
end Go.Proofs.Ytlnpmodhejakiaa.PV
