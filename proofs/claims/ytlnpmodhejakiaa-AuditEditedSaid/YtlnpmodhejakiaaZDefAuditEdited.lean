/- Part of the proofs of this seat: DefAuditEdited. -/
import Derived.Test.YtlnpmodhejakiaaZLawE
import Derived.Test.YtlnpmodhejakiaaZPVxK
import Derived.Test.YtlnpmodhejakiaaZWb
import Derived.Test.YtlnpmodhejakiaaZShab
import Derived.Test.YtlnpmodhejakiaaZAudBb
import Derived.Test.YtlnpmodhejakiaaZAudRb
namespace Go.Proofs.Ytlnpmodhejakiaa.PV
open Go.RowKit Go.Proofs.YtlnpmodhejakiaaW.PrintWords Go.Proofs.YtlnpmodhejakiaaW.PrintLast Go.Proofs.YtlnpmodhejakiaaW.PrintMore Go.Proofs.Ytlnpmodhejakiaa.Opn Go.Proofs.Ytlnpmodhejakiaa.PV Go.Proofs.Ytlnpmodhejakiaa.D Go.Proofs.Ytlnpmodhejakiaa.AV
set_option linter.unusedVariables false
def stelelaw14_AuditEdited.Pure : Prop := ∀ (x0 : List (S69)) (x1 : Int) (x2 : Int) (x3 : S69), (x0.length * 136 ≤ 140737488351232 ∧ ∀ y ∈ x0, ok69 y) → (Lit.int .i64 x1).wf = true → (Lit.int .i64 x2).wf = true → ok69 x3 → stelelaw14_AuditEdited.f x0 x1 x2 x3.f0 x3.f1 x3.f2 x3.f3 x3.f4 x3.f5 x3.f6 x3.f7 x3.f8 x3.f9 = some true
end Go.Proofs.Ytlnpmodhejakiaa.PV
