/- Part of the proofs of this seat: PureAuditReads. -/
import Derived.OpenShut
import Derived.Test.YtlnpmodhejakiaaZDefAuditReads
import Derived.Test.YtlnpmodhejakiaaZWb
import Derived.Test.YtlnpmodhejakiaaZCanAb
import Derived.Test.YtlnpmodhejakiaaZCanBb
import Derived.Test.YtlnpmodhejakiaaZAudPb
import Derived.Test.YtlnpmodhejakiaaZAudBb
namespace Go.Proofs.Ytlnpmodhejakiaa.Pure
open Go.RowKit Go.Proofs.YtlnpmodhejakiaaW.PrintWords Go.Proofs.YtlnpmodhejakiaaW.PrintLast Go.Proofs.YtlnpmodhejakiaaW.PrintMore Go.Proofs.Ytlnpmodhejakiaa.PV Go.Proofs.Ytlnpmodhejakiaa.AV
set_option linter.unusedVariables false
theorem AuditReads : stelelaw14_AuditReads.Pure := by
  intro b h0
  unfold stelelaw14_AuditReads.f
  rw [if_pos ⟨by have := h0.1; omega, (fun y hy => bounds_u8 (h0.2 y hy))⟩]
end Go.Proofs.Ytlnpmodhejakiaa.Pure
