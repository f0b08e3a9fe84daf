/- Part of the proofs of this seat: PureRecordsReads. -/
import Derived.OpenShut
import Derived.Test.YtlnpmodhejakiaaYDefRecordsReads
namespace Go.Proofs.Ytlnpmodhejakiaa.Pure
open Go.RowKit Go.Proofs.YtlnpmodhejakiaaW.PrintWords Go.Proofs.YtlnpmodhejakiaaW.PrintLast Go.Proofs.YtlnpmodhejakiaaW.PrintMore Go.Proofs.Ytlnpmodhejakiaa.PQ Go.Proofs.Ytlnpmodhejakiaa.D
set_option linter.unusedVariables false
theorem RecordsReads : stelelaw19_RecordsReads.Pure := by
  intro b h0
  unfold stelelaw19_RecordsReads.f
  rw [if_pos ⟨by have := h0.1; omega, (fun y hy => bounds_u8 (h0.2 y hy))⟩]
end Go.Proofs.Ytlnpmodhejakiaa.Pure
