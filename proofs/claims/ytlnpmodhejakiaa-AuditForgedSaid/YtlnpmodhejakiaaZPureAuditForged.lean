/- Part of the proofs of this seat: PureAuditForged. -/
import Derived.OpenShut
import Derived.Test.YtlnpmodhejakiaaZDefAuditForged
import Derived.Test.YtlnpmodhejakiaaZWb
import Derived.Test.YtlnpmodhejakiaaZShab
import Derived.Test.YtlnpmodhejakiaaZAudBb
import Derived.Test.YtlnpmodhejakiaaZAudRb
namespace Go.Proofs.Ytlnpmodhejakiaa.Pure
open Go.RowKit Go.Proofs.YtlnpmodhejakiaaW.PrintWords Go.Proofs.YtlnpmodhejakiaaW.PrintLast Go.Proofs.YtlnpmodhejakiaaW.PrintMore Go.Proofs.Ytlnpmodhejakiaa.PV Go.Proofs.Ytlnpmodhejakiaa.AV
set_option linter.unusedVariables false
theorem raw_ofF {y : S69} (h : ok69 y) : rawX y := by
  obtain ⟨h0, h1, h2, h3, h4, h5, h6, h7, h8, h9⟩ := h
  have l8 := h8.1
  have l9 := h9.1
  exact ⟨bounds_u64 h0, bounds_u64 h1, bounds_u64 h6, bounds_i64 h3, bounds_i64 h7, ⟨by omega, by omega, by omega, by omega, by omega⟩, (fun y hy => bounds_u8 (h8.2 y hy)), (fun y hy => bounds_u8 (h9.2 y hy))⟩
theorem AuditForged : stelelaw14_AuditForged.Pure := by
  intro a b hd h0 h1 h2
  unfold stelelaw14_AuditForged.f
  rw [if_pos ⟨by have := h0.1; omega, (fun y hy => raw_ofF (h0.2 y hy)), by have := h1.1; omega, (fun y hy => raw_ofF (h1.2 y hy)), (fun y hy => bounds_u8 (h2.2 y hy))⟩]
end Go.Proofs.Ytlnpmodhejakiaa.Pure
