/- Part of the proofs of this seat: PureAuditShows. -/
import Derived.OpenShut
import Derived.Test.YtlnpmodhejakiaaZDefAuditShows
namespace Go.Proofs.Ytlnpmodhejakiaa.Pure
open Go.RowKit Go.Proofs.YtlnpmodhejakiaaW.PrintWords Go.Proofs.YtlnpmodhejakiaaW.PrintLast Go.Proofs.YtlnpmodhejakiaaW.PrintMore Go.Proofs.Ytlnpmodhejakiaa.PV Go.Proofs.Ytlnpmodhejakiaa.AV
set_option linter.unusedVariables false
theorem okw_of (x : S69) (h : ok69 x) : okW ⟨x.f0, x.f1, x.f2, x.f3, x.f4, x.f5, x.f6, x.f7, x.f8, x.f9⟩ := by
  obtain ⟨h0, h1, h2, h3, h4, h5, h6, h7, h8, h9⟩ := h
  have q0 := bounds_u64 h0
  have q1 := bounds_u64 h1
  have q6 := bounds_u64 h6
  have q3 := bounds_i64 h3
  have q7 := bounds_i64 h7
  have l8 := h8.1
  have l9 := h9.1
  exact ⟨q0, q1, q6, q3, q7, ⟨by show x.f2.size ≤ _; omega, by show x.f4.size ≤ _; omega, by show x.f5.size ≤ _; omega, by show x.f8.length ≤ _; omega, by show x.f9.length ≤ _; omega⟩, (fun y hy => bounds_u8 (h8.2 y hy)), (fun y hy => bounds_u8 (h9.2 y hy))⟩
theorem AuditShows : stelelaw14_AuditShows.Pure := by
  intro x0 x1 x2 h0 h1 h2
  unfold stelelaw14_AuditShows.f
  rw [if_pos ⟨okw_of x0 h0, okw_of x1 h1, okw_of x2 h2⟩]
end Go.Proofs.Ytlnpmodhejakiaa.Pure
