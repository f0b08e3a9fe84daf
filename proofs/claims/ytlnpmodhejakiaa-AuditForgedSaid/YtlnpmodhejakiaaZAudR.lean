/- What the audit's laws share: what came in, and light. -/
import Derived.Test.YtlnpmodhejakiaaZAudB
namespace Go.Proofs.Ytlnpmodhejakiaa.AV
open Go.RowKit Go.Proofs.YtlnpmodhejakiaaW.PrintWords Go.Proofs.YtlnpmodhejakiaaW.PrintLast Go.Proofs.YtlnpmodhejakiaaW.PrintMore Go.Proofs.Ytlnpmodhejakiaa.Sha Go.Proofs.Ytlnpmodhejakiaa.D Go.Proofs.Ytlnpmodhejakiaa.PC Go.Proofs.Ytlnpmodhejakiaa.CP Go.Proofs.Ytlnpmodhejakiaa.PV
set_option linter.unusedVariables false
set_option linter.unusedSimpArgs false
def raw (f0 f1 : Int) (f2 : ByteArray) (f3 : Int) (f4 f5 : ByteArray) (f6 f7 : Int) (f8 f9 : List Int) : Prop :=
  (0 ≤ f0 ∧ f0 ≤ 18446744073709551615) ∧ (0 ≤ f1 ∧ f1 ≤ 18446744073709551615) ∧ (0 ≤ f6 ∧ f6 ≤ 18446744073709551615) ∧ (-9223372036854775808 ≤ f3 ∧ f3 ≤ 9223372036854775807) ∧ (-9223372036854775808 ≤ f7 ∧ f7 ≤ 9223372036854775807) ∧ (f2.size ≤ 140737488355328 ∧ f4.size ≤ 140737488355328 ∧ f5.size ≤ 140737488355328 ∧ f8.length ≤ 140737488355328 ∧ f9.length ≤ 140737488355328) ∧ B255 f8 ∧ B255 f9
def rawX (x : S69) : Prop := raw x.f0 x.f1 x.f2 x.f3 x.f4 x.f5 x.f6 x.f7 x.f8 x.f9
theorem rawX.small {x : S69} (h : rawX x) : smallX x := h.2.2.2.2.2.1
theorem rawX.ok {x : S69} (h : rawX x) (hb : x.f2.size + x.f4.size + x.f5.size + x.f8.length + x.f9.length ≤ 5000) : okX x := by
  obtain ⟨h0, h1, h6, h3, h7, _, h8, h9⟩ := h
  exact ⟨h0, h1, h6, h3, h7, by omega, h8, h9⟩
theorem light_m {l : List S69} (h : lightP l = true) : l.length ≤ 100 ∧ ∀ y ∈ l, y.f2.size + y.f4.size + y.f5.size + y.f8.length + y.f9.length ≤ 5000 := by
  unfold lightP at h
  rw [Bool.and_eq_true, List.all_eq_true, decide_eq_true_eq] at h
  exact ⟨h.2, fun y hy => of_decide_eq_true (h.1 y hy)⟩
end Go.Proofs.Ytlnpmodhejakiaa.AV
