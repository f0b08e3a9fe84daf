import Derived.Test.YtlnpmodhejakiaaDefCanonReads
namespace Go.Proofs.Ytlnpmodhejakiaa.Pure
open Go.RowKit Go.Proofs.Ytlnpmodhejakiaa.PL Go.Proofs.Ytlnpmodhejakiaa.D
theorem wf8R {y : Int} (h : (Lit.int .u8 y).wf = true) : 0 ≤ y ∧ y ≤ 255 := by
  have h' : IntKind.u8.min ≤ y ∧ y ≤ IntKind.u8.max := by simpa [Lit.wf] using h
  exact h'
theorem wf64R {y : Int} (h : (Lit.int .i64 y).wf = true) : -9223372036854775808 ≤ y ∧ y ≤ 9223372036854775807 := by
  have h' : IntKind.i64.min ≤ y ∧ y ≤ IntKind.i64.max := by simpa [Lit.wf] using h
  exact h'
theorem CanonReads : stelelaw02_CanonReads.Pure := by
  intro x0 x1 x2 h0 h1 h2
  unfold stelelaw02_CanonReads.f
  rw [if_pos ⟨⟨by omega, fun y hy => wf8R (h0.2 y hy)⟩, by omega, wf64R h2⟩]
end Go.Proofs.Ytlnpmodhejakiaa.Pure
