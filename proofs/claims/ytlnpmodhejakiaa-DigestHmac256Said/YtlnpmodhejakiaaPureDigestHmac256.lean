import Derived.Test.YtlnpmodhejakiaaDefDigestHmac256
namespace Go.Proofs.Ytlnpmodhejakiaa.Pure
open Go.RowKit Go.Proofs.Ytlnpmodhejakiaa.PH Go.Proofs.Ytlnpmodhejakiaa.D
theorem wf8 {y : Int} (h : (Lit.int .u8 y).wf = true) : 0 ≤ y ∧ y ≤ 255 := by
  have h' : IntKind.u8.min ≤ y ∧ y ≤ IntKind.u8.max := by simpa [Lit.wf] using h
  exact h'
theorem DigestHmac256 : stelelaw01_DigestHmac256.Pure := by
  intro x0 x1 h0 h1
  unfold stelelaw01_DigestHmac256.f
  rw [if_pos ⟨⟨by omega, fun x hx => wf8 (h0.2 x hx)⟩, ⟨by omega, fun x hx => wf8 (h1.2 x hx)⟩⟩]
end Go.Proofs.Ytlnpmodhejakiaa.Pure
