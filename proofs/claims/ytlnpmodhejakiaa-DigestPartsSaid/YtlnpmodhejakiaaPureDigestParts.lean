import Derived.Test.YtlnpmodhejakiaaDefDigestParts
namespace Go.Proofs.Ytlnpmodhejakiaa.Pure
open Go.RowKit Go.Proofs.Ytlnpmodhejakiaa.PH Go.Proofs.Ytlnpmodhejakiaa.D
theorem wf8 {y : Int} (h : (Lit.int .u8 y).wf = true) : 0 ≤ y ∧ y ≤ 255 := by
  have h' : IntKind.u8.min ≤ y ∧ y ≤ IntKind.u8.max := by simpa [Lit.wf] using h
  exact h'
theorem DigestParts : stelelaw01_DigestParts.Pure := by
  intro x0 h0
  unfold stelelaw01_DigestParts.f
  rw [if_pos ⟨by omega, fun y hy => by have := (h0.2 y hy).1; omega, fun y hy x hx => wf8 ((h0.2 y hy).2 x hx)⟩]
end Go.Proofs.Ytlnpmodhejakiaa.Pure
