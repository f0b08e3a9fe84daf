/- canon.Reader. -/
import Derived.Test.YtlnpmodhejakiaaZCanA
namespace Go.Proofs.Ytlnpmodhejakiaa.D
open Go.RowKit Go.Proofs.YtlnpmodhejakiaaW.PrintWords Go.Proofs.YtlnpmodhejakiaaW.PrintLast Go.Proofs.YtlnpmodhejakiaaW.PrintMore
set_option linter.unusedVariables false
set_option linter.unusedSimpArgs false
def IsR (g : Nat) (w : World) (l : List Int) (bad : Bool) : Prop := ∃ A c, w.heap[g]? = some (.cells #[.slice A l.length c, .int .u32 (if bad = true then 1 else 0)] 158 (0, 0)) ∧ Kd.C (Kd.int .u8) w A l.length l ∧ l.length ≤ c ∧ (0 < l.length → ∀ ad, A = some ad → ad.block ≠ g)
theorem IsR.below {g : Nat} {w w' : World} {l : List Int} {bad : Bool} (h : IsR g w l bad) (hb : Below w.heap.size w w') : IsR g w' l bad := by
  obtain ⟨A, c, h1, h2, h3, h4⟩ := h
  exact ⟨A, c, blk_below h1 hb, Kd.C_below h2 hb, h3, h4⟩
end Go.Proofs.Ytlnpmodhejakiaa.D
