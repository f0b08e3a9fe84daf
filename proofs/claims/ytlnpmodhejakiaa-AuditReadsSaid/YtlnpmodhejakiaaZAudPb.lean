/- Part of the proofs of this seat: AudP. -/
import Derived.Test.YtlnpmodhejakiaaZAudP
import Derived.Laws.BitsAllLaws
import Derived.Test.YtlnpmodhejakiaaZPVx5
import Derived.Test.YtlnpmodhejakiaaZAudA
import Derived.Test.YtlnpmodhejakiaaZCanP
import Derived.Test.YtlnpmodhejakiaaZWb
import Derived.Test.YtlnpmodhejakiaaZCanAb
import Derived.Test.YtlnpmodhejakiaaZCanBb
/- The audit in plain words: what its functions compute. -/
namespace Go.Proofs.Ytlnpmodhejakiaa.AV
open Go.RowKit Go.Proofs.YtlnpmodhejakiaaW.PrintWords Go.Proofs.YtlnpmodhejakiaaW.PrintLast Go.Proofs.YtlnpmodhejakiaaW.PrintMore Go.Proofs.Ytlnpmodhejakiaa.Sha Go.Proofs.Ytlnpmodhejakiaa.D Go.Proofs.Ytlnpmodhejakiaa.PC Go.Proofs.Ytlnpmodhejakiaa.CP Go.Proofs.Ytlnpmodhejakiaa.PV
set_option linter.unusedVariables false
set_option linter.unusedSimpArgs false
theorem sameP_iff (x y : S69) : sameP x y = true ↔ x = y := by
  unfold sameP
  constructor
  · intro h
    simp only [Bool.and_eq_true, beq_iff_eq] at h
    obtain ⟨⟨⟨⟨⟨⟨⟨⟨⟨h0, h1⟩, h2⟩, h3⟩, h4⟩, h5⟩, h6⟩, h7⟩, h8⟩, h9⟩ := h
    cases x; cases y
    simp only [S69.mk.injEq] at *
    exact ⟨h0, h1, toList_inj h2, h3, toList_inj h4, toList_inj h5, h6, h7, h8, h9⟩
  · rintro rfl; simp
end Go.Proofs.Ytlnpmodhejakiaa.AV
