/- Part of the proofs of this seat: AudR. -/
import Derived.Test.YtlnpmodhejakiaaZAudR
import Derived.Test.YtlnpmodhejakiaaZAudB
import Derived.Test.YtlnpmodhejakiaaZAudBb
import Derived.Test.YtlnpmodhejakiaaZWb
import Derived.Test.YtlnpmodhejakiaaZShab
/- What the audit's laws share: what came in, and light. -/
namespace Go.Proofs.Ytlnpmodhejakiaa.AV
open Go.RowKit Go.Proofs.YtlnpmodhejakiaaW.PrintWords Go.Proofs.YtlnpmodhejakiaaW.PrintLast Go.Proofs.YtlnpmodhejakiaaW.PrintMore Go.Proofs.Ytlnpmodhejakiaa.Sha Go.Proofs.Ytlnpmodhejakiaa.D Go.Proofs.Ytlnpmodhejakiaa.PC Go.Proofs.Ytlnpmodhejakiaa.CP Go.Proofs.Ytlnpmodhejakiaa.PV
set_option linter.unusedVariables false
set_option linter.unusedSimpArgs false
theorem lightB (A : Option Addr) (c : Nat) (l : List S69) (b : Bool) (w : World) (hC : Kd.C k69 w A l.length l) (hc : l.length ≤ c) (hl : l.length ≤ 140737488355328) (hs : ∀ y ∈ l, smallX y) (h : lightP l = b) :
    Calls Try.prog 73 #[.slice A l.length c] w fun e w' => e = .returned (.bool b) ∧ Below w.heap.size w w' := by
  rw [← h]
  exact light_c A c l w hC hc hl hs
end Go.Proofs.Ytlnpmodhejakiaa.AV
