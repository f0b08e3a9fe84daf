/- Part of the proofs of this seat: AudB. -/
import Derived.Test.YtlnpmodhejakiaaZAudB
import Derived.Test.YtlnpmodhejakiaaZAudP
import Derived.Test.YtlnpmodhejakiaaZAudPb
import Derived.Test.YtlnpmodhejakiaaZQCall
import Derived.Test.YtlnpmodhejakiaaZWb
import Derived.Test.YtlnpmodhejakiaaZPVx0b
import Derived.Test.YtlnpmodhejakiaaZPAx0b
/- The audit's contracts in plain words; a literal row of records; stelelaw14.alive. -/
namespace Go.Proofs.Ytlnpmodhejakiaa.AV
open Go.RowKit Go.Proofs.YtlnpmodhejakiaaW.PrintWords Go.Proofs.YtlnpmodhejakiaaW.PrintLast Go.Proofs.YtlnpmodhejakiaaW.PrintMore Go.Proofs.Ytlnpmodhejakiaa.Sha Go.Proofs.Ytlnpmodhejakiaa.D Go.Proofs.Ytlnpmodhejakiaa.PC Go.Proofs.Ytlnpmodhejakiaa.CP Go.Proofs.Ytlnpmodhejakiaa.PV
set_option linter.unusedVariables false
set_option linter.unusedSimpArgs false
def stelelaw14_alive.f : Option Bool := some true
theorem stelelaw14_alive.calls (r : Bool) (w : World) (h : stelelaw14_alive.f = some r) : Calls Try.prog 74 #[] w fun e w' => e = .returned (.bool r) ∧ Below w.heap.size w w' := by
  obtain rfl := Option.some.inj h
  exact alive14 w
end Go.Proofs.Ytlnpmodhejakiaa.AV
