/- stelelaw02.alive. -/
import Derived.Test.YtlnpmodhejakiaaZCanE
import Derived.Test.YtlnpmodhejakiaaZPCx1
namespace Go.Proofs.Ytlnpmodhejakiaa.D
open Go.RowKit Go.Proofs.YtlnpmodhejakiaaW.PrintWords Go.Proofs.YtlnpmodhejakiaaW.PrintLast Go.Proofs.YtlnpmodhejakiaaW.PrintMore
set_option linter.unusedVariables false
set_option linter.unusedSimpArgs false
end Go.Proofs.Ytlnpmodhejakiaa.D
