/- digest: (*state).add of a SHA-1. -/
import Derived.Laws.CopyOwn
import Derived.Test.YtlnpmodhejakiaaZDigF
namespace Go.Proofs.Ytlnpmodhejakiaa.D
open Go.RowKit Go.Proofs.YtlnpmodhejakiaaW.PrintWords Go.Proofs.YtlnpmodhejakiaaW.PrintLast Go.Proofs.YtlnpmodhejakiaaW.PrintMore Go.Proofs.Ytlnpmodhejakiaa.Sha
set_option linter.unusedVariables false
set_option linter.unusedSimpArgs false
end Go.Proofs.Ytlnpmodhejakiaa.D
