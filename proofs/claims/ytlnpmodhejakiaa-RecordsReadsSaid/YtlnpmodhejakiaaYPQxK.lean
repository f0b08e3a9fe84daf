/- Part of the proofs of this seat: PQxK. -/
import Derived.Test.YtlnpmodhejakiaaYPQx0
import Derived.Test.YtlnpmodhejakiaaYOpen
namespace Go.Proofs.Ytlnpmodhejakiaa.PQ
open Go.RowKit Go.Proofs.YtlnpmodhejakiaaW.PrintWords Go.Proofs.YtlnpmodhejakiaaW.PrintLast Go.Proofs.Ytlnpmodhejakiaa.Opn
set_option linter.unusedVariables false
end Go.Proofs.Ytlnpmodhejakiaa.PQ
