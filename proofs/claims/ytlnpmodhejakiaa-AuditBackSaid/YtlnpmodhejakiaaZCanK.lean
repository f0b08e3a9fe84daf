/- kind of stelelaw02: it hands back the slice that came in. -/
import Derived.Test.YtlnpmodhejakiaaZPKx1
namespace Go.Proofs.Ytlnpmodhejakiaa.PK
open Go.RowKit Go.Proofs.YtlnpmodhejakiaaW.PrintWords Go.Proofs.YtlnpmodhejakiaaW.PrintLast Go.Proofs.YtlnpmodhejakiaaW.PrintMore Go.Proofs.Ytlnpmodhejakiaa.D
set_option linter.unusedVariables false
set_option linter.unusedSimpArgs false
end Go.Proofs.Ytlnpmodhejakiaa.PK
