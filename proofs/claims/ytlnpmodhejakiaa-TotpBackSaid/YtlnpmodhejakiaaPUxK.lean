-- written by the workplace's driver round the kit's printer (wip/tools/myprint.py)
import Derived.Test.YtlnpmodhejakiaaPUx0
import Derived.Test.YtlnpmodhejakiaaOpen
namespace Go.Proofs.Ytlnpmodhejakiaa.PU
open Go.RowKit Go.Proofs.YtlnpmodhejakiaaW.PrintWords Go.Proofs.YtlnpmodhejakiaaW.PrintLast Go.Proofs.Ytlnpmodhejakiaa.Opn
set_option linter.unusedVariables false


end Go.Proofs.Ytlnpmodhejakiaa.PU
