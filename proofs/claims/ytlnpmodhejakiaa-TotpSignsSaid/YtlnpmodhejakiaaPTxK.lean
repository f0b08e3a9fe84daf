-- written by the workplace's driver round the kit's printer (wip/tools/myprint.py)
import Derived.Test.YtlnpmodhejakiaaPTx0
import Derived.Test.YtlnpmodhejakiaaOpen
namespace Go.Proofs.Ytlnpmodhejakiaa.PT
open Go.RowKit Go.Proofs.YtlnpmodhejakiaaW.PrintWords Go.Proofs.YtlnpmodhejakiaaW.PrintLast Go.Proofs.Ytlnpmodhejakiaa.Opn
set_option linter.unusedVariables false


end Go.Proofs.Ytlnpmodhejakiaa.PT
