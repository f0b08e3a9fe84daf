-- written by the workplace's driver round the kit's printer (wip/tools/myprint.py)
import Derived.Test.YtpopampcfgpojaaPHx0
import Derived.Test.YtpopampcfgpojaaOpen
namespace Go.Proofs.Ytpopampcfgpojaa.PH
open Go.RowKit Go.Proofs.YtpopampcfgpojaaW.PrintWords Go.Proofs.YtpopampcfgpojaaW.PrintLast Go.Proofs.Ytpopampcfgpojaa.Opn
set_option linter.unusedVariables false


end Go.Proofs.Ytpopampcfgpojaa.PH
