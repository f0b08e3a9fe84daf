-- written by the workplace's driver round the kit's printer (wip/tools/myprint.py)
import Derived.Test.YtlikgkcfkealkaaPSx0
import Derived.Test.YtlikgkcfkealkaaOpen
namespace Go.Proofs.Ytlikgkcfkealkaa.PS
open Go.RowKit Go.Proofs.YtlikgkcfkealkaaW.PrintWords Go.Proofs.YtlikgkcfkealkaaW.PrintLast Go.Proofs.Ytlikgkcfkealkaa.Opn
set_option linter.unusedVariables false


end Go.Proofs.Ytlikgkcfkealkaa.PS
