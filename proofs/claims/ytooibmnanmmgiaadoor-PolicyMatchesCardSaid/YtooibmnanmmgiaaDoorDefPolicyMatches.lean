-- written by the workplace's driver round the kit's printer (wip/tools/myprint.py)
import Derived.Test.YtooibmnanmmgiaaDoorPBx3
import Derived.Test.YtooibmnanmmgiaaDoorPBxK
namespace Go.Proofs.YtooibmnanmmgiaaDoor.PB
open Go.RowKit Go.Proofs.YtooibmnanmmgiaaDoorW.PrintWords Go.Proofs.YtooibmnanmmgiaaDoorW.PrintLast Go.Proofs.YtooibmnanmmgiaaDoorW.PrintMore Go.Proofs.YtooibmnanmmgiaaDoor.Opn Go.Proofs.YtooibmnanmmgiaaDoor.PB Go.Proofs.YtooibmnanmmgiaaDoor.D
set_option linter.unusedVariables false
def stelelaw08_PolicyMatches.Pure : Prop := ∀ (x0 : ByteArray) (x1 : ByteArray), x0.size ≤ 140737488351232 → x1.size ≤ 140737488351232 → ∃ k, stelelaw08_PolicyMatches.f k x0 x1 = some true
end Go.Proofs.YtooibmnanmmgiaaDoor.PB
