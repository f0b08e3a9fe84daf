-- written by the workplace's driver round the kit's printer (wip/tools/myprint.py)
import Derived.Test.YtooibmnanmmgiaaDoorPBx5
import Derived.Test.YtooibmnanmmgiaaDoorPBxK
namespace Go.Proofs.YtooibmnanmmgiaaDoor.PB
open Go.RowKit Go.Proofs.YtooibmnanmmgiaaDoorW.PrintWords Go.Proofs.YtooibmnanmmgiaaDoorW.PrintLast Go.Proofs.YtooibmnanmmgiaaDoorW.PrintMore Go.Proofs.YtooibmnanmmgiaaDoor.Opn Go.Proofs.YtooibmnanmmgiaaDoor.PB Go.Proofs.YtooibmnanmmgiaaDoor.D
set_option linter.unusedVariables false
def stelelaw08_PolicyStars.Pure : Prop := ∀ (x0 : ByteArray) (x1 : ByteArray) (x2 : ByteArray) (x3 : ByteArray), x0.size ≤ 140737488351232 → x1.size ≤ 140737488351232 → x2.size ≤ 140737488351232 → x3.size ≤ 140737488351232 → ∃ k, stelelaw08_PolicyStars.f k x0 x1 x2 x3 = some true
end Go.Proofs.YtooibmnanmmgiaaDoor.PB
