-- written by the workplace's driver round the kit's printer (wip/tools/myprint.py)
import Derived.Test.YtooibmnanmmgiaaDoorPBx4
import Derived.Test.YtooibmnanmmgiaaDoorPBxK
namespace Go.Proofs.YtooibmnanmmgiaaDoor.PB
open Go.RowKit Go.Proofs.YtooibmnanmmgiaaDoorW.PrintWords Go.Proofs.YtooibmnanmmgiaaDoorW.PrintLast Go.Proofs.YtooibmnanmmgiaaDoorW.PrintMore Go.Proofs.YtooibmnanmmgiaaDoor.Opn Go.Proofs.YtooibmnanmmgiaaDoor.PB Go.Proofs.YtooibmnanmmgiaaDoor.D
set_option linter.unusedVariables false
def stelelaw08_PolicyDecides.Pure : Prop := ∀ (x0 : List (S34)) (x1 : Bool) (x2 : ByteArray) (x3 : ByteArray) (x4 : ByteArray), (x0.length * 56 ≤ 140737488351232 ∧ ∀ y ∈ x0, ok34 y) → x2.size ≤ 140737488351232 → x3.size ≤ 140737488351232 → x4.size ≤ 140737488351232 → ∃ k, stelelaw08_PolicyDecides.f k x0 x1 x2 x3 x4 = some true
end Go.Proofs.YtooibmnanmmgiaaDoor.PB
