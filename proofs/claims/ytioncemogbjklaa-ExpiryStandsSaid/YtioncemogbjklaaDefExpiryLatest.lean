-- written by the workplace's driver round the kit's printer (wip/tools/myprint.py)
import Derived.Test.YtioncemogbjklaaPEx1
import Derived.Test.YtioncemogbjklaaPExK
namespace Go.Proofs.Ytioncemogbjklaa.PE
open Go.RowKit Go.Proofs.YtioncemogbjklaaW.PrintWords Go.Proofs.YtioncemogbjklaaW.PrintLast Go.Proofs.YtioncemogbjklaaW.PrintMore Go.Proofs.Ytioncemogbjklaa.Opn Go.Proofs.Ytioncemogbjklaa.PE Go.Proofs.Ytioncemogbjklaa.PG
def stelelaw17_ExpiryLatest.Pure : Prop := ∀ (x0 : List (S37)) (x1 : ByteArray) (x2 : ByteArray), (x0.length * 112 ≤ 140737488351232 ∧ ∀ y ∈ x0, ok37 y) → x1.size ≤ 140737488351232 → x2.size ≤ 140737488351232 → ∃ k, stelelaw17_ExpiryLatest.f k x0 x1 x2 = some true
end Go.Proofs.Ytioncemogbjklaa.PE
