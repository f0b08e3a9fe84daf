-- written by the workplace's driver round the kit's printer (wip/tools/myprint.py)
import Derived.Test.YtioncemogbjklaaPEx4
import Derived.Test.YtioncemogbjklaaPExK
namespace Go.Proofs.Ytioncemogbjklaa.PE
open Go.RowKit Go.Proofs.YtioncemogbjklaaW.PrintWords Go.Proofs.YtioncemogbjklaaW.PrintLast Go.Proofs.YtioncemogbjklaaW.PrintMore Go.Proofs.Ytioncemogbjklaa.Opn Go.Proofs.Ytioncemogbjklaa.PE Go.Proofs.Ytioncemogbjklaa.PG
def stelelaw17_ExpiryStands.Pure : Prop := ∀ (x0 : S27) (x1 : List (S37)) (x2 : Int) (x3 : Int), ok27 x0 → (x1.length * 112 ≤ 140737488351232 ∧ ∀ y ∈ x1, ok37 y) → (Lit.int .u64 x2).wf = true → (Lit.int .u64 x3).wf = true → ∃ k, stelelaw17_ExpiryStands.f k x0.f0 x0.f1 x0.f2 x0.f3 x0.f4 x0.f5 x0.f6 x0.f7 x0.f8 x1 x2 x3 = some true
end Go.Proofs.Ytioncemogbjklaa.PE
