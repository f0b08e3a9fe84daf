-- written by the workplace's driver round the kit's printer (wip/tools/myprint.py)
import Derived.Test.YtlnpmodhejakiaaPKx1
import Derived.Test.YtlnpmodhejakiaaPKxK
namespace Go.Proofs.Ytlnpmodhejakiaa.PK
open Go.RowKit Go.Proofs.YtlnpmodhejakiaaW.PrintWords Go.Proofs.YtlnpmodhejakiaaW.PrintLast Go.Proofs.YtlnpmodhejakiaaW.PrintMore Go.Proofs.Ytlnpmodhejakiaa.Opn Go.Proofs.Ytlnpmodhejakiaa.PK Go.Proofs.Ytlnpmodhejakiaa.D Go.Proofs.Ytlnpmodhejakiaa.PC
def stelelaw02_CanonNumbers.Pure : Prop := ∀ (x0 : List Int) (x1 : Int) (x2 : Bool) (x3 : Int), (x0.length * 1 ≤ 140737488351232 ∧ ∀ y ∈ x0, (Lit.int .u8 y).wf = true) → (Lit.int .u64 x1).wf = true → (Lit.int .i64 x3).wf = true → ∃ k, stelelaw02_CanonNumbers.f k x0 x1 x2 x3 = some true
end Go.Proofs.Ytlnpmodhejakiaa.PK
