-- written by the workplace's driver round the kit's printer (wip/tools/myprint.py)
import Derived.Test.YtlnpmodhejakiaaLawR
import Derived.Test.YtlnpmodhejakiaaPLxK
namespace Go.Proofs.Ytlnpmodhejakiaa.PL
open Go.RowKit Go.Proofs.YtlnpmodhejakiaaW.PrintWords Go.Proofs.YtlnpmodhejakiaaW.PrintLast Go.Proofs.YtlnpmodhejakiaaW.PrintMore Go.Proofs.Ytlnpmodhejakiaa.Opn Go.Proofs.Ytlnpmodhejakiaa.PL Go.Proofs.Ytlnpmodhejakiaa.D Go.Proofs.Ytlnpmodhejakiaa.PL
set_option linter.unusedVariables false
def stelelaw02_CanonReads.Pure : Prop := ∀ (x0 : List Int) (x1 : List Int) (x2 : Int), (x0.length * 1 ≤ 140737488351232 ∧ ∀ y ∈ x0, (Lit.int .u8 y).wf = true) → (x1.length * 8 ≤ 140737488351232 ∧ ∀ y ∈ x1, (Lit.int .i64 y).wf = true) → (Lit.int .i64 x2).wf = true → stelelaw02_CanonReads.f x0 x1 x2 = some true
end Go.Proofs.Ytlnpmodhejakiaa.PL
