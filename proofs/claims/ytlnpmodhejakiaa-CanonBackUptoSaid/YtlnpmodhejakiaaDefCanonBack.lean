-- written by the workplace's driver round the kit's printer (wip/tools/myprint.py)
import Derived.Test.YtlnpmodhejakiaaLawK
import Derived.Test.YtlnpmodhejakiaaPMxK
namespace Go.Proofs.Ytlnpmodhejakiaa.PM
open Go.RowKit Go.Proofs.YtlnpmodhejakiaaW.PrintWords Go.Proofs.YtlnpmodhejakiaaW.PrintLast Go.Proofs.YtlnpmodhejakiaaW.PrintMore Go.Proofs.Ytlnpmodhejakiaa.Opn Go.Proofs.Ytlnpmodhejakiaa.PM Go.Proofs.Ytlnpmodhejakiaa.D
set_option linter.unusedVariables false
def stelelaw02_CanonBack.Pure : Prop := ∀ (x0 : List (S46)), (x0.length * 40 ≤ 140737488351232 ∧ ∀ y ∈ x0, ok46 y) → ((x0.map (fun y => sz46 y)).sum + 1) ≤ 1048576 → stelelaw02_CanonBack.f x0 = some true
end Go.Proofs.Ytlnpmodhejakiaa.PM
