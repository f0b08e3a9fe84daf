-- written by the workplace's driver round the kit's printer (wip/tools/myprint.py)
import Derived.Test.YtlnpmodhejakiaaPOx1
import Derived.Test.YtlnpmodhejakiaaPOxK
namespace Go.Proofs.Ytlnpmodhejakiaa.PO
open Go.RowKit Go.Proofs.YtlnpmodhejakiaaW.PrintWords Go.Proofs.YtlnpmodhejakiaaW.PrintLast Go.Proofs.YtlnpmodhejakiaaW.PrintMore Go.Proofs.Ytlnpmodhejakiaa.Opn Go.Proofs.Ytlnpmodhejakiaa.PO Go.Proofs.Ytlnpmodhejakiaa.D Go.Proofs.Ytlnpmodhejakiaa.PC Go.Proofs.Ytlnpmodhejakiaa.PK
set_option linter.unusedVariables false
def stelelaw02_CanonOne.Pure : Prop := ∀ (x0 : List (S46)) (x1 : List (S46)), (x0.length * 40 ≤ 140737488351232 ∧ ∀ y ∈ x0, ok46 y) → (x1.length * 40 ≤ 140737488351232 ∧ ∀ y ∈ x1, ok46 y) → ((x0.map (fun y => sz46 y)).sum + 1) + (((x1.map (fun y => sz46 y)).sum + 1)) ≤ 1048576 → ∃ k, stelelaw02_CanonOne.f k x0 x1 = some true
end Go.Proofs.Ytlnpmodhejakiaa.PO
