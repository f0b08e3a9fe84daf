-- written by the workplace's driver round the kit's printer (wip/tools/myprint.py)
import Derived.Test.YtlnpmodhejakiaaPKx1
import Derived.Test.YtlnpmodhejakiaaPKxK
namespace Go.Proofs.Ytlnpmodhejakiaa.PK
open Go.RowKit Go.Proofs.YtlnpmodhejakiaaW.PrintWords Go.Proofs.YtlnpmodhejakiaaW.PrintLast Go.Proofs.YtlnpmodhejakiaaW.PrintMore Go.Proofs.Ytlnpmodhejakiaa.Opn Go.Proofs.Ytlnpmodhejakiaa.PK Go.Proofs.Ytlnpmodhejakiaa.D Go.Proofs.Ytlnpmodhejakiaa.PC
set_option linter.unusedVariables false
def stelelaw02_CanonTexts.Pure : Prop := ∀ (x0 : List Int) (x1 : List Int) (x2 : ByteArray), (x0.length * 1 ≤ 140737488351232 ∧ ∀ y ∈ x0, (Lit.int .u8 y).wf = true) → (x1.length * 1 ≤ 140737488351232 ∧ ∀ y ∈ x1, (Lit.int .u8 y).wf = true) → x2.size ≤ 140737488351232 → ((x0.map (fun y => 1)).sum + 1) + (((x1.map (fun y => 1)).sum + 1) + ((x2.size + 1))) ≤ 1048576 → ∃ k, stelelaw02_CanonTexts.f k x0 x1 x2 = some true
end Go.Proofs.Ytlnpmodhejakiaa.PK
