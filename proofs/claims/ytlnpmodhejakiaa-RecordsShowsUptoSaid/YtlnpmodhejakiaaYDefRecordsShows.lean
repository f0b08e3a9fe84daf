/- Part of the proofs of this seat: DefRecordsShows. -/
import Derived.Test.YtlnpmodhejakiaaYLawRs
import Derived.Test.YtlnpmodhejakiaaYPXxK
namespace Go.Proofs.Ytlnpmodhejakiaa.PX
open Go.RowKit Go.Proofs.YtlnpmodhejakiaaW.PrintWords Go.Proofs.YtlnpmodhejakiaaW.PrintLast Go.Proofs.YtlnpmodhejakiaaW.PrintMore Go.Proofs.Ytlnpmodhejakiaa.Opn Go.Proofs.Ytlnpmodhejakiaa.PX Go.Proofs.Ytlnpmodhejakiaa.D
set_option linter.unusedVariables false
def stelelaw19_RecordsShows.Pure : Prop := ∀ (x0 : S89) (x1 : S95) (x2 : S101) (x3 : S110), ok89 x0 → ok95 x1 → ok101 x2 → ok110 x3 → sz89 x0 + (sz95 x1 + (sz101 x2 + (sz110 x3))) ≤ 1048576 → stelelaw19_RecordsShows.f x0.f0 x0.f1 x0.f2 x0.f3 x0.f4 x0.f5 x0.f6 x0.f7 x0.f8 x1.f0 x1.f1 x1.f2 x1.f3 x1.f4 x1.f5 x1.f6.f0 x1.f6.f1 x1.f7 x1.f8 x2.f0 x2.f1 x2.f2 x2.f3 x2.f4 x3.f0 x3.f1 x3.f2 x3.f3 x3.f4 = some true
end Go.Proofs.Ytlnpmodhejakiaa.PX
