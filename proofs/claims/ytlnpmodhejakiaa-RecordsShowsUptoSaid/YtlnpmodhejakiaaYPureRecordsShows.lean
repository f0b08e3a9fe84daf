/- Part of the proofs of this seat: PureRecordsShows. -/
import Derived.OpenShut
import Derived.Test.YtlnpmodhejakiaaYDefRecordsShows
namespace Go.Proofs.Ytlnpmodhejakiaa.Pure
open Go.RowKit Go.Proofs.YtlnpmodhejakiaaW.PrintWords Go.Proofs.YtlnpmodhejakiaaW.PrintLast Go.Proofs.YtlnpmodhejakiaaW.PrintMore Go.Proofs.Ytlnpmodhejakiaa.PX Go.Proofs.Ytlnpmodhejakiaa.D
set_option linter.unusedVariables false
theorem RecordsShows : stelelaw19_RecordsShows.Pure := by
  intro x0 x1 x2 x3 h0 h1 h2 h3 hs
  unfold stelelaw19_RecordsShows.f
  unfold sz89 sz95 sz101 at hs
  rw [if_pos ⟨⟨by omega, by omega, by omega⟩, (bounds_i64 h0.2.1).2, (bounds_i64 h0.2.2.2.2.1).2, (bounds_i64 h0.2.2.2.2.2.1).2, (bounds_i64 h0.2.2.2.2.2.2.2.1).2, (bounds_i64 h0.2.2.2.2.2.2.2.2).2, (bounds_i64 h1.2.2.2.2.2.2.1.1).2⟩]
end Go.Proofs.Ytlnpmodhejakiaa.Pure
