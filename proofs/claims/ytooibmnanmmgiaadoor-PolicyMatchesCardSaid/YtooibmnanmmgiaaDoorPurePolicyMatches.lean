import Derived.Test.YtooibmnanmmgiaaDoorDefPolicyMatches
import Derived.Test.YtooibmnanmmgiaaDoorMatE
namespace Go.Proofs.YtooibmnanmmgiaaDoor.Pure
open Go.RowKit Go.Proofs.YtooibmnanmmgiaaDoorW.PrintWords Go.Proofs.YtooibmnanmmgiaaDoorW.PrintLast Go.Proofs.YtooibmnanmmgiaaDoorW.PrintMore Go.Proofs.YtooibmnanmmgiaaDoor.Opn Go.Proofs.YtooibmnanmmgiaaDoor.PB Go.Proofs.YtooibmnanmmgiaaDoor.D Go.Proofs.YtooibmnanmmgiaaDoor.GB
set_option linter.unusedVariables false
set_option linter.unusedSimpArgs false

theorem PolicyMatches : stelelaw08_PolicyMatches.Pure := by
  intro p s hp hs
  obtain ⟨n0, b, h0⟩ := light_any ([] : List S34) [p, s] (by simp) (by simp)
  obtain ⟨n1, h1⟩ := pm_ok p s hp hs
  obtain ⟨n2, h2⟩ := rm_ok p s hp hs
  refine ⟨n0 + n1 + n2, ?_⟩
  unfold stelelaw08_PolicyMatches.f
  rw [light_at (n0 + n1 + n2) (by omega) h0, pm_at (n0 + n1 + n2) (by omega) h1, rm_at (n0 + n1 + n2) (by omega) h2]
  cases b <;> simp [stelelaw08_alive.f]

end Go.Proofs.YtooibmnanmmgiaaDoor.Pure
