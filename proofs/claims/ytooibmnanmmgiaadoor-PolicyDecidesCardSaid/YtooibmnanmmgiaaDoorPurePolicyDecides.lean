import Derived.Test.YtooibmnanmmgiaaDoorDefPolicyDecides
import Derived.Test.YtooibmnanmmgiaaDoorDecE
namespace Go.Proofs.YtooibmnanmmgiaaDoor.Pure
open Go.RowKit Go.Proofs.YtooibmnanmmgiaaDoorW.PrintWords Go.Proofs.YtooibmnanmmgiaaDoorW.PrintLast Go.Proofs.YtooibmnanmmgiaaDoorW.PrintMore Go.Proofs.YtooibmnanmmgiaaDoor.Opn Go.Proofs.YtooibmnanmmgiaaDoor.PB Go.Proofs.YtooibmnanmmgiaaDoor.D Go.Proofs.YtooibmnanmmgiaaDoor.GB
set_option linter.unusedVariables false
set_option linter.unusedSimpArgs false

theorem PolicyDecides : stelelaw08_PolicyDecides.Pure := by
  intro xs own u v w hx hu hv hw
  have hl : xs.length < 2513169434916 := by have := hx.1; omega
  have hs : ∀ x ∈ xs, S34.small x := fun x h => (hx.2 x h).2
  obtain ⟨n0, b, h0⟩ := light_any xs [u, v, w] (by omega) (by simp)
  obtain ⟨n1, h1⟩ := own_ok xs hl
  obtain ⟨n2, h2⟩ := pD_ok u v w hu hv hw xs (by omega) hs
  obtain ⟨n3, h3⟩ := rD_ok u v w hu hv hw xs (by omega) hs
  refine ⟨n0 + n1 + n2 + n3, ?_⟩
  unfold stelelaw08_PolicyDecides.f policy_May.f steleref08_May.f
  rw [light_at _ (by omega) h0, Go.Proofs.YtooibmnanmmgiaaDoor.GB.own_at _ (by omega) h1]
  simp only [Option.bind_some]
  rw [pDf_at _ (by omega) h2, rDf_at _ (by omega) h3]
  simp only [Option.bind_some, stelelaw08_alive.f, if_true]
  cases b
  · simp
  · simp only [if_true]
    by_cases e0 : dec u v w 0 xs = 0
    · cases own <;> simp [e0]
    · by_cases e1 : dec u v w 0 xs = 1
      · simp [e1]
      · simp [e0, e1]

end Go.Proofs.YtooibmnanmmgiaaDoor.Pure
