/- The plain law of ExpiryLatest: the printed function of the law answers true, for every value of its parameters that the row lets in. -/
import Derived.Test.YtioncemogbjklaaDefExpiryLatest
import Derived.Test.YtioncemogbjklaaExpP
namespace Go.Proofs.Ytioncemogbjklaa.Pure
open Go.RowKit Go.Proofs.YtioncemogbjklaaW.PrintWords Go.Proofs.YtioncemogbjklaaW.PrintLast Go.Proofs.YtioncemogbjklaaW.PrintMore Go.Proofs.Ytioncemogbjklaa.Opn Go.Proofs.Ytioncemogbjklaa.PE Go.Proofs.Ytioncemogbjklaa.PG

theorem ExpiryLatest : stelelaw17_ExpiryLatest.Pure := by
  intro l b key hl hb hk
  refine ⟨101, ?_⟩
  unfold stelelaw17_ExpiryLatest.f
  by_cases c : (l.length : Int) > 100
  · rw [if_pos c]
  · have hlen : l.length ≤ 100 := by omega
    rw [if_neg c]
    have h1 : expiry_Latest.f l b key = some (lat l b key l.length) := by unfold expiry_Latest.f; rw [if_pos ⟨fit_of l hlen hl.2, hb, hk⟩]
    rw [h1, latest_ref l b key hlen 101 (by omega), alive_true]
    simp only [Option.bind_some, if_true]
end Go.Proofs.Ytioncemogbjklaa.Pure
