/- The plain law of ExpiryDue: the printed function of the law answers true, for every value of its parameters that the row lets in. -/
import Derived.Test.YtioncemogbjklaaDefExpiryDue
import Derived.Test.YtioncemogbjklaaExpP
namespace Go.Proofs.Ytioncemogbjklaa.Pure
open Go.RowKit Go.Proofs.YtioncemogbjklaaW.PrintWords Go.Proofs.YtioncemogbjklaaW.PrintLast Go.Proofs.YtioncemogbjklaaW.PrintMore Go.Proofs.Ytioncemogbjklaa.Opn Go.Proofs.Ytioncemogbjklaa.PE Go.Proofs.Ytioncemogbjklaa.PG

theorem ExpiryDue : stelelaw17_ExpiryDue.Pure := by
  intro b l now hb hl hn
  refine ⟨1000, ?_⟩
  unfold stelelaw17_ExpiryDue.f
  by_cases c : (l.length : Int) > 100
  · rw [if_pos c]
  · have hlen : l.length ≤ 100 := by omega
    rw [if_neg c]
    obtain ⟨_, _, _, _, _, _, _, h7, h8⟩ := hb
    have h1 : expiry_Due.f b.f0 b.f1 b.f2 b.f3 b.f4 b.f5 b.f6 b.f7 b.f8 l now = some (dueL b.f0 b.f1 b.f7 b.f8 now l l.length) := by unfold expiry_Due.f; rw [if_pos (fit_of l hlen hl.2)]
    have h2 : steleref17_Due.f 1000 b.f0 b.f1 b.f2 b.f3 b.f4 b.f5 b.f6 b.f7 b.f8 l now = some (dueL b.f0 b.f1 b.f7 b.f8 now l l.length) :=
      due_l0 b.f0 b.f1 b.f2 b.f3 b.f4 b.f5 b.f6 b.f7 b.f8 l now hlen hl.2 (i64_wf h7) (i64_wf h8) (l.length - 0) 0 1000 rfl (by omega) (by omega)
    have h3 := numbers_same (dueL b.f0 b.f1 b.f7 b.f8 now l l.length) (by have := dueL_len b.f0 b.f1 b.f7 b.f8 now l l.length; omega) 1000 (by omega)
    rw [h1, h2]
    simp only [Option.bind_some]
    rw [h3, alive_true]
    simp only [Option.bind_some, if_true]
end Go.Proofs.Ytioncemogbjklaa.Pure
