/- The plain law of LockOrder: the printed function of the law answers true, for every value of its parameters that the row lets in. -/
import Derived.Test.YtbdmpeekhlmebaaDefLockOrder
import Derived.Test.YtbdmpeekhlmebaaLockA
namespace Go.Proofs.Ytbdmpeekhlmebaa.Pure
open Go.RowKit Go.Proofs.YtbdmpeekhlmebaaW.PrintWords Go.Proofs.YtbdmpeekhlmebaaW.PrintLast Go.Proofs.YtbdmpeekhlmebaaW.PrintMore Go.Proofs.Ytbdmpeekhlmebaa.Opn Go.Proofs.Ytbdmpeekhlmebaa.P
set_option linter.unusedVariables false
set_option linter.unusedSimpArgs false

theorem LockOrder : stelelaw15_LockOrder.Pure := by
  intro x0 x1 x2 _ _ _
  refine ⟨2, ?_⟩
  have key : ∀ b, (0 ≤ x0.f0 ∧ 0 ≤ x1.f0 ∧ (b = false → 0 ≤ x2.f0)) → stelelaw15_LockOrder.j0 2 b x0.f0 x0.f1 x1.f0 x1.f1 x2.f0 x2.f1 = some true := by
    intro b ⟨h0, h1, h2⟩
    simp only [stelelaw15_LockOrder.j0, stelelaw15_LockOrder.j1, covers_eq, alive_true, Option.bind_some]
    cases b with
    | true => simp
    | false =>
      have h2 := h2 rfl
      have self : coversB x0.f0 x0.f1 x0.f0 x0.f1 = true := by unfold coversB; simp
      have tr : coversB x0.f0 x0.f1 x1.f0 x1.f1 = true → coversB x1.f0 x1.f1 x2.f0 x2.f1 = true → x1.f0 ≠ 0 → coversB x0.f0 x0.f1 x2.f0 x2.f1 = true := by
        unfold coversB; simp; omega
      have an : coversB x0.f0 x0.f1 x1.f0 x1.f1 = true → coversB x1.f0 x1.f1 x0.f0 x0.f1 = true → (x0.f0 == x1.f0 && (x0.f1 == x1.f1)) = true ∨ (x0.f0 = 0 ∧ x1.f0 = 0) := by
        unfold coversB; simp; omega
      have fin : (if (false : Bool) = true then (some false : Option Bool) else
          (if coversB x0.f0 x0.f1 x1.f0 x1.f1 = true then
            (if coversB x1.f0 x1.f1 x0.f0 x0.f1 = true then
              (if (x0.f0 == x1.f0 && (x0.f1 == x1.f1)) = true then some true
                else (if x0.f0 = 0 then (if x1.f0 = 0 then some true else some false) else some false)) else some true) else some true)) = some true := by
        rw [if_neg (by decide)]
        by_cases a : coversB x0.f0 x0.f1 x1.f0 x1.f1 = true
        · rw [if_pos a]
          by_cases c : coversB x1.f0 x1.f1 x0.f0 x0.f1 = true
          · rw [if_pos c]
            rcases an a c with e | ⟨e1, e2⟩
            · rw [if_pos e]
            · rw [if_pos e1, if_pos e2]; split <;> rfl
          · rw [if_neg c]
        · rw [if_neg a]
      rw [if_neg (by decide), if_pos self]
      by_cases a : coversB x0.f0 x0.f1 x1.f0 x1.f1 = true
      · rw [if_pos a]
        by_cases c : coversB x1.f0 x1.f1 x2.f0 x2.f1 = true
        · rw [if_pos c]
          by_cases e : x1.f0 = 0
          · rw [if_pos e]; exact fin
          · rw [if_neg e, tr a c e]; exact fin
        · rw [if_neg c]; exact fin
      · rw [if_neg a]; exact fin
  unfold stelelaw15_LockOrder.f
  by_cases a : x0.f0 < 0
  · rw [if_pos a]; simp only [stelelaw15_LockOrder.j0, alive_true, Option.bind_some, if_true]
  · rw [if_neg a]
    by_cases c : x1.f0 < 0
    · rw [if_pos c]; simp only [stelelaw15_LockOrder.j0, alive_true, Option.bind_some, if_true]
    · rw [if_neg c]
      exact key _ ⟨by omega, by omega, fun h => by have := of_decide_eq_false h; omega⟩
end Go.Proofs.Ytbdmpeekhlmebaa.Pure
