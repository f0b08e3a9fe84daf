/- The plain law of ClockNext: the day behind a date is the next one of its month, or the first one of the next month, or year. -/
import Derived.Test.YtlikgkcfkealkaaDefClockNext
import Derived.Test.YtlikgkcfkealkaaGivenC2
namespace Go.Proofs.Ytlikgkcfkealkaa.Pure
open Go.RowKit Go.Proofs.YtlikgkcfkealkaaW.PrintWords Go.Proofs.YtlikgkcfkealkaaW.PrintLast Go.Proofs.YtlikgkcfkealkaaW.PrintMore Go.Proofs.Ytlikgkcfkealkaa.Opn Go.Proofs.Ytlikgkcfkealkaa.PC Go.Proofs.Ytlikgkcfkealkaa.Cal
set_option linter.unusedVariables false
set_option linter.unusedSimpArgs false

theorem next_civ (n : Int) (h0 : 0 ≤ n) (h1 : n < 3652058) :
    ((civ (n + 1)).1 = (civ n).1 ∧ (civ (n + 1)).2.1 = (civ n).2.1 ∧ (civ (n + 1)).2.2 = (civ n).2.2 + 1) ∨
    ((civ (n + 1)).1 = (civ n).1 ∧ (civ (n + 1)).2.1 = (civ n).2.1 + 1 ∧ (civ (n + 1)).2.2 = 1 ∧ 28 ≤ (civ n).2.2) ∨
    ((civ (n + 1)).1 = (civ n).1 + 1 ∧ (civ (n + 1)).2.1 = 1 ∧ (civ (n + 1)).2.2 = 1 ∧ (civ n).2.1 = 12 ∧ (civ n).2.2 = 31) := by
  have v := civ_valid n h0 (by omega)
  have v1 := civ_valid (n + 1) (by omega) (by omega)
  obtain ⟨a1, a2, a3, a4, a5, a6, a7⟩ := v
  have dp := dim_pos (civ n).1 (civ n).2.1
  by_cases c : (civ n).2.2 < dim (civ n).1 (civ n).2.1
  · left
    have w : Valid (n + 1) (civ n).1 (civ n).2.1 ((civ n).2.2 + 1) := ⟨a1, a2, a3, a4, by omega, by omega, by omega⟩
    exact valid_unique v1 w
  · right
    by_cases c2 : (civ n).2.1 < 12
    · left
      have s := cum_succ (civ n).1 (civ n).2.1 a3 a4
      have dp2 := dim_pos (civ n).1 ((civ n).2.1 + 1)
      have w : Valid (n + 1) (civ n).1 ((civ n).2.1 + 1) 1 := ⟨a1, a2, by omega, by omega, by omega, by omega, by omega⟩
      obtain ⟨u1, u2, u3⟩ := valid_unique v1 w
      exact ⟨u1, u2, u3, by omega⟩
    · right
      have e12 : (civ n).2.1 = 12 := by omega
      rw [e12] at a6 a7 c dp
      have s := cum_succ (civ n).1 12 (by omega) (by omega)
      have e13 := cum13 (civ n).1
      have f := ahead_succ (civ n).1 a1
      simp only [Int.reduceAdd] at s
      have d12 : dim (civ n).1 12 = 31 := by unfold dim; simp
      have dp2 := dim_pos ((civ n).1 + 1) 1
      have y2 : (civ n).1 + 1 ≤ 9999 := by
        by_cases q : (civ n).1 + 1 ≤ 9999
        · exact q
        · exfalso
          have : (civ n).1 = 9999 := by omega
          rw [this] at a7 s e13 f a6 c
          simp only [Int.reduceAdd] at f
          rw [ahead_max] at f
          omega
      have w : Valid (n + 1) ((civ n).1 + 1) 1 1 := ⟨by omega, y2, by omega, by omega, by omega, by omega, by rw [cum1]; omega⟩
      obtain ⟨u1, u2, u3⟩ := valid_unique v1 w
      exact ⟨u1, u2, u3, e12, by omega⟩
theorem ClockNext : stelelaw03_ClockNext.Pure := by
  intro x h
  refine ⟨1, ?_⟩
  have b := bounds_i64 h
  unfold stelelaw03_ClockNext.f
  by_cases c1 : x < -719162
  · have e : clock_Civil.f x = some (0, 0, 0) := by unfold clock_Civil.f; rw [if_pos c1]
    rw [e]; simp only [Option.bind_some, if_true]; rw [if_pos c1]
  by_cases c2 : x > 2932896
  · have e : clock_Civil.f x = some (0, 0, 0) := by unfold clock_Civil.f; rw [if_neg c1, if_pos c2]
    rw [e]; simp only [Option.bind_some, if_true]; rw [if_neg c1, decide_eq_true c2]
  have e : clock_Civil.f x = some (civ (x + 719162)) := by unfold clock_Civil.f; rw [if_neg c1, if_neg c2]
  have v := civ_valid (x + 719162) (by omega) (by omega)
  have vd := v
  obtain ⟨a1, a2, a3, a4, a5, a6, a7⟩ := v
  have e2 : clock_Day.f (civ (x + 719162)).1 (civ (x + 719162)).2.1 (civ (x + 719162)).2.2 = some (x, 0) := by
    unfold clock_Day.f
    rw [if_neg (by omega)]
    congr 2
    omega
  rw [e]
  simp only [Option.bind_some]
  rw [if_neg (by omega), e2]
  simp only [Option.bind_some, if_true, bne_self_eq_false]
  simp only [stelelaw03_ClockNext.j0, Bool.false_eq_true, if_false]
  have dp := dim_pos (civ (x + 719162)).1 (civ (x + 719162)).2.1
  have w5 : wrap64 ((civ (x + 719162)).2.2 + 1) = (civ (x + 719162)).2.2 + 1 := by unfold wrap64; omega
  have w4 : wrap64 ((civ (x + 719162)).2.1 + 1) = (civ (x + 719162)).2.1 + 1 := by unfold wrap64; omega
  have w3 : wrap64 ((civ (x + 719162)).1 + 1) = (civ (x + 719162)).1 + 1 := by unfold wrap64; omega
  have wx : wrap64 (x + 1) = x + 1 := by unfold wrap64; omega
  rw [w5, w4, w3, wx]
  by_cases c3 : x ≥ 2932896
  · obtain rfl : x = 2932896 := by omega
    decide
  · rw [if_neg c3]
    have e3 : clock_Civil.f (x + 1) = some (civ (x + 719162 + 1)) := by
      unfold clock_Civil.f; rw [if_neg (by omega), if_neg (by omega)]
      have : x + 1 + 719162 = x + 719162 + 1 := by omega
      rw [this]
    rw [e3]
    simp only [Option.bind_some]
    rcases next_civ (x + 719162) (by omega) (by omega) with ⟨q1, q2, q3⟩ | ⟨q1, q2, q3, q4⟩ | ⟨q1, q2, q3, q4, q5⟩
    · rw [if_pos q1, if_pos q2, if_pos q3]
    · rw [if_pos q1, if_neg (by omega), if_pos q2, if_pos q3, if_pos q4]
    · rw [if_neg (by omega), if_pos q1, if_pos q2, if_pos q3, if_pos q4, q5]; rfl
end Go.Proofs.Ytlikgkcfkealkaa.Pure
