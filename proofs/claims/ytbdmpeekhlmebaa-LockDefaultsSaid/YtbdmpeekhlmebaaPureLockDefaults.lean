/- The plain law of LockDefaults: the printed function of the law answers true, for every value of its parameters that the row lets in. -/
import Derived.Test.YtbdmpeekhlmebaaDefLockDefaults
namespace Go.Proofs.Ytbdmpeekhlmebaa.PureD
open Go.RowKit Go.Proofs.YtbdmpeekhlmebaaW.PrintWords Go.Proofs.YtbdmpeekhlmebaaW.PrintLast Go.Proofs.YtbdmpeekhlmebaaW.PrintMore Go.Proofs.Ytbdmpeekhlmebaa.Opn Go.Proofs.Ytbdmpeekhlmebaa.PD
set_option linter.unusedVariables false
set_option linter.unusedSimpArgs false

theorem alive_true : stelelaw15_alive.f = some true := by decide +kernel
def modeB (m : Int) : Bool := m == 1 || m == 2
theorem locks_eq (m : Int) : lock_mode_locks.f m = some (modeB m) := by
  unfold lock_mode_locks.f modeB; split <;> simp_all
theorem mode_eq (m : Int) : steleref15_mode.f m = some (modeB m) := by
  unfold steleref15_mode.f modeB; split <;> simp_all
theorem u64_wf {n : Int} (h : (Lit.int .u64 n).wf = true) : 0 ≤ n ∧ n ≤ 18446744073709551615 := bounds_u64 h
theorem i64_wf {n : Int} (h : (Lit.int .i64 n).wf = true) : -9223372036854775808 ≤ n ∧ n ≤ 9223372036854775807 := bounds_i64 h
theorem mn_le {a b : Int} (h : a ≤ b) : mn a b = a := by unfold mn; rw [if_neg (by omega)]
theorem mn_ge {a b : Int} (h : b ≤ a) : mn a b = b := by
  unfold mn
  by_cases g : b < a
  · rw [if_pos g]
  · rw [if_neg g]; omega
theorem later_eq (t n : Int) (ht : 0 ≤ t ∧ t ≤ 18446744073709551615) (hn : -9223372036854775808 ≤ n ∧ n ≤ 9223372036854775807) (k : Nat) :
    ∃ r, clock_Later.f t n = some r ∧ steleref03_Later.f (k + 1) t n = some r := by
  unfold clock_Later.f steleref03_Later.f
  simp only [steleref03_Later.j0, IntKind.wrap_u64]
  by_cases h : t ≥ 253402300799
  · rw [if_pos h]
    refine ⟨t, rfl, ?_⟩
    by_cases g : n ≤ 0
    · rw [if_pos g, if_pos trivial]
    · rw [if_neg g, if_pos (by simpa using h)]
  · rw [if_neg h]
    refine ⟨_, rfl, ?_⟩
    by_cases g : n ≤ 0
    · rw [if_pos g, if_pos trivial]
      have : mx n 0 = 0 := by unfold mx; split <;> omega
      rw [this]
      have e1 : mn (0 % 18446744073709551616) 2932897 = 0 := mn_le (by omega)
      rw [e1]
      have e2 : (t + 0 * 86400 % 18446744073709551616) % 18446744073709551616 = t := by omega
      rw [e2, mn_le (by omega)]
    · rw [if_neg g, if_neg (by simpa using h)]
      have : mx n 0 = n := by unfold mx; split <;> omega
      rw [this]
      have e1 : (253402300799 - t) % 18446744073709551616 = 253402300799 - t := by omega
      have e2 : n % 18446744073709551616 = n := by omega
      rw [e1, e2, Int.tdiv_eq_ediv_of_nonneg (by omega)]
      have e3 : (253402300799 - t) / 86400 % 18446744073709551616 = (253402300799 - t) / 86400 := by omega
      rw [e3]
      by_cases c : n > (253402300799 - t) / 86400
      · rw [if_pos c]
        by_cases c2 : n ≤ 2932897
        · rw [mn_le c2]
          have e4 : (t + n * 86400 % 18446744073709551616) % 18446744073709551616 = t + n * 86400 := by omega
          rw [e4, mn_ge (by omega)]
        · rw [mn_ge (a := n) (by omega)]
          have e4 : (t + 2932897 * 86400 % 18446744073709551616) % 18446744073709551616 = t + 2932897 * 86400 := by omega
          rw [e4, mn_ge (by omega)]
      · rw [if_neg c]
        rw [mn_le (a := n) (by omega)]
        have e4 : (t + n * 86400 % 18446744073709551616) % 18446744073709551616 = t + n * 86400 := by omega
        rw [e4, mn_le (by omega)]
end Go.Proofs.Ytbdmpeekhlmebaa.PureD
namespace Go.Proofs.Ytbdmpeekhlmebaa.Pure
open Go.RowKit Go.Proofs.Ytbdmpeekhlmebaa.PD Go.Proofs.Ytbdmpeekhlmebaa.PureD Go.Proofs.YtbdmpeekhlmebaaW.PrintWords
theorem LockDefaults : stelelaw15_LockDefaults.Pure := by
  intro x0 x1 h0 h1
  refine ⟨1, ?_⟩
  obtain ⟨r, e1, e2⟩ := later_eq x1 x0.f5 (u64_wf h1) (i64_wf h0.2.2.2.2.2.1) 0
  unfold stelelaw15_LockDefaults.f lock_Default.f steleref15_Default.f
  rw [e1, e2, locks_eq, mode_eq, alive_true]
  simp only [Option.bind_some]
  cases x0.f2 <;> cases modeB x0.f4 <;> by_cases c : r ≤ x1 <;> simp [c]
end Go.Proofs.Ytbdmpeekhlmebaa.Pure
