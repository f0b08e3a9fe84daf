/- The plain law of ClockLater: the printed function of the law answers true, for every value of its parameters that the row lets in. -/
import Derived.Test.YtlikgkcfkealkaaDefClockLater
namespace Go.Proofs.Ytlikgkcfkealkaa.Pure
open Go.RowKit Go.Proofs.YtlikgkcfkealkaaW.PrintWords Go.Proofs.YtlikgkcfkealkaaW.PrintLast Go.Proofs.YtlikgkcfkealkaaW.PrintMore Go.Proofs.Ytlikgkcfkealkaa.Opn Go.Proofs.Ytlikgkcfkealkaa.PL
set_option linter.unusedVariables false
set_option linter.unusedSimpArgs false

theorem u64_wf {n : Int} (h : (Lit.int .u64 n).wf = true) : 0 ≤ n ∧ n ≤ 18446744073709551615 := bounds_u64 h
theorem i64_wf {n : Int} (h : (Lit.int .i64 n).wf = true) : -9223372036854775808 ≤ n ∧ n ≤ 9223372036854775807 := bounds_i64 h
theorem mn_le {a b : Int} (h : a ≤ b) : mn a b = a := by unfold mn; rw [if_neg (by omega)]
theorem mn_ge {a b : Int} (h : b ≤ a) : mn a b = b := by
  unfold mn
  by_cases g : b < a
  · rw [if_pos g]
  · rw [if_neg g]; omega
theorem later_eq (t n : Int) (ht : 0 ≤ t ∧ t ≤ 18446744073709551615) (hn : -9223372036854775808 ≤ n ∧ n ≤ 9223372036854775807) (k : Nat) :
    ∃ r, clock_Later.f t n = some r ∧ steleref03_Later.f (k + 1) t n = some r := by
  unfold clock_Later.f steleref03_Later.f
  simp only [steleref03_Later.j0, IntKind.wrap_u64]
  by_cases h : t ≥ 253402300799
  · rw [if_pos h]
    refine ⟨t, rfl, ?_⟩
    by_cases g : n ≤ 0
    · rw [if_pos g, if_pos trivial]
    · rw [if_neg g, if_pos (by simpa using h)]
  · rw [if_neg h]
    refine ⟨_, rfl, ?_⟩
    by_cases g : n ≤ 0
    · rw [if_pos g, if_pos trivial]
      have : mx n 0 = 0 := by unfold mx; split <;> omega
      rw [this]
      have e1 : mn (0 % 18446744073709551616) 2932897 = 0 := mn_le (by omega)
      rw [e1]
      have e2 : (t + 0 * 86400 % 18446744073709551616) % 18446744073709551616 = t := by omega
      rw [e2, mn_le (by omega)]
    · rw [if_neg g, if_neg (by simpa using h)]
      have : mx n 0 = n := by unfold mx; split <;> omega
      rw [this]
      have e1 : (253402300799 - t) % 18446744073709551616 = 253402300799 - t := by omega
      have e2 : n % 18446744073709551616 = n := by omega
      rw [e1, e2, Int.tdiv_eq_ediv_of_nonneg (by omega)]
      have e3 : (253402300799 - t) / 86400 % 18446744073709551616 = (253402300799 - t) / 86400 := by omega
      rw [e3]
      by_cases c : n > (253402300799 - t) / 86400
      · rw [if_pos c]
        by_cases c2 : n ≤ 2932897
        · rw [mn_le c2]
          have e4 : (t + n * 86400 % 18446744073709551616) % 18446744073709551616 = t + n * 86400 := by omega
          rw [e4, mn_ge (by omega)]
        · rw [mn_ge (a := n) (by omega)]
          have e4 : (t + 2932897 * 86400 % 18446744073709551616) % 18446744073709551616 = t + 2932897 * 86400 := by omega
          rw [e4, mn_ge (by omega)]
      · rw [if_neg c]
        rw [mn_le (a := n) (by omega)]
        have e4 : (t + n * 86400 % 18446744073709551616) % 18446744073709551616 = t + n * 86400 := by omega
        rw [e4, mn_le (by omega)]
theorem near_eq (a b c : Int) (ha : 0 ≤ a ∧ a ≤ 18446744073709551615) (hb : 0 ≤ b ∧ b ≤ 18446744073709551615) :
    clock_Near.f a b c = some (decide ((if a < b then b - a else a - b) ≤ c)) ∧ steleref03_Near.f a b c = some (decide ((if a < b then b - a else a - b) ≤ c)) := by
  unfold clock_Near.f steleref03_Near.f mx mn
  simp only [IntKind.wrap_u64]
  by_cases h : a < b
  · have h2 : ¬ b < a := by omega
    rw [if_pos h, if_pos h, if_neg h2, if_pos h]
    have e : (b - a) % 18446744073709551616 = b - a := by omega
    rw [e]; exact ⟨rfl, rfl⟩
  · rw [if_neg h, if_neg h, if_neg h]
    by_cases h2 : b < a
    · rw [if_pos h2]
      have e : (a - b) % 18446744073709551616 = a - b := by omega
      rw [e]; exact ⟨rfl, rfl⟩
    · rw [if_neg h2]
      have e : a = b := by omega
      subst e
      have e : (a - a) % 18446744073709551616 = a - a := by omega
      rw [e]; exact ⟨rfl, rfl⟩
theorem ClockLater : stelelaw03_ClockLater.Pure := by
  intro x0 x1 x2 x3 x4 h0 h1 h2 h3 h4
  refine ⟨1, ?_⟩
  obtain ⟨r, e1, e2⟩ := later_eq x0 x1 (u64_wf h0) (i64_wf h1) 0
  obtain ⟨n1, n2⟩ := near_eq x2 x3 x4 (u64_wf h2) (u64_wf h3)
  obtain ⟨n3, _⟩ := near_eq x2 x2 0 (u64_wf h2) (u64_wf h2)
  unfold stelelaw03_ClockLater.f
  rw [e1, e2, n1, n2, n3]
  simp
end Go.Proofs.Ytlikgkcfkealkaa.Pure
