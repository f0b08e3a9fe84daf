/- The plain laws of ClockDays and ClockNext: what the document's functions answer (the date of a day, the day of a date), for every int. -/
import Derived.Test.YtlikgkcfkealkaaDefClockDays
import Derived.Test.YtlikgkcfkealkaaGivenC2
namespace Go.Proofs.Ytlikgkcfkealkaa.Pure
open Go.RowKit Go.Proofs.YtlikgkcfkealkaaW.PrintWords Go.Proofs.YtlikgkcfkealkaaW.PrintLast Go.Proofs.YtlikgkcfkealkaaW.PrintMore Go.Proofs.Ytlikgkcfkealkaa.Opn Go.Proofs.Ytlikgkcfkealkaa.PC Go.Proofs.Ytlikgkcfkealkaa.Cal
set_option linter.unusedVariables false
set_option linter.unusedSimpArgs false

theorem wrap_id {n : Int} (h0 : -9223372036854775808 ≤ n) (h1 : n ≤ 9223372036854775807) : wrap64 n = n := by unfold wrap64; omega
theorem rleap_eq (y : Int) (h : 0 ≤ y) : steleref03_leap.f y = some (decide (lp y)) := by
  unfold steleref03_leap.f lp
  rw [Int.tmod_eq_emod_of_nonneg h, Int.tmod_eq_emod_of_nonneg h, Int.tmod_eq_emod_of_nonneg h]
  by_cases a : y % 4 = 0
  · rw [if_pos a]
    by_cases b : y % 100 = 0
    · rw [if_pos b]; simp [a, b]; rfl
    · rw [if_neg b]; simp [a, b]
  · rw [if_neg a]; simp [a]
theorem rdays_eq (y m : Int) (h : 0 ≤ y) : steleref03_days.f y m = some (dim y m) := by
  unfold steleref03_days.f dim
  rw [rleap_eq y h]
  by_cases a : m = 2
  · rw [if_pos a, if_pos a]; by_cases l : lp y <;> simp [l]
  · rw [if_neg a, if_neg a]
    by_cases b : m = 4 ∨ m = 6 ∨ m = 9 ∨ m = 11
    · rw [if_pos b]; rcases b with b | b | b | b <;> subst b <;> simp
    · rw [if_neg b, if_neg (by omega), if_neg (by omega), if_neg (by omega), if_neg (by omega)]
theorem rahead_eq (y : Int) (h : 1 ≤ y) (h1 : y ≤ 10000) : steleref03_ahead.f y = some (Cal.ahead y) := by
  unfold steleref03_ahead.f Cal.ahead
  have e : wrap64 (y - 1) = y - 1 := wrap_id (by omega) (by omega)
  rw [e, Int.tdiv_eq_ediv_of_nonneg (by omega), Int.tdiv_eq_ediv_of_nonneg (by omega), Int.tdiv_eq_ediv_of_nonneg (by omega)]
  have e1 : wrap64 (365 * (y - 1)) = 365 * (y - 1) := wrap_id (by omega) (by omega)
  have e2 : wrap64 ((y - 1) / 4) = (y - 1) / 4 := wrap_id (by omega) (by omega)
  have e3 : wrap64 ((y - 1) / 100) = (y - 1) / 100 := wrap_id (by omega) (by omega)
  have e4 : wrap64 ((y - 1) / 400) = (y - 1) / 400 := wrap_id (by omega) (by omega)
  rw [e1, e2, e3, e4]
  rw [wrap_id (n := 365 * (y - 1) + (y - 1) / 4) (by omega) (by omega)]
  rw [wrap_id (n := 365 * (y - 1) + (y - 1) / 4 - (y - 1) / 100) (by omega) (by omega)]
  rw [wrap_id (by omega) (by omega)]
theorem ahead_bd (y : Int) (h : 1 ≤ y) (h1 : y ≤ 10000) : 0 ≤ Cal.ahead y ∧ Cal.ahead y ≤ 3652059 := by
  have a := ahead_mono 1 y h
  have b := ahead_mono y 10000 h1
  rw [ahead_1] at a
  rw [ahead_max] at b
  omega
theorem rmonths (n y : Int) (hy : 1 ≤ y) (hy1 : y ≤ 9999) (h2 : n < Cal.ahead (y + 1)) : ∀ (d k : Nat) (m : Int), 1 ≤ m → m ≤ 12 → 12 - m = d → d < k → Cal.ahead y + cum y m ≤ n →
    ∃ m' d', steleref03_Civil.l1 k (n - Cal.ahead y - cum y m) y m = some (y, m', d') ∧ Valid n y m' d' := by
  intro d
  induction d with
  | zero =>
    intro k m a b c g e
    obtain ⟨k, rfl⟩ : ∃ z, k = z + 1 := ⟨k - 1, by omega⟩
    obtain rfl : m = 12 := by omega
    have f := ahead_succ y hy
    have s := cum_succ y 12 (by omega) (by omega)
    have t := cum13 y
    have bd := ahead_bd y hy (by omega)
    have bd2 := ahead_bd (y + 1) (by omega) (by omega)
    have cb := cum_bd y 12 (by omega) (by omega)
    simp only [Int.reduceAdd] at s
    simp only [steleref03_Civil.l1]
    rw [rdays_eq y _ (by omega)]
    simp only [Option.bind_some]
    rw [if_neg (by omega), wrap_id (by omega) (by omega)]
    exact ⟨12, _, rfl, hy, hy1, by omega, by omega, by omega, by omega, by omega⟩
  | succ d ih =>
    intro k m a b c g e
    obtain ⟨k, rfl⟩ : ∃ z, k = z + 1 := ⟨k - 1, by omega⟩
    have s := cum_succ y m (by omega) (by omega)
    have bd := ahead_bd y hy (by omega)
    have bd2 := ahead_bd (y + 1) (by omega) (by omega)
    have cb := cum_bd y m (by omega) (by omega)
    have dp := dim_pos y m
    simp only [steleref03_Civil.l1]
    rw [rdays_eq y _ (by omega)]
    simp only [Option.bind_some]
    by_cases q : n - Cal.ahead y - cum y m ≥ dim y m
    · rw [if_pos q, wrap_id (n := m + 1) (by omega) (by omega), wrap_id (by omega) (by omega)]
      have := ih k (m + 1) (by omega) (by omega) (by omega) (by omega) (by omega)
      rw [s] at this
      have e2 : n - Cal.ahead y - (cum y m + dim y m) = n - Cal.ahead y - cum y m - dim y m := by omega
      rw [e2] at this
      exact this
    · rw [if_neg q, wrap_id (by omega) (by omega)]
      exact ⟨m, _, rfl, hy, hy1, by omega, by omega, by omega, by omega, by omega⟩
theorem rsearch (n : Int) (hn : 0 ≤ n) : ∀ (d k : Nat) (lo hi : Int), 1 ≤ lo → hi ≤ 9999 → lo ≤ hi → hi - lo ≤ d → d + 14 < k → Cal.ahead lo ≤ n → n < Cal.ahead (hi + 1) →
    ∃ y m' d', steleref03_Civil.l0 k n lo hi = some (y, m', d') ∧ Valid n y m' d' := by
  intro d
  induction d with
  | zero =>
    intro k lo hi a b c e f g h
    obtain ⟨k, rfl⟩ : ∃ z, k = z + 1 := ⟨k - 1, by omega⟩
    obtain rfl : lo = hi := by omega
    simp only [steleref03_Civil.l0]
    have bd := ahead_bd lo a (by omega)
    have bd2 := ahead_bd (lo + 1) (by omega) (by omega)
    rw [if_neg (by omega), rahead_eq lo a (by omega)]
    simp only [Option.bind_some]
    rw [wrap_id (by omega) (by omega)]
    have := rmonths n lo a b h 11 k 1 (by omega) (by omega) (by omega) (by omega) (by rw [cum1]; omega)
    rw [cum1] at this
    obtain ⟨m', d', q1, q2⟩ := this
    rw [Int.sub_zero] at q1
    exact ⟨lo, m', d', q1, q2⟩
  | succ d ih =>
    intro k lo hi a b c e f g h
    obtain ⟨k, rfl⟩ : ∃ z, k = z + 1 := ⟨k - 1, by omega⟩
    by_cases q : lo < hi
    · simp only [steleref03_Civil.l0]
      rw [if_pos q]
      have e1 : wrap64 (lo + hi) = lo + hi := wrap_id (by omega) (by omega)
      have e2 : wrap64 (lo + hi + 1) = lo + hi + 1 := wrap_id (by omega) (by omega)
      rw [e1, e2, Int.tdiv_eq_ediv_of_nonneg (by omega)]
      have e3 : wrap64 ((lo + hi + 1) / 2) = (lo + hi + 1) / 2 := wrap_id (by omega) (by omega)
      rw [e3, rahead_eq _ (by omega) (by omega)]
      simp only [Option.bind_some]
      by_cases r : Cal.ahead ((lo + hi + 1) / 2) ≤ n
      · rw [if_pos r]
        exact ih k _ hi (by omega) b (by omega) (by omega) (by omega) r h
      · rw [if_neg r]
        have e4 : wrap64 ((lo + hi + 1) / 2 - 1) = (lo + hi + 1) / 2 - 1 := wrap_id (by omega) (by omega)
        rw [e4]
        refine ih k lo _ a (by omega) (by omega) (by omega) (by omega) g ?_
        have : (lo + hi + 1) / 2 - 1 + 1 = (lo + hi + 1) / 2 := by omega
        rw [this]; omega
    · obtain rfl : lo = hi := by omega
      exact ih (k + 1) lo lo a b c (by omega) (by omega) g h
/-- the document's Civil is the date of the day -/
theorem rcivil (day : Int) (h0 : -9223372036854775808 ≤ day) (h1 : day ≤ 9223372036854775807) (k : Nat) (hk : 10020 < k) :
    steleref03_Civil.f k day = some (if day < -719162 then (0, 0, 0) else if day > 2932896 then (0, 0, 0) else civ (day + 719162)) := by
  obtain ⟨k, rfl⟩ : ∃ z, k = z + 1 := ⟨k - 1, by omega⟩
  unfold steleref03_Civil.f
  by_cases a : day < -719162
  · rw [if_pos a, if_pos a]; simp only [steleref03_Civil.j0, if_true]
  · rw [if_neg a, if_neg a]
    by_cases b : day > 2932896
    · rw [if_pos b, decide_eq_true b]; simp only [steleref03_Civil.j0, if_true]
    · rw [if_neg b, decide_eq_false b]
      simp only [steleref03_Civil.j0, Bool.false_eq_true, if_false]
      have e : wrap64 (day + 719162) = day + 719162 := by unfold wrap64; omega
      rw [e]
      obtain ⟨y, m, d, q1, q2⟩ := rsearch (day + 719162) (by omega) 9998 k 1 9999 (by omega) (by omega) (by omega) (by omega) (by omega) (by rw [ahead_1]; omega) (by show _ < Cal.ahead 10000; rw [ahead_max]; omega)
      rw [q1]
      have v := civ_valid (day + 719162) (by omega) (by omega)
      obtain ⟨u1, u2, u3⟩ := valid_unique q2 v
      rw [u1, u2, u3]
def dayP (y m d : Int) : Int × Int :=
  if y < 1 ∨ y > 9999 ∨ m < 1 ∨ m > 12 ∨ d < 1 ∨ d > dim y m then (0, 6) else (-719162 + Cal.ahead y + cum y m + d - 1, 0)
theorem rdayloop (y m d : Int) (hy : 1 ≤ y) (hy1 : y ≤ 9999) (hm : 1 ≤ m) (hm1 : m ≤ 12) (hd : 1 ≤ d) (hd1 : d ≤ 31) : ∀ (c k : Nat) (i : Int), 1 ≤ i → i ≤ m → m - i = c → c < k →
    steleref03_Day.l0 k y m d (-719162 + Cal.ahead y + cum y i) i = some (-719162 + Cal.ahead y + cum y m + d - 1, 0) := by
  intro c
  have bd := ahead_bd y hy (by omega)
  induction c with
  | zero =>
    intro k i a b e g
    obtain ⟨k, rfl⟩ : ∃ z, k = z + 1 := ⟨k - 1, by omega⟩
    obtain rfl : i = m := by omega
    have cb := cum_bd y i (by omega) (by omega)
    simp only [steleref03_Day.l0]
    rw [if_neg (by omega), wrap_id (n := -719162 + Cal.ahead y + cum y i + d) (by omega) (by omega), wrap_id (by omega) (by omega)]
  | succ c ih =>
    intro k i a b e g
    obtain ⟨k, rfl⟩ : ∃ z, k = z + 1 := ⟨k - 1, by omega⟩
    have cb := cum_bd y i (by omega) (by omega)
    have s := cum_succ y i (by omega) (by omega)
    have dp := dim_pos y i
    simp only [steleref03_Day.l0]
    rw [if_pos (by omega), rdays_eq y i (by omega)]
    simp only [Option.bind_some]
    rw [wrap_id (n := i + 1) (by omega) (by omega), wrap_id (by omega) (by omega)]
    have := ih k (i + 1) (by omega) (by omega) (by omega) (by omega)
    rw [s] at this
    rw [← this]
    congr 1
    omega
/-- the document's Day is the day's number -/
theorem rday (y m d : Int) (k : Nat) (hk : 20 < k) : steleref03_Day.f k y m d = some (dayP y m d) := by
  obtain ⟨k, rfl⟩ : ∃ z, k = z + 1 := ⟨k - 1, by omega⟩
  have no : steleref03_Day.j0 (k + 1) y m d true = some (0, 6) := by simp only [steleref03_Day.j0, if_true]
  unfold steleref03_Day.f dayP
  by_cases a1 : y < 1
  · rw [if_pos a1, no, if_pos (by omega)]
  rw [if_neg a1]
  by_cases a2 : y > 9999
  · rw [if_pos a2, no, if_pos (by omega)]
  rw [if_neg a2]
  by_cases a3 : m < 1
  · rw [if_pos a3, no, if_pos (by omega)]
  rw [if_neg a3]
  by_cases a4 : m > 12
  · rw [if_pos a4, no, if_pos (by omega)]
  rw [if_neg a4]
  by_cases a5 : d < 1
  · rw [if_pos a5, no, if_pos (by omega)]
  rw [if_neg a5, rdays_eq y m (by omega)]
  simp only [Option.bind_some]
  have dp := dim_pos y m
  by_cases a6 : d > dim y m
  · rw [decide_eq_true a6, no, if_pos (by omega)]
  · rw [decide_eq_false a6, if_neg (by omega)]
    simp only [steleref03_Day.j0, Bool.false_eq_true, if_false]
    rw [rahead_eq y (by omega) (by omega)]
    simp only [Option.bind_some]
    have bd := ahead_bd y (by omega) (by omega)
    rw [wrap_id (by omega) (by omega)]
    have := rdayloop y m d (by omega) (by omega) (by omega) (by omega) (by omega) (by omega) 11 k
    obtain ⟨c, hc⟩ : ∃ c : Nat, m - 1 = c := ⟨(m - 1).toNat, by omega⟩
    have := rdayloop y m d (by omega) (by omega) (by omega) (by omega) (by omega) (by omega) c k 1 (by omega) (by omega) (by omega) (by omega)
    rw [cum1] at this
    rw [← this]
    congr 1
    omega
theorem pcivil (x : Int) : clock_Civil.f x = some (if x < -719162 then (0, 0, 0) else if x > 2932896 then (0, 0, 0) else civ (x + 719162)) := rfl
theorem pday (y m d : Int) : clock_Day.f y m d = some (dayP y m d) := rfl
theorem ClockDays : stelelaw03_ClockDays.Pure := by
  intro x0 x1 x2 x3 h0 h1 h2 h3
  refine ⟨10021, ?_⟩
  have b0 := bounds_i64 h0
  have e0 : clock_Civil.f 0 = some (civ 719162) := by rw [pcivil, if_neg (by decide), if_neg (by decide)]; rfl
  have e1 : (civ 719162).1 = 1970 := by decide
  unfold stelelaw03_ClockDays.f
  rw [e0, rcivil x0 b0.1 b0.2 _ (by omega), rday x1 x2 x3 _ (by omega), pcivil x0, pday]
  simp only [Option.bind_some, if_true, e1]
  rfl
end Go.Proofs.Ytlikgkcfkealkaa.Pure
