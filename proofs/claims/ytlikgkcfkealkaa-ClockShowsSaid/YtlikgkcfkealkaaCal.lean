/- Plain facts on Gregory's calendar: how many days lie ahead of a year and of a month; that a date is told by its day's number; that the program's guess of the year is exact. No Go in it. -/
namespace Go.Proofs.Ytlikgkcfkealkaa.Cal
set_option linter.unusedVariables false
set_option linter.unusedSimpArgs false
/-- leap, as a proposition over Int -/
def lp (y : Int) : Prop := y % 4 = 0 ∧ (y % 100 ≠ 0 ∨ y % 400 = 0)
instance (y : Int) : Decidable (lp y) := by unfold lp; infer_instance
/-- days ahead of month m (1 .. 13) -/
def cum (y m : Int) : Int :=
  (if m = 1 then 0 else if m = 2 then 31 else if m = 3 then 59 else if m = 4 then 90 else if m = 5 then 120 else if m = 6 then 151 else if m = 7 then 181 else if m = 8 then 212 else if m = 9 then 243 else if m = 10 then 273 else if m = 11 then 304 else if m = 12 then 334 else 365) + (if 3 ≤ m ∧ lp y then 1 else 0)
def dim (y m : Int) : Int := if m = 2 then (if lp y then 29 else 28) else if m = 4 ∨ m = 6 ∨ m = 9 ∨ m = 11 then 30 else 31
def ahead (y : Int) : Int := 365 * (y - 1) + (y - 1) / 4 - (y - 1) / 100 + (y - 1) / 400
theorem cum_succ (y m : Int) (h1 : 1 ≤ m) (h2 : m ≤ 12) : cum y (m + 1) = cum y m + dim y m := by
  have : m = 1 ∨ m = 2 ∨ m = 3 ∨ m = 4 ∨ m = 5 ∨ m = 6 ∨ m = 7 ∨ m = 8 ∨ m = 9 ∨ m = 10 ∨ m = 11 ∨ m = 12 := by omega
  by_cases h : lp y <;> rcases this with h | h | h | h | h | h | h | h | h | h | h | h <;> subst h <;> simp [cum, dim, *]
theorem dim_pos (y m : Int) : 28 ≤ dim y m ∧ dim y m ≤ 31 := by unfold dim; (repeat' split) <;> omega
theorem ahead_succ (y : Int) (h : 1 ≤ y) : ahead (y + 1) = ahead y + 365 + (if lp y then 1 else 0) := by
  have k : (365 * (y + 1 - 1) + (y + 1 - 1) / 4 - (y + 1 - 1) / 100 + (y + 1 - 1) / 400 : Int) = 365 * y + y / 4 - y / 100 + y / 400 := by omega
  unfold ahead; rw [k]
  by_cases g : lp y
  · rw [if_pos g]; unfold lp at g; omega
  · rw [if_neg g]; unfold lp at g; omega
theorem ahead_mono (a b : Int) (h : a ≤ b) : ahead a ≤ ahead b := by unfold ahead; omega
theorem cum_mono (y a b : Int) (h0 : 1 ≤ a) (h : a ≤ b) (h1 : b ≤ 13) : cum y a ≤ cum y b := by
  obtain ⟨d, hd⟩ : ∃ d : Nat, b = a + d := ⟨(b - a).toNat, by omega⟩
  subst hd
  induction d with
  | zero => simp
  | succ d ih =>
    have e := cum_succ y (a + d) (by omega) (by omega)
    have := dim_pos y (a + d)
    have := ih (by omega) (by omega)
    have e2 : a + ((d + 1 : Nat) : Int) = a + d + 1 := by omega
    rw [e2, e]; omega
theorem cum13 (y : Int) : cum y 13 = 365 + (if lp y then 1 else 0) := by unfold cum; simp
theorem cum1 (y : Int) : cum y 1 = 0 := by unfold cum; simp
/-- a date is told by its day's number -/
theorem date_unique (y m r y' m' r' : Int) (hy : 1 ≤ y) (hy' : 1 ≤ y') (hm : 1 ≤ m ∧ m ≤ 12) (hm' : 1 ≤ m' ∧ m' ≤ 12)
    (hr : 0 ≤ r ∧ r < dim y m) (hr' : 0 ≤ r' ∧ r' < dim y' m') (h : ahead y + cum y m + r = ahead y' + cum y' m' + r') : y = y' ∧ m = m' ∧ r = r' := by
  have a1 := cum_succ y m (by omega) (by omega)
  have a2 := cum_succ y' m' (by omega) (by omega)
  have b1 := cum_mono y (m + 1) 13 (by omega) (by omega) (by omega)
  have b2 := cum_mono y' (m' + 1) 13 (by omega) (by omega) (by omega)
  have c1 := cum_mono y 1 m (by omega) (by omega) (by omega)
  have c2 := cum_mono y' 1 m' (by omega) (by omega) (by omega)
  have d1 := cum13 y
  have d2 := cum13 y'
  have e1 := cum1 y
  have e2 := cum1 y'
  have f1 := ahead_succ y hy
  have f2 := ahead_succ y' hy'
  have hyy : y = y' := by
    rcases Int.lt_trichotomy y y' with g | g | g
    · have := ahead_mono (y + 1) y' (by omega); omega
    · exact g
    · have := ahead_mono (y' + 1) y (by omega); omega
  subst hyy
  have hmm : m = m' := by
    rcases Int.lt_trichotomy m m' with g | g | g
    · have := cum_mono y (m + 1) m' (by omega) (by omega) (by omega); omega
    · exact g
    · have := cum_mono y (m' + 1) m (by omega) (by omega) (by omega); omega
  subst hmm
  exact ⟨rfl, rfl, by omega⟩
/-- the program's guess of the year: exact -/
theorem year_exact (n : Int) (h0 : 0 ≤ n) (h1 : n ≤ 3652058) :
    let A := n / 146097; let n1 := n % 146097
    let c := if 3 < n1 / 36524 then 3 else n1 / 36524
    let n2 := n1 - c * 36524
    let q := n2 / 1461; let n3 := n2 % 1461
    let a := if 3 < n3 / 365 then 3 else n3 / 365
    let n4 := n3 - a * 365
    let y := 400 * A + (100 * c + 4 * q + a + 1)
    ahead y + n4 = n ∧ 0 ≤ n4 ∧ n4 < 365 + (if lp y then 1 else 0) ∧ 1 ≤ y ∧ y ≤ 9999 := by
  intro A n1 c n2 q n3 a n4 y
  have hc : 0 ≤ c ∧ c ≤ 3 ∧ 0 ≤ n2 ∧ (n2 < 36524 ∨ (c = 3 ∧ n2 ≤ 36524)) := by
    simp only [c, n2]; simp only [n1]; split <;> omega
  have ha : 0 ≤ a ∧ a ≤ 3 ∧ 0 ≤ n4 ∧ (n4 < 365 ∨ (a = 3 ∧ n4 ≤ 365)) := by
    simp only [a, n4]; simp only [n3]; split <;> omega
  have hq : 0 ≤ q ∧ q ≤ 24 := by simp only [q]; omega
  have hA : 0 ≤ A ∧ A ≤ 24 := by simp only [A]; omega
  have e1 : n = 146097 * A + n1 := by simp only [A, n1]; omega
  have e2 : n2 = 1461 * q + n3 := by simp only [q, n3]; omega
  have e3 : n4 = n3 - a * 365 := rfl
  have e4 : n2 = n1 - c * 36524 := rfl
  have hy : y = 400 * A + (100 * c + 4 * q + a + 1) := rfl
  have hn1 : 0 ≤ n1 ∧ n1 < 146097 := by simp only [n1]; omega
  have hn3 : 0 ≤ n3 ∧ n3 < 1461 := by simp only [n3]; omega
  clear_value A n1 c n2 q n3 a n4 y
  have d4 : (y - 1) / 4 = 100 * A + 25 * c + q := by omega
  have d100 : (y - 1) / 100 = 4 * A + c := by omega
  have d400 : (y - 1) / 400 = A := by omega
  refine ⟨by unfold ahead; rw [d4, d100, d400]; omega, ha.2.2.1, ?_, by omega, by omega⟩
  by_cases g : lp y
  · rw [if_pos g]; omega
  · rw [if_neg g]
    unfold lp at g
    rcases ha.2.2.2 with k | ⟨k1, k2⟩
    · omega
    · -- a = 3: y = 400A + 100c + 4q + 4
      have : y % 4 = 0 := by omega
      by_cases k3 : n4 < 365
      · omega
      · exfalso
        have hy100 : y % 100 = 0 := by omega
        have hq24 : q = 24 := by omega
        have : n3 = 1460 := by omega
        have : y % 400 ≠ 0 := by omega
        omega


def cq (n : Int) : Int := if 3 < n % 146097 / 36524 then 3 else n % 146097 / 36524
def n2q (n : Int) : Int := n % 146097 - cq n * 36524
def aq (n : Int) : Int := if 3 < n2q n % 1461 / 365 then 3 else n2q n % 1461 / 365
/-- the year of day n (counted from the first of all), and which day of it -/
def yq (n : Int) : Int := 400 * (n / 146097) + (100 * cq n + 4 * (n2q n / 1461) + aq n + 1)
def rq (n : Int) : Int := n2q n % 1461 - aq n * 365
theorem yq_spec (n : Int) (h0 : 0 ≤ n) (h1 : n ≤ 3652058) : ahead (yq n) + rq n = n ∧ 0 ≤ rq n ∧ rq n < 365 + (if lp (yq n) then 1 else 0) ∧ 1 ≤ yq n ∧ yq n ≤ 9999 := year_exact n h0 h1
def mon (y r : Int) : Int :=
  if r < cum y 2 then 1 else if r < cum y 3 then 2 else if r < cum y 4 then 3 else if r < cum y 5 then 4 else if r < cum y 6 then 5 else if r < cum y 7 then 6
  else if r < cum y 8 then 7 else if r < cum y 9 then 8 else if r < cum y 10 then 9 else if r < cum y 11 then 10 else if r < cum y 12 then 11 else 12
theorem mon_spec (y r : Int) (h0 : 0 ≤ r) (h1 : r < 365 + (if lp y then 1 else 0)) : 1 ≤ mon y r ∧ mon y r ≤ 12 ∧ cum y (mon y r) ≤ r ∧ r < cum y (mon y r + 1) := by
  have e1 := cum1 y
  have e13 := cum13 y
  unfold mon
  repeat' split
  all_goals (refine ⟨by decide, by decide, ?_, ?_⟩ <;> first | omega | (simp only [Int.reduceAdd]; omega))
theorem mon_unique (y r k : Int) (h0 : 0 ≤ r) (h1 : r < 365 + (if lp y then 1 else 0)) (k1 : 1 ≤ k) (k2 : k ≤ 12) (a : cum y k ≤ r) (b : r < cum y (k + 1)) : mon y r = k := by
  obtain ⟨m1, m2, m3, m4⟩ := mon_spec y r h0 h1
  rcases Int.lt_trichotomy (mon y r) k with g | g | g
  · have := cum_mono y (mon y r + 1) k (by omega) (by omega) (by omega); omega
  · exact g
  · have := cum_mono y (k + 1) (mon y r) (by omega) (by omega) (by omega); omega
/-- the date of a day that has one -/
def civ (n : Int) : Int × Int × Int := (yq n, mon (yq n) (rq n), rq n - cum (yq n) (mon (yq n) (rq n)) + 1)
def Valid (n y m d : Int) : Prop := 1 ≤ y ∧ y ≤ 9999 ∧ 1 ≤ m ∧ m ≤ 12 ∧ 1 ≤ d ∧ d ≤ dim y m ∧ ahead y + cum y m + (d - 1) = n
theorem civ_valid (n : Int) (h0 : 0 ≤ n) (h1 : n ≤ 3652058) : Valid n (civ n).1 (civ n).2.1 (civ n).2.2 := by
  obtain ⟨a, b, c, d, e⟩ := yq_spec n h0 h1
  obtain ⟨f, g, h, i⟩ := mon_spec (yq n) (rq n) b c
  have j := cum_succ (yq n) (mon (yq n) (rq n)) f g
  refine ⟨d, e, f, g, ?_, ?_, ?_⟩ <;> simp only [civ] <;> omega
theorem valid_unique {n y m d y' m' d' : Int} (h : Valid n y m d) (h' : Valid n y' m' d') : y = y' ∧ m = m' ∧ d = d' := by
  obtain ⟨a1, a2, a3, a4, a5, a6, a7⟩ := h
  obtain ⟨b1, b2, b3, b4, b5, b6, b7⟩ := h'
  have := date_unique y m (d - 1) y' m' (d' - 1) a1 b1 ⟨a3, a4⟩ ⟨b3, b4⟩ ⟨by omega, by omega⟩ ⟨by omega, by omega⟩ (by omega)
  omega
theorem ahead_max : ahead 10000 = 3652059 := by decide
theorem ahead_1 : ahead 1 = 0 := by decide
theorem cum_bd (y m : Int) (h1 : 1 ≤ m) (h2 : m ≤ 13) : 0 ≤ cum y m ∧ cum y m ≤ 366 := by
  have a := cum_mono y 1 m (by omega) h1 h2
  have b := cum_mono y m 13 h1 h2 (by omega)
  have e1 := cum1 y
  have e13 := cum13 y
  split at e13 <;> omega
theorem valid_range {n y m d : Int} (h : Valid n y m d) : 0 ≤ n ∧ n ≤ 3652058 := by
  obtain ⟨a1, a2, a3, a4, a5, a6, a7⟩ := h
  have c := cum_bd y m (by omega) (by omega)
  have g := ahead_mono 1 y a1
  have g2 := ahead_mono (y + 1) 10000 (by omega)
  have f := ahead_succ y a1
  have j := cum_succ y m a3 a4
  have k := cum_mono y (m + 1) 13 (by omega) (by omega) (by omega)
  have e13 := cum13 y
  rw [ahead_1] at g
  rw [ahead_max] at g2
  omega
end Go.Proofs.Ytlikgkcfkealkaa.Cal
