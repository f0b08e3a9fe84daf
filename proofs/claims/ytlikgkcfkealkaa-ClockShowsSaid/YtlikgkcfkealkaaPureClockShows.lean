/- The plain law of ClockShows: the text of any time, and its date. -/
import Derived.Test.YtlikgkcfkealkaaDefClockShows
import Derived.Test.YtlikgkcfkealkaaPureClockOrder
namespace Go.Proofs.Ytlikgkcfkealkaa.PureS
open Go.RowKit Go.Proofs.YtlikgkcfkealkaaW.PrintWords Go.Proofs.YtlikgkcfkealkaaW.PrintLast Go.Proofs.YtlikgkcfkealkaaW.PrintMore Go.Proofs.Ytlikgkcfkealkaa.Opn Go.Proofs.Ytlikgkcfkealkaa.PS Go.Proofs.Ytlikgkcfkealkaa.PC Go.Proofs.Ytlikgkcfkealkaa.Cal Go.Proofs.Ytlikgkcfkealkaa.Pure
set_option linter.unusedVariables false
set_option linter.unusedSimpArgs false

theorem wrap_id {n : Int} (h0 : -9223372036854775808 ≤ n) (h1 : n ≤ 9223372036854775807) : wrap64 n = n := by unfold wrap64; omega
theorem rleap_eq (y : Int) (h : 0 ≤ y) : steleref03_leap.f y = some (decide (lp y)) := by
  unfold steleref03_leap.f lp
  rw [Int.tmod_eq_emod_of_nonneg h, Int.tmod_eq_emod_of_nonneg h, Int.tmod_eq_emod_of_nonneg h]
  by_cases a : y % 4 = 0
  · rw [if_pos a]
    by_cases b : y % 100 = 0
    · rw [if_pos b]; simp [a, b]; rfl
    · rw [if_neg b]; simp [a, b]
  · rw [if_neg a]; simp [a]
theorem rdays_eq (y m : Int) (h : 0 ≤ y) : steleref03_days.f y m = some (dim y m) := by
  unfold steleref03_days.f dim
  rw [rleap_eq y h]
  by_cases a : m = 2
  · rw [if_pos a, if_pos a]; by_cases l : lp y <;> simp [l]
  · rw [if_neg a, if_neg a]
    by_cases b : m = 4 ∨ m = 6 ∨ m = 9 ∨ m = 11
    · rw [if_pos b]; rcases b with b | b | b | b <;> subst b <;> simp
    · rw [if_neg b, if_neg (by omega), if_neg (by omega), if_neg (by omega), if_neg (by omega)]
theorem rahead_eq (y : Int) (h : 1 ≤ y) (h1 : y ≤ 10000) : steleref03_ahead.f y = some (Cal.ahead y) := by
  unfold steleref03_ahead.f Cal.ahead
  have e : wrap64 (y - 1) = y - 1 := wrap_id (by omega) (by omega)
  rw [e, Int.tdiv_eq_ediv_of_nonneg (by omega), Int.tdiv_eq_ediv_of_nonneg (by omega), Int.tdiv_eq_ediv_of_nonneg (by omega)]
  have e1 : wrap64 (365 * (y - 1)) = 365 * (y - 1) := wrap_id (by omega) (by omega)
  have e2 : wrap64 ((y - 1) / 4) = (y - 1) / 4 := wrap_id (by omega) (by omega)
  have e3 : wrap64 ((y - 1) / 100) = (y - 1) / 100 := wrap_id (by omega) (by omega)
  have e4 : wrap64 ((y - 1) / 400) = (y - 1) / 400 := wrap_id (by omega) (by omega)
  rw [e1, e2, e3, e4]
  rw [wrap_id (n := 365 * (y - 1) + (y - 1) / 4) (by omega) (by omega)]
  rw [wrap_id (n := 365 * (y - 1) + (y - 1) / 4 - (y - 1) / 100) (by omega) (by omega)]
  rw [wrap_id (by omega) (by omega)]
theorem ahead_bd (y : Int) (h : 1 ≤ y) (h1 : y ≤ 10000) : 0 ≤ Cal.ahead y ∧ Cal.ahead y ≤ 3652059 := by
  have a := ahead_mono 1 y h
  have b := ahead_mono y 10000 h1
  rw [ahead_1] at a
  rw [ahead_max] at b
  omega
theorem rmonths (n y : Int) (hy : 1 ≤ y) (hy1 : y ≤ 9999) (h2 : n < Cal.ahead (y + 1)) : ∀ (d k : Nat) (m : Int), 1 ≤ m → m ≤ 12 → 12 - m = d → d < k → Cal.ahead y + cum y m ≤ n →
    ∃ m' d', steleref03_Civil.l1 k (n - Cal.ahead y - cum y m) y m = some (y, m', d') ∧ Valid n y m' d' := by
  intro d
  induction d with
  | zero =>
    intro k m a b c g e
    obtain ⟨k, rfl⟩ : ∃ z, k = z + 1 := ⟨k - 1, by omega⟩
    obtain rfl : m = 12 := by omega
    have f := ahead_succ y hy
    have s := cum_succ y 12 (by omega) (by omega)
    have t := cum13 y
    have bd := ahead_bd y hy (by omega)
    have bd2 := ahead_bd (y + 1) (by omega) (by omega)
    have cb := cum_bd y 12 (by omega) (by omega)
    simp only [Int.reduceAdd] at s
    simp only [steleref03_Civil.l1]
    rw [rdays_eq y _ (by omega)]
    simp only [Option.bind_some]
    rw [if_neg (by omega), wrap_id (by omega) (by omega)]
    exact ⟨12, _, rfl, hy, hy1, by omega, by omega, by omega, by omega, by omega⟩
  | succ d ih =>
    intro k m a b c g e
    obtain ⟨k, rfl⟩ : ∃ z, k = z + 1 := ⟨k - 1, by omega⟩
    have s := cum_succ y m (by omega) (by omega)
    have bd := ahead_bd y hy (by omega)
    have bd2 := ahead_bd (y + 1) (by omega) (by omega)
    have cb := cum_bd y m (by omega) (by omega)
    have dp := dim_pos y m
    simp only [steleref03_Civil.l1]
    rw [rdays_eq y _ (by omega)]
    simp only [Option.bind_some]
    by_cases q : n - Cal.ahead y - cum y m ≥ dim y m
    · rw [if_pos q, wrap_id (n := m + 1) (by omega) (by omega), wrap_id (by omega) (by omega)]
      have := ih k (m + 1) (by omega) (by omega) (by omega) (by omega) (by omega)
      rw [s] at this
      have e2 : n - Cal.ahead y - (cum y m + dim y m) = n - Cal.ahead y - cum y m - dim y m := by omega
      rw [e2] at this
      exact this
    · rw [if_neg q, wrap_id (by omega) (by omega)]
      exact ⟨m, _, rfl, hy, hy1, by omega, by omega, by omega, by omega, by omega⟩
theorem rsearch (n : Int) (hn : 0 ≤ n) : ∀ (d k : Nat) (lo hi : Int), 1 ≤ lo → hi ≤ 9999 → lo ≤ hi → hi - lo ≤ d → d + 14 < k → Cal.ahead lo ≤ n → n < Cal.ahead (hi + 1) →
    ∃ y m' d', steleref03_Civil.l0 k n lo hi = some (y, m', d') ∧ Valid n y m' d' := by
  intro d
  induction d with
  | zero =>
    intro k lo hi a b c e f g h
    obtain ⟨k, rfl⟩ : ∃ z, k = z + 1 := ⟨k - 1, by omega⟩
    obtain rfl : lo = hi := by omega
    simp only [steleref03_Civil.l0]
    have bd := ahead_bd lo a (by omega)
    have bd2 := ahead_bd (lo + 1) (by omega) (by omega)
    rw [if_neg (by omega), rahead_eq lo a (by omega)]
    simp only [Option.bind_some]
    rw [wrap_id (by omega) (by omega)]
    have := rmonths n lo a b h 11 k 1 (by omega) (by omega) (by omega) (by omega) (by rw [cum1]; omega)
    rw [cum1] at this
    obtain ⟨m', d', q1, q2⟩ := this
    rw [Int.sub_zero] at q1
    exact ⟨lo, m', d', q1, q2⟩
  | succ d ih =>
    intro k lo hi a b c e f g h
    obtain ⟨k, rfl⟩ : ∃ z, k = z + 1 := ⟨k - 1, by omega⟩
    by_cases q : lo < hi
    · simp only [steleref03_Civil.l0]
      rw [if_pos q]
      have e1 : wrap64 (lo + hi) = lo + hi := wrap_id (by omega) (by omega)
      have e2 : wrap64 (lo + hi + 1) = lo + hi + 1 := wrap_id (by omega) (by omega)
      rw [e1, e2, Int.tdiv_eq_ediv_of_nonneg (by omega)]
      have e3 : wrap64 ((lo + hi + 1) / 2) = (lo + hi + 1) / 2 := wrap_id (by omega) (by omega)
      rw [e3, rahead_eq _ (by omega) (by omega)]
      simp only [Option.bind_some]
      by_cases r : Cal.ahead ((lo + hi + 1) / 2) ≤ n
      · rw [if_pos r]
        exact ih k _ hi (by omega) b (by omega) (by omega) (by omega) r h
      · rw [if_neg r]
        have e4 : wrap64 ((lo + hi + 1) / 2 - 1) = (lo + hi + 1) / 2 - 1 := wrap_id (by omega) (by omega)
        rw [e4]
        refine ih k lo _ a (by omega) (by omega) (by omega) (by omega) g ?_
        have : (lo + hi + 1) / 2 - 1 + 1 = (lo + hi + 1) / 2 := by omega
        rw [this]; omega
    · obtain rfl : lo = hi := by omega
      exact ih (k + 1) lo lo a b c (by omega) (by omega) g h
/-- the document's Civil is the date of the day -/
theorem rcivil (day : Int) (h0 : -9223372036854775808 ≤ day) (h1 : day ≤ 9223372036854775807) (k : Nat) (hk : 10020 < k) :
    steleref03_Civil.f k day = some (if day < -719162 then (0, 0, 0) else if day > 2932896 then (0, 0, 0) else civ (day + 719162)) := by
  obtain ⟨k, rfl⟩ : ∃ z, k = z + 1 := ⟨k - 1, by omega⟩
  unfold steleref03_Civil.f
  by_cases a : day < -719162
  · rw [if_pos a, if_pos a]; simp only [steleref03_Civil.j0, if_true]
  · rw [if_neg a, if_neg a]
    by_cases b : day > 2932896
    · rw [if_pos b, decide_eq_true b]; simp only [steleref03_Civil.j0, if_true]
    · rw [if_neg b, decide_eq_false b]
      simp only [steleref03_Civil.j0, Bool.false_eq_true, if_false]
      have e : wrap64 (day + 719162) = day + 719162 := by unfold wrap64; omega
      rw [e]
      obtain ⟨y, m, d, q1, q2⟩ := rsearch (day + 719162) (by omega) 9998 k 1 9999 (by omega) (by omega) (by omega) (by omega) (by omega) (by rw [ahead_1]; omega) (by show _ < Cal.ahead 10000; rw [ahead_max]; omega)
      rw [q1]
      have v := civ_valid (day + 719162) (by omega) (by omega)
      obtain ⟨u1, u2, u3⟩ := valid_unique q2 v
      rw [u1, u2, u3]

theorem dg_congr {a b : Int} (h : a % 10 = b % 10) : dg a = dg b := by unfold dg; rw [h]
theorem son (x : Int) : strOfNums [(48 + x % 10) % 256] = ⟨#[dg x]⟩ := by
  unfold strOfNums dg
  have : (48 + x % 10) % 256 = 48 + x % 10 := by omega
  rw [this]
  rfl
theorem pad_step (k : Nat) (x D i : Int) (l : List UInt8) (hx : 0 ≤ x) (hx1 : x ≤ 99999) (hl : l.length ≤ 100) (hi : i < D) (hi0 : 0 ≤ i) (hD : D ≤ 10) :
    steleref03_Pad.l0 (k + 1) x D ⟨l.toArray⟩ i = steleref03_Pad.l0 k (x / 10) D ⟨(dg x :: l).toArray⟩ (i + 1) := by
  simp only [steleref03_Pad.l0]
  rw [if_pos hi, Int.tmod_eq_emod_of_nonneg hx, Int.tdiv_eq_ediv_of_nonneg hx, wrap_id (n := 48 + x % 10) (by omega) (by omega), wrap_id (n := x / 10) (by omega) (by omega), wrap_id (n := i + 1) (by omega) (by omega)]
  simp only [Option.bind_some]
  rw [son]
  have e : (⟨#[dg x]⟩ : ByteArray) ++ ⟨l.toArray⟩ = ⟨(dg x :: l).toArray⟩ := by
    apply ByteArray.ext
    simp
  rw [e, if_pos]
  show 1 + l.length ≤ _
  omega
theorem pad_end (k : Nat) (x D : Int) (s : ByteArray) : steleref03_Pad.l0 (k + 1) x D s D = some s := by
  simp only [steleref03_Pad.l0]
  rw [if_neg (by omega)]
theorem pad2 (k : Nat) (hk : 5 < k) (x : Int) (hx : 0 ≤ x) (hx1 : x ≤ 99) : steleref03_Pad.f k x 2 = some ⟨(pr x).toArray⟩ := by
  obtain ⟨k, rfl⟩ : ∃ z, k = z + 3 := ⟨k - 3, by omega⟩
  unfold steleref03_Pad.f
  show steleref03_Pad.l0 (k + 2 + 1) x 2 ⟨([] : List UInt8).toArray⟩ 0 = _
  rw [pad_step _ _ _ _ _ hx (by omega) (by simp) (by omega) (by omega) (by omega)]
  rw [pad_step _ _ _ _ _ (by omega) (by omega) (by simp) (by omega) (by omega) (by omega)]
  exact pad_end _ _ 2 _
theorem pad4 (k : Nat) (hk : 5 < k) (x : Int) (hx : 0 ≤ x) (hx1 : x ≤ 9999) : steleref03_Pad.f k x 4 = some ⟨(pr (x / 100) ++ pr (x % 100)).toArray⟩ := by
  obtain ⟨k, rfl⟩ : ∃ z, k = z + 5 := ⟨k - 5, by omega⟩
  unfold steleref03_Pad.f
  show steleref03_Pad.l0 (k + 4 + 1) x 4 ⟨([] : List UInt8).toArray⟩ 0 = _
  rw [pad_step _ _ _ _ _ hx (by omega) (by simp) (by omega) (by omega) (by omega)]
  rw [pad_step _ _ _ _ _ (by omega) (by omega) (by simp) (by omega) (by omega) (by omega)]
  rw [pad_step _ _ _ _ _ (by omega) (by omega) (by simp) (by omega) (by omega) (by omega)]
  rw [pad_step _ _ _ _ _ (by omega) (by omega) (by simp) (by omega) (by omega) (by omega)]
  refine (pad_end _ _ 4 _).trans ?_
  have e : [dg (x / 10 / 10 / 10), dg (x / 10 / 10), dg (x / 10), dg x] = pr (x / 100) ++ pr (x % 100) := by
    simp only [pr, List.cons_append, List.nil_append]
    rw [dg_congr (a := x / 10 / 10 / 10) (b := x / 100 / 10) (by omega), dg_congr (a := x / 10 / 10) (b := x / 100) (by omega), dg_congr (a := x / 10) (b := x % 100 / 10) (by omega), dg_congr (a := x) (b := x % 100) (by omega)]
  rw [e]
theorem app (a b : List UInt8) : (⟨a.toArray⟩ : ByteArray) ++ ⟨b.toArray⟩ = ⟨(a ++ b).toArray⟩ := by
  apply ByteArray.ext
  simp
theorem szl (a : List UInt8) : (⟨a.toArray⟩ : ByteArray).size = a.length := rfl
/-- the document's Show is the program's -/
theorem rshow (t : Int) (h0 : 0 ≤ t) (h1 : t ≤ 18446744073709551615) (k : Nat) (hk : 10020 < k) : steleref03_Show.f k t = clock_Show.f t := by
  unfold steleref03_Show.f
  by_cases c : t > 253402300799
  · rw [if_pos c, pshow_out t c]
  rw [if_neg c]
  obtain ⟨y, m, d, hc, hv, hy, hm, hd⟩ := civ_bds t h0 (by omega)
  have e1 : wrap64 (IntKind.u64.wrap (Int.tdiv t 86400)) = t / 86400 := by
    rw [Int.tdiv_eq_ediv_of_nonneg h0, IntKind.wrap_u64]; unfold wrap64; omega
  have e2 : wrap64 (Int.tmod t 86400) = t % 86400 := by
    rw [Int.tmod_eq_emod_of_nonneg h0]; unfold wrap64; omega
  rw [e1, e2, rcivil _ (by omega) (by omega) k hk]
  have hc' : clock_Civil.f (t / 86400) = some (y, m, d) := hc
  unfold clock_Civil.f at hc'
  rw [hc', Option.bind_some]
  show ((steleref03_Pad.f k y 4).bind _) = _
  rw [pad4 k (by omega) y (by omega) (by omega), Option.bind_some]
  show ((steleref03_Pad.f k m 2).bind _) = _
  rw [pad2 k (by omega) m (by omega) (by omega), Option.bind_some, if_pos (by simp [szl, pr])]
  show ((steleref03_Pad.f k d 2).bind _) = _
  rw [pad2 k (by omega) d (by omega) (by omega), Option.bind_some]
  have s84 : (⟨#[84]⟩ : ByteArray) = ⟨([84] : List UInt8).toArray⟩ := rfl
  have s90 : (⟨#[90]⟩ : ByteArray) = ⟨([90] : List UInt8).toArray⟩ := rfl
  rw [s84, s90]
  simp only [app, szl]
  have d1 : wrap64 (Int.tdiv (t % 86400) 3600) = t % 86400 / 3600 := by
    rw [Int.tdiv_eq_ediv_of_nonneg (by omega)]; unfold wrap64; omega
  have d2 : Int.tmod (wrap64 (Int.tdiv (t % 86400) 60)) 60 = t % 86400 / 60 % 60 := by
    rw [Int.tdiv_eq_ediv_of_nonneg (by omega), wrap_id (by omega) (by omega), Int.tmod_eq_emod_of_nonneg (by omega)]
  have d3 : Int.tmod (t % 86400) 60 = t % 86400 % 60 := by
    rw [Int.tmod_eq_emod_of_nonneg (by omega)]
  rw [d1, d2, d3, pad2 k (by omega) (t % 86400 / 3600) (by omega) (by omega), pad2 k (by omega) (t % 86400 / 60 % 60) (by omega) (by omega), pad2 k (by omega) (t % 86400 % 60) (by omega) (by omega)]
  simp only [Option.bind_some, app, szl, List.length_append, pr, List.length_cons, List.length_nil]
  repeat rw [if_pos (by decide)]
  unfold clock_Show.f
  rw [if_pos h0, hc, Option.map_some, if_pos (by omega)]
  congr 1
  try simp [showL, prs, pr]
theorem ClockShows' : stelelaw03_ClockShows.Pure := by
  intro t ht
  have h0 := bounds_u64 ht
  refine ⟨10021, ?_⟩
  unfold stelelaw03_ClockShows.f steleref03_Date.f
  rw [rshow t h0.1 h0.2 10021 (by omega)]
  by_cases c : t ≤ 253402300799
  · obtain ⟨y, m, d, h1, v1⟩ := pshow_in t h0.1 c
    unfold clock_Date.f
    rw [h1]
    have e : (8 : Int) ≤ ((⟨(showL y m d (t % 86400)).toArray⟩ : ByteArray).size : Int) := by rw [szl, showL_len]; decide
    simp [e]
  · unfold clock_Date.f
    rw [pshow_out t (by omega)]
    have e : (ByteArray.extract ⟨#[]⟩ 0 8) = (⟨#[]⟩ : ByteArray) := by decide
    simp only [Option.bind_some, Option.map_some, e]
    simp
end Go.Proofs.Ytlikgkcfkealkaa.PureS
namespace Go.Proofs.Ytlikgkcfkealkaa.Pure
theorem ClockShows : Go.Proofs.Ytlikgkcfkealkaa.PS.stelelaw03_ClockShows.Pure := Go.Proofs.Ytlikgkcfkealkaa.PureS.ClockShows'
end Go.Proofs.Ytlikgkcfkealkaa.Pure
