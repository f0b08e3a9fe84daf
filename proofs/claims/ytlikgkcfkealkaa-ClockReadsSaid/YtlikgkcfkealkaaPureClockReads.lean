/- The plain law of ClockReads: which texts are a time, and which one, for every text. -/
import Derived.Test.YtlikgkcfkealkaaDefClockReads
import Derived.Test.YtlikgkcfkealkaaGivenR
namespace Go.Proofs.Ytlikgkcfkealkaa.PureR
open Go.RowKit Go.Proofs.YtlikgkcfkealkaaW.PrintWords Go.Proofs.YtlikgkcfkealkaaW.PrintLast Go.Proofs.YtlikgkcfkealkaaW.PrintMore Go.Proofs.Ytlikgkcfkealkaa.Opn Go.Proofs.Ytlikgkcfkealkaa.PR Go.Proofs.Ytlikgkcfkealkaa.PC Go.Proofs.Ytlikgkcfkealkaa.Cal
set_option linter.unusedVariables false
set_option linter.unusedSimpArgs false

theorem wrap_id {n : Int} (h0 : -9223372036854775808 ≤ n) (h1 : n ≤ 9223372036854775807) : wrap64 n = n := by unfold wrap64; omega
theorem rleap_eq (y : Int) (h : 0 ≤ y) : steleref03_leap.f y = some (decide (lp y)) := by
  unfold steleref03_leap.f lp
  rw [Int.tmod_eq_emod_of_nonneg h, Int.tmod_eq_emod_of_nonneg h, Int.tmod_eq_emod_of_nonneg h]
  by_cases a : y % 4 = 0
  · rw [if_pos a]
    by_cases b : y % 100 = 0
    · rw [if_pos b]; simp [a, b]; rfl
    · rw [if_neg b]; simp [a, b]
  · rw [if_neg a]; simp [a]
theorem rdays_eq (y m : Int) (h : 0 ≤ y) : steleref03_days.f y m = some (dim y m) := by
  unfold steleref03_days.f dim
  rw [rleap_eq y h]
  by_cases a : m = 2
  · rw [if_pos a, if_pos a]; by_cases l : lp y <;> simp [l]
  · rw [if_neg a, if_neg a]
    by_cases b : m = 4 ∨ m = 6 ∨ m = 9 ∨ m = 11
    · rw [if_pos b]; rcases b with b | b | b | b <;> subst b <;> simp
    · rw [if_neg b, if_neg (by omega), if_neg (by omega), if_neg (by omega), if_neg (by omega)]
theorem rahead_eq (y : Int) (h : 1 ≤ y) (h1 : y ≤ 10000) : steleref03_ahead.f y = some (Cal.ahead y) := by
  unfold steleref03_ahead.f Cal.ahead
  have e : wrap64 (y - 1) = y - 1 := wrap_id (by omega) (by omega)
  rw [e, Int.tdiv_eq_ediv_of_nonneg (by omega), Int.tdiv_eq_ediv_of_nonneg (by omega), Int.tdiv_eq_ediv_of_nonneg (by omega)]
  have e1 : wrap64 (365 * (y - 1)) = 365 * (y - 1) := wrap_id (by omega) (by omega)
  have e2 : wrap64 ((y - 1) / 4) = (y - 1) / 4 := wrap_id (by omega) (by omega)
  have e3 : wrap64 ((y - 1) / 100) = (y - 1) / 100 := wrap_id (by omega) (by omega)
  have e4 : wrap64 ((y - 1) / 400) = (y - 1) / 400 := wrap_id (by omega) (by omega)
  rw [e1, e2, e3, e4]
  rw [wrap_id (n := 365 * (y - 1) + (y - 1) / 4) (by omega) (by omega)]
  rw [wrap_id (n := 365 * (y - 1) + (y - 1) / 4 - (y - 1) / 100) (by omega) (by omega)]
  rw [wrap_id (by omega) (by omega)]
theorem ahead_bd (y : Int) (h : 1 ≤ y) (h1 : y ≤ 10000) : 0 ≤ Cal.ahead y ∧ Cal.ahead y ≤ 3652059 := by
  have a := ahead_mono 1 y h
  have b := ahead_mono y 10000 h1
  rw [ahead_1] at a
  rw [ahead_max] at b
  omega
def dayP (y m d : Int) : Int × Int :=
  if y < 1 ∨ y > 9999 ∨ m < 1 ∨ m > 12 ∨ d < 1 ∨ d > dim y m then (0, 6) else (-719162 + Cal.ahead y + cum y m + d - 1, 0)
theorem rdayloop (y m d : Int) (hy : 1 ≤ y) (hy1 : y ≤ 9999) (hm : 1 ≤ m) (hm1 : m ≤ 12) (hd : 1 ≤ d) (hd1 : d ≤ 31) : ∀ (c k : Nat) (i : Int), 1 ≤ i → i ≤ m → m - i = c → c < k →
    steleref03_Day.l0 k y m d (-719162 + Cal.ahead y + cum y i) i = some (-719162 + Cal.ahead y + cum y m + d - 1, 0) := by
  intro c
  have bd := ahead_bd y hy (by omega)
  induction c with
  | zero =>
    intro k i a b e g
    obtain ⟨k, rfl⟩ : ∃ z, k = z + 1 := ⟨k - 1, by omega⟩
    obtain rfl : i = m := by omega
    have cb := cum_bd y i (by omega) (by omega)
    simp only [steleref03_Day.l0]
    rw [if_neg (by omega), wrap_id (n := -719162 + Cal.ahead y + cum y i + d) (by omega) (by omega), wrap_id (by omega) (by omega)]
  | succ c ih =>
    intro k i a b e g
    obtain ⟨k, rfl⟩ : ∃ z, k = z + 1 := ⟨k - 1, by omega⟩
    have cb := cum_bd y i (by omega) (by omega)
    have s := cum_succ y i (by omega) (by omega)
    have dp := dim_pos y i
    simp only [steleref03_Day.l0]
    rw [if_pos (by omega), rdays_eq y i (by omega)]
    simp only [Option.bind_some]
    rw [wrap_id (n := i + 1) (by omega) (by omega), wrap_id (by omega) (by omega)]
    have := ih k (i + 1) (by omega) (by omega) (by omega) (by omega)
    rw [s] at this
    rw [← this]
    congr 1
    omega
/-- the document's Day is the day's number -/
theorem rday (y m d : Int) (k : Nat) (hk : 20 < k) : steleref03_Day.f k y m d = some (dayP y m d) := by
  obtain ⟨k, rfl⟩ : ∃ z, k = z + 1 := ⟨k - 1, by omega⟩
  have no : steleref03_Day.j0 (k + 1) y m d true = some (0, 6) := by simp only [steleref03_Day.j0, if_true]
  unfold steleref03_Day.f dayP
  by_cases a1 : y < 1
  · rw [if_pos a1, no, if_pos (by omega)]
  rw [if_neg a1]
  by_cases a2 : y > 9999
  · rw [if_pos a2, no, if_pos (by omega)]
  rw [if_neg a2]
  by_cases a3 : m < 1
  · rw [if_pos a3, no, if_pos (by omega)]
  rw [if_neg a3]
  by_cases a4 : m > 12
  · rw [if_pos a4, no, if_pos (by omega)]
  rw [if_neg a4]
  by_cases a5 : d < 1
  · rw [if_pos a5, no, if_pos (by omega)]
  rw [if_neg a5, rdays_eq y m (by omega)]
  simp only [Option.bind_some]
  have dp := dim_pos y m
  by_cases a6 : d > dim y m
  · rw [decide_eq_true a6, no, if_pos (by omega)]
  · rw [decide_eq_false a6, if_neg (by omega)]
    simp only [steleref03_Day.j0, Bool.false_eq_true, if_false]
    rw [rahead_eq y (by omega) (by omega)]
    simp only [Option.bind_some]
    have bd := ahead_bd y (by omega) (by omega)
    rw [wrap_id (by omega) (by omega)]
    have := rdayloop y m d (by omega) (by omega) (by omega) (by omega) (by omega) (by omega) 11 k
    obtain ⟨c, hc⟩ : ∃ c : Nat, m - 1 = c := ⟨(m - 1).toNat, by omega⟩
    have := rdayloop y m d (by omega) (by omega) (by omega) (by omega) (by omega) (by omega) c k 1 (by omega) (by omega) (by omega) (by omega)
    rw [cum1] at this
    rw [← this]
    congr 1
    omega
def digit (c : Int) : Prop := 48 ≤ c ∧ c ≤ 57
theorem number2 (s : ByteArray) (hs : s.size = 2) (k : Nat) (hk : 2 < k) (A B : Int) (hA : bt s 0 = A) (hB : bt s 1 = B) :
    steleref03_number.f k s = some (if 48 ≤ A ∧ A ≤ 57 ∧ 48 ≤ B ∧ B ≤ 57 then 10 * (A - 48) + (B - 48) else -1) := by
  obtain ⟨k, rfl⟩ : ∃ z, k = z + 3 := ⟨k - 3, by omega⟩
  have ba := bt_range s 0
  have bb := bt_range s 1
  rw [hA] at ba
  rw [hB] at bb
  unfold steleref03_number.f
  simp only [steleref03_number.l0]
  rw [if_pos (by omega), if_pos (by omega), hA]
  by_cases a1 : A < 48
  · rw [if_pos a1, if_neg (by omega)]
  rw [if_neg a1]
  by_cases a2 : A > 57
  · rw [if_pos a2, if_neg (by omega)]
  rw [if_neg a2]
  have e1 : wrap64 (0 + 1) = 1 := by unfold wrap64; omega
  have e2 : wrap64 (wrap64 (0 * 10) + (A - 48) % 256) = A - 48 := by unfold wrap64; omega
  rw [e1, e2, if_pos (by omega), if_pos (by omega), hB]
  by_cases b1 : B < 48
  · rw [if_pos b1, if_neg (by omega)]
  rw [if_neg b1]
  by_cases b2 : B > 57
  · rw [if_pos b2, if_neg (by omega)]
  rw [if_neg b2]
  have e3 : wrap64 (1 + 1) = 2 := by unfold wrap64; omega
  have e4 : wrap64 (wrap64 ((A - 48) * 10) + (B - 48) % 256) = 10 * (A - 48) + (B - 48) := by unfold wrap64; omega
  rw [e3, e4, if_neg (by omega), if_pos (by omega)]
theorem number4 (s : ByteArray) (hs : s.size = 4) (k : Nat) (hk : 4 < k) (A B C D : Int) (hA : bt s 0 = A) (hB : bt s 1 = B) (hC : bt s 2 = C) (hD : bt s 3 = D) :
    steleref03_number.f k s = some (if 48 ≤ A ∧ A ≤ 57 ∧ 48 ≤ B ∧ B ≤ 57 ∧ 48 ≤ C ∧ C ≤ 57 ∧ 48 ≤ D ∧ D ≤ 57 then 1000 * (A - 48) + 100 * (B - 48) + 10 * (C - 48) + (D - 48) else -1) := by
  obtain ⟨k, rfl⟩ : ∃ z, k = z + 5 := ⟨k - 5, by omega⟩
  have ba := bt_range s 0
  have bb := bt_range s 1
  have bc := bt_range s 2
  have bd := bt_range s 3
  rw [hA] at ba
  rw [hB] at bb
  rw [hC] at bc
  rw [hD] at bd
  unfold steleref03_number.f
  simp only [steleref03_number.l0]
  rw [if_pos (by omega), if_pos (by omega), hA]
  by_cases a1 : A < 48
  · rw [if_pos a1, if_neg (by omega)]
  rw [if_neg a1]
  by_cases a2 : A > 57
  · rw [if_pos a2, if_neg (by omega)]
  rw [if_neg a2]
  have e1 : wrap64 (0 + 1) = 1 := by unfold wrap64; omega
  have e2 : wrap64 (wrap64 (0 * 10) + (A - 48) % 256) = A - 48 := by unfold wrap64; omega
  rw [e1, e2, if_pos (by omega), if_pos (by omega), hB]
  by_cases b1 : B < 48
  · rw [if_pos b1, if_neg (by omega)]
  rw [if_neg b1]
  by_cases b2 : B > 57
  · rw [if_pos b2, if_neg (by omega)]
  rw [if_neg b2]
  have e3 : wrap64 (1 + 1) = 2 := by unfold wrap64; omega
  have e4 : wrap64 (wrap64 ((A - 48) * 10) + (B - 48) % 256) = 10 * (A - 48) + (B - 48) := by unfold wrap64; omega
  rw [e3, e4, if_pos (by omega), if_pos (by omega), hC]
  by_cases c1 : C < 48
  · rw [if_pos c1, if_neg (by omega)]
  rw [if_neg c1]
  by_cases c2 : C > 57
  · rw [if_pos c2, if_neg (by omega)]
  rw [if_neg c2]
  have e5 : wrap64 (2 + 1) = 3 := by unfold wrap64; omega
  have e6 : wrap64 (wrap64 ((10 * (A - 48) + (B - 48)) * 10) + (C - 48) % 256) = 100 * (A - 48) + 10 * (B - 48) + (C - 48) := by unfold wrap64; omega
  rw [e5, e6, if_pos (by omega), if_pos (by omega), hD]
  by_cases d1 : D < 48
  · rw [if_pos d1, if_neg (by omega)]
  rw [if_neg d1]
  by_cases d2 : D > 57
  · rw [if_pos d2, if_neg (by omega)]
  rw [if_neg d2]
  have e7 : wrap64 (3 + 1) = 4 := by unfold wrap64; omega
  have e8 : wrap64 (wrap64 ((100 * (A - 48) + 10 * (B - 48) + (C - 48)) * 10) + (D - 48) % 256) = 1000 * (A - 48) + 100 * (B - 48) + 10 * (C - 48) + (D - 48) := by unfold wrap64; omega
  rw [e7, e8, if_neg (by omega), if_pos (by omega)]
theorem bt_extract (s : ByteArray) (a b : Nat) (hb : b ≤ s.size) (j : Nat) (hj : a + j < b) : bt (s.extract a b) (j : Int) = bt s ((a + j : Nat) : Int) := by
  unfold bt
  have h1 : ((j : Int)).toNat < (s.extract a b).size := by simp; omega
  have h2 : (((a + j : Nat) : Int)).toNat < s.size := by simp; omega
  rw [dif_pos h1, dif_pos h2]
  simp only [Int.toNat_natCast, ByteArray.getElem_extract]
theorem pday (y m d : Int) : clock_Day.f y m d = some (dayP y m d) := rfl
theorem u64_id {n : Int} (h0 : 0 ≤ n) (h1 : n ≤ 18446744073709551615) : IntKind.u64.wrap n = n := by rw [IntKind.wrap_u64]; omega
theorem dayP_bd (y m d : Int) : -719162 ≤ (dayP y m d).1 ∧ (dayP y m d).1 ≤ 2932896 := day_bd y m d _ (dayP y m d).2 (pday y m d)
def D2 (A B : Int) : Int := if 48 ≤ A ∧ A ≤ 57 ∧ 48 ≤ B ∧ B ≤ 57 then 10 * (A - 48) + (B - 48) else -1
def D4 (A B C D : Int) : Int := if 48 ≤ A ∧ A ≤ 57 ∧ 48 ≤ B ∧ B ≤ 57 ∧ 48 ≤ C ∧ C ≤ 57 ∧ 48 ≤ D ∧ D ≤ 57 then 1000 * (A - 48) + 100 * (B - 48) + 10 * (C - 48) + (D - 48) else -1
theorem n2at (s : ByteArray) (a : Nat) (h : a + 2 ≤ s.size) (k : Nat) (hk : 2 < k) : steleref03_number.f k (s.extract a (a + 2)) = some (D2 (bt s (a : Int)) (bt s ((a + 1 : Nat) : Int))) :=
  number2 _ (by simp; omega) k hk _ _ (by have := bt_extract s a (a + 2) h 0 (by omega); simpa using this) (by have := bt_extract s a (a + 2) h 1 (by omega); simpa using this)
theorem n4at (s : ByteArray) (h : 4 ≤ s.size) (k : Nat) (hk : 4 < k) : steleref03_number.f k (s.extract 0 4) = some (D4 (bt s 0) (bt s 1) (bt s 2) (bt s 3)) :=
  number4 _ (by simp; omega) k hk _ _ _ _ (by have := bt_extract s 0 4 h 0 (by omega); simpa using this) (by have := bt_extract s 0 4 h 1 (by omega); simpa using this) (by have := bt_extract s 0 4 h 2 (by omega); simpa using this) (by have := bt_extract s 0 4 h 3 (by omega); simpa using this)
theorem D2_tw (A B : Int) : (D2 A B = -1 ∧ tw A B = 100) ∨ (0 ≤ D2 A B ∧ D2 A B ≤ 99 ∧ tw A B = D2 A B) := by
  unfold D2 tw; split <;> omega
theorem D4_tw (A B C D : Int) : (D4 A B C D = -1 ∧ (tw A B = 100 ∨ tw C D = 100)) ∨ (0 ≤ tw A B ∧ tw A B ≤ 99 ∧ 0 ≤ tw C D ∧ tw C D ≤ 99 ∧ D4 A B C D = 100 * tw A B + tw C D) := by
  unfold D4 tw
  by_cases h : 48 ≤ A ∧ A ≤ 57 ∧ 48 ≤ B ∧ B ≤ 57 ∧ 48 ≤ C ∧ C ≤ 57 ∧ 48 ≤ D ∧ D ≤ 57
  · rw [if_pos h, if_pos (by omega), if_pos (by omega)]; omega
  · rw [if_neg h]
    left
    refine ⟨rfl, ?_⟩
    by_cases g : 48 ≤ A ∧ A ≤ 57 ∧ 48 ≤ B ∧ B ≤ 57
    · right; rw [if_neg (by omega)]
    · left; rw [if_neg g]
theorem dayP_no {y m d : Int} (h : y < 1 ∨ m < 1 ∨ m > 12 ∨ d < 1 ∨ d > 31) : dayP y m d = (0, 6) := by
  have := dim_pos y m
  unfold dayP; rw [if_pos (by omega)]
theorem dayP_err (y m d : Int) : (dayP y m d).2 = 0 ∨ dayP y m d = (0, 6) := by
  unfold dayP; split <;> simp
def tailR (p : Int × Int) (h i c : Int) : Option (Int × Int) := (if p.2 = 0 then (if p.1 < 0 then (some (0, 6)) else (if h < 0 then (some (0, 6)) else (if h > 23 then (some (0, 6)) else (if i < 0 then (some (0, 6)) else (if i > 59 then (some (0, 6)) else (if c < 0 then (some (0, 6)) else (if c > 59 then (some (0, 6)) else (some (IntKind.u64.wrap ((IntKind.u64.wrap ((IntKind.u64.wrap (p.1)) * 86400)) + (IntKind.u64.wrap (wrap64 ((wrap64 ((wrap64 (h * 3600)) + (wrap64 (i * 60)))) + c)))), 0))))))))) else (some (0, 6)))
theorem tailR_eq (p : Int × Int) (h i c : Int) (hp : p.1 ≤ 2932896) : tailR p h i c = some (if p.2 ≠ 0 ∨ p.1 < 0 ∨ h < 0 ∨ h > 23 ∨ i < 0 ∨ i > 59 ∨ c < 0 ∨ c > 59 then (0, 6) else (p.1 * 86400 + (3600 * h + 60 * i + c), 0)) := by
  unfold tailR
  by_cases a : p.2 ≠ 0 ∨ p.1 < 0 ∨ h < 0 ∨ h > 23 ∨ i < 0 ∨ i > 59 ∨ c < 0 ∨ c > 59
  · rw [if_pos a]
    by_cases b1 : p.2 = 0
    · rw [if_pos b1]
      by_cases b2 : p.1 < 0
      · rw [if_pos b2]
      rw [if_neg b2]
      by_cases b3 : h < 0
      · rw [if_pos b3]
      rw [if_neg b3]
      by_cases b4 : h > 23
      · rw [if_pos b4]
      rw [if_neg b4]
      by_cases b5 : i < 0
      · rw [if_pos b5]
      rw [if_neg b5]
      by_cases b6 : i > 59
      · rw [if_pos b6]
      rw [if_neg b6]
      by_cases b7 : c < 0
      · rw [if_pos b7]
      rw [if_neg b7, if_pos (by omega)]
    · rw [if_neg b1]
  · rw [if_neg a, if_pos (by omega), if_neg (by omega), if_neg (by omega), if_neg (by omega), if_neg (by omega), if_neg (by omega), if_neg (by omega), if_neg (by omega)]
    congr 2
    simp only [IntKind.wrap_u64, wrap64]
    omega
/-- the document's Read is the program's -/
theorem rread (s : ByteArray) (hs : s.size ≤ 140737488351232) (k : Nat) (hk : 30 < k) : steleref03_Read.f k s = clock_Read.f s := by
  obtain ⟨k, rfl⟩ : ∃ z, k = z + 1 := ⟨k - 1, by omega⟩
  have no : steleref03_Read.j0 (k + 1) s true = some (0, 6) := by simp only [steleref03_Read.j0, if_true]
  unfold steleref03_Read.f clock_Read.f
  by_cases c : s.size = 16
  · rw [if_pos (by omega), if_pos (by omega)]
    by_cases c8 : bt s 8 = 84
    · rw [if_pos c8, if_pos (by omega)]
      by_cases c15 : bt s 15 = 90
      · rw [if_pos ⟨c, c8, c15⟩]
        have e : (bt s 15 != 90) = false := by simp [c15]
        rw [e]
        simp only [steleref03_Read.j0, Bool.false_eq_true, if_false]
        rw [if_pos (show (0 : Nat) ≤ 4 by omega), if_pos (by omega), n4at s (by omega) k (by omega)]
        simp only [Option.bind_some]
        rw [if_pos (show (4 : Nat) ≤ 6 by omega), if_pos (by omega), n2at s 4 (by omega) k (by omega)]
        simp only [Option.bind_some]
        rw [if_pos (show (6 : Nat) ≤ 8 by omega), if_pos (by omega), n2at s 6 (by omega) k (by omega)]
        simp only [Option.bind_some]
        rw [if_pos (show (9 : Nat) ≤ 11 by omega), if_pos (by omega), n2at s 9 (by omega) k (by omega)]
        simp only [Option.bind_some]
        rw [if_pos (show (11 : Nat) ≤ 13 by omega), if_pos (by omega), n2at s 11 (by omega) k (by omega)]
        simp only [Option.bind_some]
        rw [if_pos (show (13 : Nat) ≤ 15 by omega), if_pos (by omega), n2at s 13 (by omega) k (by omega)]
        simp only [Option.bind_some]
        rw [rday _ _ _ k (by omega), pday]
        simp only [Option.bind_some]
        show tailR _ _ _ _ = _
        rw [tailR_eq _ _ _ _ (dayP_bd _ _ _).2]
        congr 1
        unfold readP
        have q0 : ((0 : Int) + 1) = 1 := by omega
        have t0 : twA s 0 = tw (bt s 0) (bt s 1) := rfl
        have t2 : twA s 2 = tw (bt s 2) (bt s 3) := rfl
        have t4 : twA s 4 = tw (bt s 4) (bt s 5) := rfl
        have t6 : twA s 6 = tw (bt s 6) (bt s 7) := rfl
        have t9 : twA s 9 = tw (bt s 9) (bt s 10) := rfl
        have t11 : twA s 11 = tw (bt s 11) (bt s 12) := rfl
        have t13 : twA s 13 = tw (bt s 13) (bt s 14) := rfl
        rw [t0, t2, t4, t6, t9, t11, t13]
        show (if (dayP (D4 (bt s 0) (bt s 1) (bt s 2) (bt s 3)) (D2 (bt s 4) (bt s 5)) (D2 (bt s 6) (bt s 7))).2 ≠ 0 ∨ (dayP (D4 (bt s 0) (bt s 1) (bt s 2) (bt s 3)) (D2 (bt s 4) (bt s 5)) (D2 (bt s 6) (bt s 7))).1 < 0 ∨ D2 (bt s 9) (bt s 10) < 0 ∨ D2 (bt s 9) (bt s 10) > 23 ∨ D2 (bt s 11) (bt s 12) < 0 ∨ D2 (bt s 11) (bt s 12) > 59 ∨ D2 (bt s 13) (bt s 14) < 0 ∨ D2 (bt s 13) (bt s 14) > 59 then ((0 : Int), (6 : Int)) else ((dayP (D4 (bt s 0) (bt s 1) (bt s 2) (bt s 3)) (D2 (bt s 4) (bt s 5)) (D2 (bt s 6) (bt s 7))).1 * 86400 + (3600 * D2 (bt s 9) (bt s 10) + 60 * D2 (bt s 11) (bt s 12) + D2 (bt s 13) (bt s 14)), 0)) = _
        rcases D4_tw (bt s 0) (bt s 1) (bt s 2) (bt s 3) with ⟨u1, u2⟩ | ⟨u1, u2, u3, u4, u5⟩
        · rw [u1, dayP_no (.inl (by omega)), if_pos (.inl (by decide)), if_pos (by omega)]
        rcases D2_tw (bt s 4) (bt s 5) with ⟨v1, v2⟩ | ⟨v1, v2, v3⟩
        · rw [v1, v2, dayP_no (.inr (.inl (by omega))), dayP_no (.inr (.inr (.inl (by omega)))), if_pos (.inl (by decide)), if_pos (by omega)]
        rcases D2_tw (bt s 6) (bt s 7) with ⟨w1, w2⟩ | ⟨w1, w2, w3⟩
        · rw [w1, w2, dayP_no (.inr (.inr (.inr (.inl (by omega))))), dayP_no (.inr (.inr (.inr (.inr (by omega))))), if_pos (.inl (by decide)), if_pos (by omega)]
        rw [u5, v3, w3]
        generalize dayP (100 * tw (bt s 0) (bt s 1) + tw (bt s 2) (bt s 3)) (D2 (bt s 4) (bt s 5)) (D2 (bt s 6) (bt s 7)) = p
        rcases D2_tw (bt s 9) (bt s 10) with ⟨x1, x2⟩ | ⟨x1, x2, x3⟩
        · rw [if_pos (by omega), if_pos (by omega)]
        rcases D2_tw (bt s 11) (bt s 12) with ⟨y1, y2⟩ | ⟨y1, y2, y3⟩
        · rw [if_pos (by omega), if_pos (by omega)]
        rcases D2_tw (bt s 13) (bt s 14) with ⟨z1, z2⟩ | ⟨z1, z2, z3⟩
        · rw [if_pos (by omega), if_pos (by omega)]
        rw [x3, y3, z3]
        by_cases g : p.2 ≠ 0 ∨ p.1 < 0 ∨ D2 (bt s 9) (bt s 10) > 23 ∨ D2 (bt s 11) (bt s 12) > 59 ∨ D2 (bt s 13) (bt s 14) > 59
        · rw [if_pos (by omega), if_pos (by omega)]
        · rw [if_neg (by omega), if_neg (by omega)]
      · rw [if_neg (fun h => c15 h.2.2)]
        have e : (bt s 15 != 90) = true := by simp [c15]
        rw [e, no]
    · rw [if_neg c8, if_neg (fun h => c8 h.2.1), no]
  · rw [if_neg (by omega), if_neg (fun h => c h.1), no]
end Go.Proofs.Ytlikgkcfkealkaa.PureR
namespace Go.Proofs.Ytlikgkcfkealkaa.Pure
open Go.Proofs.Ytlikgkcfkealkaa.PureR Go.Proofs.Ytlikgkcfkealkaa.PR Go.Proofs.Ytlikgkcfkealkaa.PC Go.Proofs.Ytlikgkcfkealkaa.Cal Go.RowKit Go.Proofs.YtlikgkcfkealkaaW.PrintWords
theorem ClockReads : stelelaw03_ClockReads.Pure := by
  intro s hs
  refine ⟨31, ?_⟩
  unfold stelelaw03_ClockReads.f
  rw [rread s hs 31 (by omega)]
  have e : ∃ p, clock_Read.f s = some p := by
    unfold clock_Read.f
    split
    · exact ⟨_, rfl⟩
    · exact ⟨_, rfl⟩
  obtain ⟨p, hp⟩ := e
  have e2 : clock_Read.f (⟨#[50, 48, 49, 53, 48, 56, 51, 48, 84, 49, 50, 51, 54, 48, 48, 90]⟩ : ByteArray) = some (1440938160, 0) := by decide +kernel
  rw [hp, e2]
  simp only [Option.bind_some, if_true]
  rfl
end Go.Proofs.Ytlikgkcfkealkaa.Pure
