/- The contracts of clock.Civil and clock.Day, by hand: what each returns at whatever ints, and that nothing that was there has changed. -/
import Derived.Test.YtlikgkcfkealkaaGivenC
namespace Go.Proofs.Ytlikgkcfkealkaa.PC
open Go.RowKit Go.Proofs.YtlikgkcfkealkaaW.PrintWords Go.Proofs.YtlikgkcfkealkaaW.PrintLast Go.Proofs.YtlikgkcfkealkaaW.PrintMore Go.Proofs.Ytlikgkcfkealkaa.Cal
attribute [local go_sem] max2_int min2_int max_two min_two max_three min_three max_four min_four
set_option linter.unusedVariables false
set_option linter.unusedSimpArgs false

def clock_Civil.f (a0 : Int) : Option (Int × Int × Int) := some (if a0 < -719162 then (0, 0, 0) else if a0 > 2932896 then (0, 0, 0) else civ (a0 + 719162))
theorem cq_bd (n : Int) : 0 ≤ cq n ∧ cq n ≤ 3 ∧ 0 ≤ n % 146097 - cq n * 36524 ∧ n % 146097 - cq n * 36524 ≤ 36524 := by
  unfold cq; split <;> omega
theorem aq_bd (n : Int) : 0 ≤ aq n ∧ aq n ≤ 3 ∧ 0 ≤ n2q n % 1461 - aq n * 365 ∧ n2q n % 1461 - aq n * 365 ≤ 365 := by
  unfold aq; split <;> omega
set_option maxHeartbeats 2000000 in
set_option maxRecDepth 100000 in
theorem civil_in (a0 : Int) (w : World) (h1 : -719162 ≤ a0) (h2 : a0 ≤ 2932896) :
    Calls Try.prog 14 #[.int .i64 a0] w fun e w' => e = .returned (.tuple #[.int .i64 (civ (a0 + 719162)).1, .int .i64 (civ (a0 + 719162)).2.1, .int .i64 (civ (a0 + 719162)).2.2]) ∧ Below w.heap.size w w' := by
  have hu := Try.underlying41
  have d1 : decide (a0 < -719162) = false := by simp; omega
  have d2 : decide (2932896 < a0) = false := by simp; omega
  have h1' : 0 ≤ a0 + 719162 := by omega
  have spec := Aside0.mk (yq_spec (a0 + 719162) (by omega) (by omega))
  have hc := cq_bd (a0 + 719162)
  have ha := aq_bd (a0 + 719162)
  go_enter Try.func14, Try.ntmps14
  go_upto_region 6 with (fail)
  go_cut [6] (fun v6 wc => v6 = .int .i64 (cq (a0 + 719162)) ∧ w = wc)
  case first =>
    go_wp2
    all_goals go_meet
    all_goals (case rel => exact ⟨by unfold cq; first | rw [if_pos ‹_›] | rw [if_neg (by omega)], rfl⟩)
  case rest =>
    obtain ⟨rfl, rfl⟩ := hcut
    go_upto_region 10 with (fail)
    go_cut [8] (fun v8 wc => v8 = .int .i64 (aq (a0 + 719162)) ∧ w = wc)
    case first =>
      go_wp2
      all_goals go_meet
      all_goals (case rel => exact ⟨by unfold aq n2q; first | rw [if_pos ‹_›] | rw [if_neg (by omega)], rfl⟩)
    case rest =>
      obtain ⟨rfl, rfl⟩ := hcut
      clear hc ha
      have hc := cq_bd (a0 + 719162)
      have ha := aq_bd (a0 + 719162)
      unfold n2q at ha
      go_wp2_with fail
      generalize hY : 400 * ((a0 + 719162) / 146097) + (100 * cq (a0 + 719162) + 4 * (((a0 + 719162) % 146097 - cq (a0 + 719162) * 36524) / 1461) + aq (a0 + 719162) + 1) = Y
      generalize hR : ((a0 + 719162) % 146097 - cq (a0 + 719162) * 36524) % 1461 - aq (a0 + 719162) * 365 = R
      have eY : Y = yq (a0 + 719162) := hY.symm
      have eR : R = rq (a0 + 719162) := hR.symm
      have sp := spec.out
      clear spec
      have hciv := Aside0.mk (show civ (a0 + 719162) = (Y, mon Y R, R - cum Y (mon Y R) + 1) by rw [eY, eR]; rfl)
      rw [← eY, ← eR] at sp
      clear hY hR eY eR hc ha
      obtain ⟨s1, s2, s3, s4, s5⟩ := sp
      have ms := mon_spec Y R s2 s3
      have S1 := Aside0.mk s1
      have S3 := Aside0.mk s3
      have MS := Aside0.mk ms
      clear s1 s3 ms d1 d2
      refine (begins_any Y _ (by omega) (by omega)).mono ?_
      rintro e w1 ⟨rfl, hb⟩
      have hz : w.heap.size ≤ w1.heap.size := hb.size
      unfold begL
      go_wp2
      have hcell : ∀ i : Nat, i < 13 → (w1.alloc (.cells #[.int .i64 (cum Y 1), .int .i64 (cum Y 2), .int .i64 (cum Y 3), .int .i64 (cum Y 4), .int .i64 (cum Y 5), .int .i64 (cum Y 6), .int .i64 (cum Y 7), .int .i64 (cum Y 8), .int .i64 (cum Y 9), .int .i64 (cum Y 10), .int .i64 (cum Y 11), .int .i64 (cum Y 12), .int .i64 (cum Y 13)] 41)).cell? ⟨w1.heap.size, i, none⟩ = some (.int .i64 (cum Y ((i : Int) + 1))) := by
        intro i hi
        have : i = 0 ∨ i = 1 ∨ i = 2 ∨ i = 3 ∨ i = 4 ∨ i = 5 ∨ i = 6 ∨ i = 7 ∨ i = 8 ∨ i = 9 ∨ i = 10 ∨ i = 11 ∨ i = 12 := by omega
        rcases this with h | h | h | h | h | h | h | h | h | h | h | h | h <;> subst h <;> simp [go_sem]
      have HB := Aside0.mk (show Below w.heap.size w (w1.alloc (.cells #[.int .i64 (cum Y 1), .int .i64 (cum Y 2), .int .i64 (cum Y 3), .int .i64 (cum Y 4), .int .i64 (cum Y 5), .int .i64 (cum Y 6), .int .i64 (cum Y 7), .int .i64 (cum Y 8), .int .i64 (cum Y 9), .int .i64 (cum Y 10), .int .i64 (cum Y 11), .int .i64 (cum Y 12), .int .i64 (cum Y 13)] 41)) from hb.alloc hz _)
      clear hb
      revert hcell HB
      generalize w1.alloc (.cells #[.int .i64 (cum Y 1), .int .i64 (cum Y 2), .int .i64 (cum Y 3), .int .i64 (cum Y 4), .int .i64 (cum Y 5), .int .i64 (cum Y 6), .int .i64 (cum Y 7), .int .i64 (cum Y 8), .int .i64 (cum Y 9), .int .i64 (cum Y 10), .int .i64 (cum Y 11), .int .i64 (cum Y 12), .int .i64 (cum Y 13)] 41) = w2
      intro hcell HB
      have HC := Aside0.mk hcell
      clear hcell
      go_loop [3] (fun v => ∃ k : Nat, 1 ≤ k ∧ k ≤ 12 ∧ v = .int .i64 k ∧ cum Y k ≤ R) (fun v => 12 - (intOf v).toNat)
      case atStart => exact ⟨1, by omega, by omega, rfl, by show cum Y 1 ≤ R; rw [cum1]; omega⟩
      case round =>
        obtain ⟨k, hk1, hk2, rfl, hkr⟩ := hrel
        have c0 := HC.out k (by omega)
        by_cases hlt : cum Y ((k : Int) + 1) ≤ R
        · have hk3 : k < 12 := by
            by_cases q : k < 12
            · exact q
            · exfalso
              have := MS.out
              have e13 := cum13 Y
              have : k = 12 := by omega
              subst this
              have s3 := S3.out
              have e12 : ((12 : Nat) : Int) + 1 = 13 := by omega
              rw [e12] at hlt
              omega
          go_wp2
          go_round
          case rel => exact ⟨k + 1, by omega, by omega, by go_num, by simpa using hlt⟩
          case measure => simp [intOf]; omega
        · have hkd : decide (cum Y ((k : Int) + 1) ≤ R) = false := by simpa using hlt
          have c1 : w2.cell? ⟨w1.heap.size, k - 1, none⟩ = some (.int .i64 (cum Y k)) := by
            have := HC.out (k - 1) (by omega)
            have e : (((k - 1 : Nat) : Int)) + 1 = k := by omega
            rwa [e] at this
          go_wp2
          go_quiet (fail)
          go_wp2
          go_ret3
          have hmon : mon Y R = k := mon_unique Y R k s2 S3.out (by omega) (by omega) hkr (by omega)
          have e := hciv.out
          rw [hmon] at e
          rw [e]
          have cb := cum_bd Y k (by omega) (by omega)
          have s3 := S3.out
          have eW : wrap64 (wrap64 (R - cum Y k) + 1) = R - cum Y k + 1 := by unfold wrap64; split at s3 <;> omega
          exact ⟨show Ending.returned (.tuple #[.int .i64 Y, .int .i64 k, .int .i64 (wrap64 (wrap64 (R - cum Y k) + 1))]) = _ by rw [eW], pw_below_drewN HB.out _⟩
theorem civil_out (a0 : Int) (w : World) (h : a0 < -719162 ∨ 2932896 < a0) :
    Calls Try.prog 14 #[.int .i64 a0] w fun e w' => e = .returned (.tuple #[.int .i64 0, .int .i64 0, .int .i64 0]) ∧ Below w.heap.size w w' := by
  have hu := Try.underlying41
  by_cases c : a0 < -719162
  · have d1 : decide (a0 < -719162) = true := by simp; omega
    go_enter Try.func14, Try.ntmps14
    go_wp2
    go_ret3
    exact ⟨rfl, Below.refl _ _⟩
  · have d1 : decide (a0 < -719162) = false := by simp; omega
    have d2 : decide (2932896 < a0) = true := by simp; omega
    go_enter Try.func14, Try.ntmps14
    go_wp2
    go_ret3
    exact ⟨rfl, Below.refl _ _⟩
theorem clock_Civil.calls (a0 : Int) (r1 r2 r3 : Int) (w : World) (h : clock_Civil.f a0 = some (r1, r2, r3)) :
    Calls Try.prog 14 #[.int .i64 a0] w fun e w' => e = .returned (.tuple #[.int .i64 r1, .int .i64 r2, .int .i64 r3]) ∧ Below w.heap.size w w' := by
  unfold clock_Civil.f at h
  by_cases c : a0 < -719162
  · rw [if_pos c] at h
    simp only [Option.some.injEq, Prod.mk.injEq] at h
    obtain ⟨rfl, rfl, rfl⟩ := h
    exact civil_out a0 w (.inl c)
  · rw [if_neg c] at h
    by_cases c2 : a0 > 2932896
    · rw [if_pos c2] at h
      simp only [Option.some.injEq, Prod.mk.injEq] at h
      obtain ⟨rfl, rfl, rfl⟩ := h
      exact civil_out a0 w (.inr c2)
    · rw [if_neg c2] at h
      have e := Option.some.inj h
      have k := civil_in a0 w (by omega) (by omega)
      rw [e] at k
      exact k
def clock_Day.f (y m d : Int) : Option (Int × Int) :=
  some (if y < 1 ∨ y > 9999 ∨ m < 1 ∨ m > 12 ∨ d < 1 ∨ d > dim y m then (0, 6) else (-719162 + Cal.ahead y + cum y m + d - 1, 0))
set_option maxHeartbeats 2000000 in
set_option maxRecDepth 100000 in
theorem day_out (y m d : Int) (w : World) (h : y < 1 ∨ y > 9999 ∨ m < 1 ∨ m > 12) :
    Calls Try.prog 16 #[.int .i64 y, .int .i64 m, .int .i64 d] w fun e w' => e = .returned (.tuple #[.int .i64 0, .int .i64 6]) ∧ Below w.heap.size w w' := by
  have hu := Try.underlying41
  by_cases c1 : y < 1
  · have d1 : decide (y < 1) = true := by simp; omega
    go_enter Try.func16, Try.ntmps16
    go_wp2
    go_ret2
    exact ⟨rfl, Below.refl _ _⟩
  have d1 : decide (y < 1) = false := by simp; omega
  by_cases c2 : 9999 < y
  · have d2 : decide (9999 < y) = true := by simp; omega
    go_enter Try.func16, Try.ntmps16
    go_wp2
    go_ret2
    exact ⟨rfl, Below.refl _ _⟩
  have d2 : decide (9999 < y) = false := by simp; omega
  by_cases c3 : m < 1
  · have d3 : decide (m < 1) = true := by simp; omega
    go_enter Try.func16, Try.ntmps16
    go_wp2
    go_ret2
    exact ⟨rfl, Below.refl _ _⟩
  have d3 : decide (m < 1) = false := by simp; omega
  have d4 : decide (12 < m) = true := by simp; omega
  go_enter Try.func16, Try.ntmps16
  go_wp2
  go_ret2
  exact ⟨rfl, Below.refl _ _⟩
set_option maxHeartbeats 2000000 in
set_option maxRecDepth 100000 in
theorem day_in (y d r c : Int) (k : Nat) (w : World) (hy : 1 ≤ y) (hy1 : y ≤ 9999) (hm : 1 ≤ k) (hm1 : k ≤ 12) (H : Aside0 ((if d < 1 ∨ d > dim y k then ((0 : Int), (6 : Int)) else (-719162 + Cal.ahead y + cum y k + d - 1, 0)) = (r, c))) :
    Calls Try.prog 16 #[.int .i64 y, .int .i64 k, .int .i64 d] w fun e w' => e = .returned (.tuple #[.int .i64 r, .int .i64 c]) ∧ Below w.heap.size w w' := by
  have hu := Try.underlying41
  have d1 : decide (y < 1) = false := by simp; omega
  have d2 : decide (9999 < y) = false := by simp; omega
  have d3 : decide ((k : Int) < 1) = false := by simp; omega
  have d4 : decide (12 < (k : Int)) = false := by simp; omega
  have cs := Aside0.mk (cum_succ y k (by omega) (by omega))
  have cb := cum_bd y k (by omega) (by omega)
  have dp := dim_pos y k
  have ab : 0 ≤ Cal.ahead y ∧ Cal.ahead y ≤ 3652059 := by
    have a := ahead_mono 1 y hy
    have b := ahead_mono y 10000 (by omega)
    rw [ahead_1] at a
    rw [ahead_max] at b
    omega
  go_enter Try.func16, Try.ntmps16
  go_wp2_with fail
  refine (begins_any y _ (by omega) (by omega)).mono ?_
  rintro e w1 ⟨rfl, hb⟩
  have hz : w.heap.size ≤ w1.heap.size := hb.size
  unfold begL
  go_wp2
  have hcell : ∀ i : Nat, i < 13 → (w1.alloc (.cells #[.int .i64 (cum y 1), .int .i64 (cum y 2), .int .i64 (cum y 3), .int .i64 (cum y 4), .int .i64 (cum y 5), .int .i64 (cum y 6), .int .i64 (cum y 7), .int .i64 (cum y 8), .int .i64 (cum y 9), .int .i64 (cum y 10), .int .i64 (cum y 11), .int .i64 (cum y 12), .int .i64 (cum y 13)] 41)).cell? ⟨w1.heap.size, i, none⟩ = some (.int .i64 (cum y ((i : Int) + 1))) := by
    intro i hi
    have : i = 0 ∨ i = 1 ∨ i = 2 ∨ i = 3 ∨ i = 4 ∨ i = 5 ∨ i = 6 ∨ i = 7 ∨ i = 8 ∨ i = 9 ∨ i = 10 ∨ i = 11 ∨ i = 12 := by omega
    rcases this with h | h | h | h | h | h | h | h | h | h | h | h | h <;> subst h <;> simp [go_sem]
  have HB := Aside0.mk (show Below w.heap.size w (w1.alloc (.cells #[.int .i64 (cum y 1), .int .i64 (cum y 2), .int .i64 (cum y 3), .int .i64 (cum y 4), .int .i64 (cum y 5), .int .i64 (cum y 6), .int .i64 (cum y 7), .int .i64 (cum y 8), .int .i64 (cum y 9), .int .i64 (cum y 10), .int .i64 (cum y 11), .int .i64 (cum y 12), .int .i64 (cum y 13)] 41)) from hb.alloc hz _)
  clear hb
  revert hcell HB
  generalize w1.alloc (.cells #[.int .i64 (cum y 1), .int .i64 (cum y 2), .int .i64 (cum y 3), .int .i64 (cum y 4), .int .i64 (cum y 5), .int .i64 (cum y 6), .int .i64 (cum y 7), .int .i64 (cum y 8), .int .i64 (cum y 9), .int .i64 (cum y 10), .int .i64 (cum y 11), .int .i64 (cum y 12), .int .i64 (cum y 13)] 41) = w2
  intro hcell HB
  have c0 : w2.cell? ⟨w1.heap.size, k, none⟩ = some (.int .i64 (cum y k + dim y k)) := by
    have := hcell k (by omega)
    rwa [cs.out] at this
  have c1 : w2.cell? ⟨w1.heap.size, k - 1, none⟩ = some (.int .i64 (cum y k)) := by
    have := hcell (k - 1) (by omega)
    have e : (((k - 1 : Nat) : Int)) + 1 = k := by omega
    rwa [e] at this
  clear hcell
  by_cases q1 : d < 1
  · have q1d : decide (d < 1) = true := by simp; omega
    go_quiet (fail)
    go_wp2
    go_ret2
    have h := H.out
    rw [if_pos (by omega)] at h
    obtain ⟨rfl, rfl⟩ := Prod.mk.inj h
    exact ⟨rfl, pw_below_drewN HB.out _⟩
  · have q1d : decide (d < 1) = false := by simp; omega
    by_cases q2 : dim y k < d
    · have q2d : decide (wrap64 (cum y k + dim y k - cum y k) < d) = true := by simp; unfold wrap64; omega
      go_quiet (fail)
      go_wp2
      go_ret2
      have h := H.out
      rw [if_pos (by omega)] at h
      obtain ⟨rfl, rfl⟩ := Prod.mk.inj h
      exact ⟨rfl, pw_below_drewN HB.out _⟩
    · have q2d : decide (wrap64 (cum y k + dim y k - cum y k) < d) = false := by simp; unfold wrap64; omega
      go_quiet (fail)
      go_wp2
      go_ret2
      have h := H.out
      rw [if_neg (by omega)] at h
      obtain ⟨rfl, rfl⟩ := Prod.mk.inj h
      refine ⟨show Ending.returned (.tuple #[.int .i64 (-719162 + 365 * (y - 1) + (y - 1) / 4 - (y - 1) / 100 + (y - 1) / 400 + cum y k + d - 1), .int .i64 0]) = _ from ?_, pw_below_drewN HB.out _⟩
      have e : -719162 + 365 * (y - 1) + (y - 1) / 4 - (y - 1) / 100 + (y - 1) / 400 + cum y k + d - 1 = -719162 + Cal.ahead y + cum y k + d - 1 := by unfold Cal.ahead; omega
      rw [e]
theorem clock_Day.calls (a0 a1 a2 : Int) (r1 r2 : Int) (w : World) (h : clock_Day.f a0 a1 a2 = some (r1, r2)) :
    Calls Try.prog 16 #[.int .i64 a0, .int .i64 a1, .int .i64 a2] w fun e w' => e = .returned (.tuple #[.int .i64 r1, .int .i64 r2]) ∧ Below w.heap.size w w' := by
  unfold clock_Day.f at h
  have h := Option.some.inj h
  by_cases c : a0 < 1 ∨ a0 > 9999 ∨ a1 < 1 ∨ a1 > 12
  · rw [if_pos (by omega)] at h
    obtain ⟨rfl, rfl⟩ := Prod.mk.inj h
    exact day_out a0 a1 a2 w c
  · obtain ⟨k, rfl⟩ : ∃ k : Nat, a1 = k := ⟨a1.toNat, by omega⟩
    refine day_in a0 a2 r1 r2 k w (by omega) (by omega) (by omega) (by omega) ⟨?_⟩
    rw [← h]
    by_cases q : a2 < 1 ∨ a2 > dim a0 k
    · rw [if_pos q, if_pos (by omega)]
    · rw [if_neg q, if_neg (by omega)]
end Go.Proofs.Ytlikgkcfkealkaa.PC
