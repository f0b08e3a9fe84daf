/- The contracts of clock.begins, clock.Civil and clock.Day, by hand: what each returns at whatever ints, and that nothing that was there has changed. -/
import Derived.Test.YtlikgkcfkealkaaPCx0
import Derived.Test.YtlikgkcfkealkaaCal
namespace Go.Proofs.Ytlikgkcfkealkaa.PC
open Go.RowKit Go.Proofs.YtlikgkcfkealkaaW.PrintWords Go.Proofs.YtlikgkcfkealkaaW.PrintLast Go.Proofs.YtlikgkcfkealkaaW.PrintMore Go.Proofs.Ytlikgkcfkealkaa.Cal
attribute [local go_sem] max2_int min2_int max_two min_two max_three min_three max_four min_four
set_option linter.unusedVariables false
set_option linter.unusedSimpArgs false

theorem bcell {W w1 : World} (hb : Below W.heap.size W w1) : (∀ b o, b < W.heap.size → w1.cell? ⟨b, o, none⟩ = W.cell? ⟨b, o, none⟩) ∧ (∀ b o, b < W.heap.size → w1.frozen? ⟨b, o, none⟩ = W.frozen? ⟨b, o, none⟩) :=
  ⟨fun b o h => hb.cell (p := ⟨b, o, none⟩) h, fun b o h => hb.frozen (p := ⟨b, o, none⟩) h⟩
/-! ### clock_leap: function 31 -/
def clock_leap.f (a0 : Int) : Option (Bool) := if (Int.tmod a0 4) = 0 then (if (Int.tmod a0 100) = 0 then (some ((Int.tmod a0 400) == 0)) else (some true)) else (some false)
set_option maxHeartbeats 8000000 in
set_option maxRecDepth 100000 in
theorem clock_leap.calls (a0 : Int) (r : Bool) (w : World) (h : clock_leap.f a0 = some r) :
    Calls Try.prog 31 #[.int .i64 a0] w fun e w' => e = .returned (.bool r) ∧ Drawn0 w w' := by
  have H : (if (Int.tmod a0 4) = 0 then (if (Int.tmod a0 100) = 0 then (some ((Int.tmod a0 400) == 0)) else (some true)) else (some false)) = some r := h
  clear h
  by_cases c2 : (Int.tmod a0 4) = 0
  · rw [if_pos c2] at H
    have c2b0 : ((Int.tmod a0 4) == 0) = true := beq_iff_eq.mpr c2
    have c2b1 : ((Int.tmod a0 4) != 0) = false := bne_eq_false_iff_eq.mpr c2
    clear c2
    by_cases c3 : (Int.tmod a0 100) = 0
    · rw [if_pos c3] at H
      have c3b0 : ((Int.tmod a0 100) == 0) = true := beq_iff_eq.mpr c3
      have c3b1 : ((Int.tmod a0 100) != 0) = false := bne_eq_false_iff_eq.mpr c3
      clear c3
      obtain rfl := Option.some.inj H
      go_enter Try.func31, Try.ntmps31
      go_wp2
      go_ret
      exact ⟨by first | rfl | (simp; done) | (simp [*]; done), by repeat (first | exact Drawn0.refl _ | apply Drawn0.step)⟩
    · rw [if_neg c3] at H
      have c3b0 : ((Int.tmod a0 100) == 0) = false := beq_eq_false_iff_ne.mpr c3
      have c3b1 : ((Int.tmod a0 100) != 0) = true := bne_iff_ne.mpr c3
      obtain rfl := Option.some.inj H
      go_enter Try.func31, Try.ntmps31
      go_wp2
      go_ret
      exact ⟨by first | rfl | (simp; done) | (simp [*]; done), by repeat (first | exact Drawn0.refl _ | apply Drawn0.step)⟩
  · rw [if_neg c2] at H
    have c2b0 : ((Int.tmod a0 4) == 0) = false := beq_eq_false_iff_ne.mpr c2
    have c2b1 : ((Int.tmod a0 4) != 0) = true := bne_iff_ne.mpr c2
    obtain rfl := Option.some.inj H
    go_enter Try.func31, Try.ntmps31
    go_wp2
    go_ret
    exact ⟨by first | rfl | (simp; done) | (simp [*]; done), by repeat (first | exact Drawn0.refl _ | apply Drawn0.step)⟩

theorem leap_eq (y : Int) (h : 0 ≤ y) : clock_leap.f y = some (decide (lp y)) := by
  unfold clock_leap.f lp
  rw [Int.tmod_eq_emod_of_nonneg h, Int.tmod_eq_emod_of_nonneg h, Int.tmod_eq_emod_of_nonneg h]
  by_cases a : y % 4 = 0
  · rw [if_pos a]
    by_cases b : y % 100 = 0
    · rw [if_pos b]; simp [a, b]; rfl
    · rw [if_neg b]; simp [a, b]
  · rw [if_neg a]; simp [a]
def begL (y : Int) : List Value := [.int .i64 (cum y 1), .int .i64 (cum y 2), .int .i64 (cum y 3), .int .i64 (cum y 4), .int .i64 (cum y 5), .int .i64 (cum y 6), .int .i64 (cum y 7), .int .i64 (cum y 8), .int .i64 (cum y 9), .int .i64 (cum y 10), .int .i64 (cum y 11), .int .i64 (cum y 12), .int .i64 (cum y 13)]
theorem begL_no (y : Int) (h : ¬ lp y) : begL y = [.int .i64 0, .int .i64 31, .int .i64 59, .int .i64 90, .int .i64 120, .int .i64 151, .int .i64 181, .int .i64 212, .int .i64 243, .int .i64 273, .int .i64 304, .int .i64 334, .int .i64 365] := by
  simp [begL, cum, h]
theorem begL_yes (y : Int) (h : lp y) : begL y = [.int .i64 0, .int .i64 31, .int .i64 60, .int .i64 91, .int .i64 121, .int .i64 152, .int .i64 182, .int .i64 213, .int .i64 244, .int .i64 274, .int .i64 305, .int .i64 335, .int .i64 366] := by
  simp [begL, cum, h]
set_option maxHeartbeats 4000000 in
set_option maxRecDepth 100000 in
theorem begins_any (y : Int) (w : World) (h0 : 1 ≤ y) (h1 : y ≤ 9999) : Calls Try.prog 24 #[.int .i64 y] w fun e w' => e = .returned (.agg (begL y).toArray) ∧ Below w.heap.size w w' := by
  have hu := Try.underlying41
  by_cases h : lp y
  · have hl := Aside0.mk (show clock_leap.f y = some true by rw [leap_eq y (by omega)]; simp [h])
    rw [begL_yes y h]
    clear h
    go_enter Try.func24, Try.ntmps24
    go_wp2_with (go_at_call 31; refine (clock_leap.calls y true _ hl.out).mono ?_; rintro e w' ⟨rfl, ⟨nd, rfl⟩⟩)
    refine wp_loop_rounds 14 ?_
    repeat any_goals (rw [rounds_succ]; go_wp2)
    exact bodyPost_ret (v := .agg ([.int .i64 0, .int .i64 31, .int .i64 60, .int .i64 91, .int .i64 121, .int .i64 152, .int .i64 182, .int .i64 213, .int .i64 244, .int .i64 274, .int .i64 305, .int .i64 335, .int .i64 366]).toArray) (by simp [results, Try.results24, go_sem]) rfl ⟨rfl, by repeat (first | (with_reducible exact Below.refl _ _) | (with_reducible refine Below.setCell ?_ (by simp) _) | (with_reducible refine pw_below_drewN ?_ _) | (with_reducible refine Below.alloc ?_ (by simp) _))⟩
  · have hl := Aside0.mk (show clock_leap.f y = some false by rw [leap_eq y (by omega)]; simp [h])
    rw [begL_no y h]
    clear h
    go_enter Try.func24, Try.ntmps24
    go_wp2_with (go_at_call 31; refine (clock_leap.calls y false _ hl.out).mono ?_; rintro e w' ⟨rfl, ⟨nd, rfl⟩⟩)
    exact bodyPost_ret (v := .agg ([.int .i64 0, .int .i64 31, .int .i64 59, .int .i64 90, .int .i64 120, .int .i64 151, .int .i64 181, .int .i64 212, .int .i64 243, .int .i64 273, .int .i64 304, .int .i64 334, .int .i64 365]).toArray) (by simp [results, Try.results24, go_sem]) rfl ⟨rfl, by repeat (first | (with_reducible exact Below.refl _ _) | (with_reducible refine Below.setCell ?_ (by simp) _) | (with_reducible refine pw_below_drewN ?_ _) | (with_reducible refine Below.alloc ?_ (by simp) _))⟩
end Go.Proofs.Ytlikgkcfkealkaa.PC
