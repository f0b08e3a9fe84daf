-- written by the workplace's driver round the kit's printer (wip/tools/myprint.py)
import Derived.Test.YtlikgkcfkealkaaPCx0
import Derived.Test.YtlikgkcfkealkaaGivenC2
namespace Go.Proofs.Ytlikgkcfkealkaa.PC
open Go.RowKit Go.Proofs.YtlikgkcfkealkaaW.PrintWords Go.Proofs.YtlikgkcfkealkaaW.PrintLast Go.Proofs.YtlikgkcfkealkaaW.PrintMore
attribute [local go_sem] max2_int min2_int max_two min_two max_three min_three max_four min_four   -- for this text's walks alone
set_option linter.unusedVariables false
set_option linter.unusedSimpArgs false

/-! ### stelelaw03_ClockNext: function 5 -/
def stelelaw03_ClockNext.j0 : Nat → Int → Int → Int → Int → Bool → Option (Bool)
  | 0, _, _, _, _, _ => none
  | k + 1, x0, x3, x4, x5, x38 => if x38 = true then (some false) else (if x0 ≥ 2932896 then (if x3 = 9999 then (if x4 = 12 then (some (x5 == 31)) else (some false)) else (some false)) else ((clock_Civil.f (wrap64 (x0 + 1))).bind fun bt127 => (if bt127.1 = x3 then (if bt127.2.1 = x4 then (if bt127.2.2 = (wrap64 (x5 + 1)) then (some true) else (if bt127.2.1 = (wrap64 (x4 + 1)) then (if bt127.2.2 = 1 then (if x5 ≥ 28 then (some true) else (if bt127.1 = (wrap64 (x3 + 1)) then (if bt127.2.1 = 1 then (if x4 = 12 then (some (x5 == 31)) else (some false)) else (some false)) else (some false))) else (if bt127.1 = (wrap64 (x3 + 1)) then (if bt127.2.1 = 1 then (some false) else (some false)) else (some false))) else (if bt127.1 = (wrap64 (x3 + 1)) then (if bt127.2.1 = 1 then (if bt127.2.2 = 1 then (if x4 = 12 then (some (x5 == 31)) else (some false)) else (some false)) else (some false)) else (some false)))) else (if bt127.2.1 = (wrap64 (x4 + 1)) then (if bt127.2.2 = 1 then (if x5 ≥ 28 then (some true) else (if bt127.1 = (wrap64 (x3 + 1)) then (if bt127.2.1 = 1 then (if x4 = 12 then (some (x5 == 31)) else (some false)) else (some false)) else (some false))) else (if bt127.1 = (wrap64 (x3 + 1)) then (if bt127.2.1 = 1 then (some false) else (some false)) else (some false))) else (if bt127.1 = (wrap64 (x3 + 1)) then (if bt127.2.1 = 1 then (if bt127.2.2 = 1 then (if x4 = 12 then (some (x5 == 31)) else (some false)) else (some false)) else (some false)) else (some false)))) else (if bt127.1 = (wrap64 (x3 + 1)) then (if bt127.2.1 = 1 then (if bt127.2.2 = 1 then (if x4 = 12 then (some (x5 == 31)) else (some false)) else (some false)) else (some false)) else (some false)))))
def stelelaw03_ClockNext.f (k : Nat) (a0 : Int) : Option (Bool) := (clock_Civil.f a0).bind fun bt122 => (if bt122.1 = 0 then (if a0 < (-719162) then (some true) else (some (decide (a0 > 2932896)))) else ((clock_Day.f bt122.1 bt122.2.1 bt122.2.2).bind fun bt125 => (if bt125.2 = 0 then (stelelaw03_ClockNext.j0 k a0 bt122.1 bt122.2.1 bt122.2.2 (bt125.1 != a0)) else (stelelaw03_ClockNext.j0 k a0 bt122.1 bt122.2.1 bt122.2.2 true))))
theorem stelelaw03_ClockNext.mono_l : ∀ k, (∀ y0 y1 y2 y3 y4, LeO (stelelaw03_ClockNext.j0 k y0 y1 y2 y3 y4) (stelelaw03_ClockNext.j0 (k + 1) y0 y1 y2 y3 y4))
  | 0 => fun _ _ _ _ _ r h => by simp [stelelaw03_ClockNext.j0] at h
  | k + 1 => by
    have ih0 := stelelaw03_ClockNext.mono_l k
    · intro y0 y1 y2 y3 y4
      unfold stelelaw03_ClockNext.j0
      repeat' first
      | (with_reducible exact ih0 _ _ _ _ _)
      | (with_reducible exact LeO.refl _)
      | (with_reducible exact LeO.none _)
      | (with_reducible refine LeO.ite ?_ ?_)
      | (with_reducible refine LeO.bind ?_ (fun _ => ?_))
      | exact ih0 _ _ _ _ _
      | exact LeO.none _
      | refine LeO.ite ?_ ?_
      | refine LeO.bind ?_ (fun _ => ?_)
theorem stelelaw03_ClockNext.mono : ∀ a0 k, LeO (stelelaw03_ClockNext.f k a0) (stelelaw03_ClockNext.f (k + 1) a0) := by
  intro a0 k
  have ih0 := stelelaw03_ClockNext.mono_l k
  unfold stelelaw03_ClockNext.f
  repeat' first
      | (with_reducible exact ih0 _ _ _ _ _)
      | (with_reducible exact LeO.refl _)
      | (with_reducible exact LeO.none _)
      | (with_reducible refine LeO.ite ?_ ?_)
      | (with_reducible refine LeO.bind ?_ (fun _ => ?_))
      | exact ih0 _ _ _ _ _
      | exact LeO.none _
      | refine LeO.ite ?_ ?_
      | refine LeO.bind ?_ (fun _ => ?_)
set_option maxHeartbeats 8000000 in
set_option maxRecDepth 100000 in
theorem stelelaw03_ClockNext.calls (k : Nat) (a0 : Int) (r : Bool) (w : World) (h : stelelaw03_ClockNext.f k a0 = some r) :
    Calls Try.prog 5 #[.int .i64 a0] w fun e w' => e = .returned (.bool r) ∧ Below w.heap.size w w' := by
  have HB := Aside0.mk (Below.refl w.heap.size w)
  have H : ((clock_Civil.f a0).bind fun bt122 => (if bt122.1 = 0 then (if a0 < (-719162) then (some true) else (some (decide (a0 > 2932896)))) else ((clock_Day.f bt122.1 bt122.2.1 bt122.2.2).bind fun bt125 => (if bt125.2 = 0 then (stelelaw03_ClockNext.j0 k a0 bt122.1 bt122.2.1 bt122.2.2 (bt125.1 != a0)) else (stelelaw03_ClockNext.j0 k a0 bt122.1 bt122.2.1 bt122.2.2 true))))) = some r := h
  clear h
  replace H := Option.bind_eq_some_iff.mp H
  obtain ⟨⟨t122, t123, t124⟩, A20, H⟩ := H
  replace H : (if t122 = 0 then (if a0 < (-719162) then (some true) else (some (decide (a0 > 2932896)))) else ((clock_Day.f t122 t123 t124).bind fun bt125 => (if bt125.2 = 0 then (stelelaw03_ClockNext.j0 k a0 t122 t123 t124 (bt125.1 != a0)) else (stelelaw03_ClockNext.j0 k a0 t122 t123 t124 true)))) = some r := H
  have A2 := Aside0.mk A20
  clear A20
  by_cases c3 : t122 = 0
  · rw [if_pos c3] at H
    have c3b0 : (t122 == 0) = true := beq_iff_eq.mpr c3
    have c3b1 : (t122 != 0) = false := bne_eq_false_iff_eq.mpr c3
    clear c3
    by_cases c4 : a0 < (-719162)
    · rw [if_pos c4] at H
      have c4b0 : decide (a0 < (-719162)) = true := decide_eq_true c4
      clear c4
      obtain rfl := Option.some.inj H
      go_enter Try.func5, Try.ntmps5
      go_wp2_with (first | ((with_reducible refine gate_callee (f := 14) rfl ?_); refine goesL_ (some 13) rfl rfl Try.func14 (by kernel_rfl) rfl #[.int .i64 a0] rfl (by (try simp only [List.map_toArray, List.map_cons, List.map_nil]); first | done | rfl | (simp only [List.length_drop, List.length_take]; rfl)) ?_; (with_reducible refine (clock_Civil.calls a0 t122 t123 t124 _ A2.out).mono ?_); rintro e w5 ⟨rfl, hb⟩; refine ⟨_, rfl, ?_⟩; have n0_ := Aside0.mk (below_step (by repeat (first | (with_reducible first | exact HB.out | apply below_alloc | apply pw_below_drewN | apply below_drew1) | exact HB.out)) hb); clear HB; have HB := n0_; clear n0_; (try clear hb); (try clear hb2); (try clear hk); (try clear hi)))
      go_ret
      exact ⟨by first | rfl | (simp [errW_none, errW_some] <;> rfl) | (simp [*, errW_none, errW_some] <;> rfl), by repeat (first | (with_reducible first | exact HB.out | apply below_alloc | apply pw_below_drewN | apply below_drew1) | exact HB.out)⟩
    · rw [if_neg c4] at H
      have c4b0 : decide (a0 < (-719162)) = false := decide_eq_false c4
      clear c4
      obtain rfl := Option.some.inj H
      go_enter Try.func5, Try.ntmps5
      go_wp2_with (first | ((with_reducible refine gate_callee (f := 14) rfl ?_); refine goesL_ (some 13) rfl rfl Try.func14 (by kernel_rfl) rfl #[.int .i64 a0] rfl (by (try simp only [List.map_toArray, List.map_cons, List.map_nil]); first | done | rfl | (simp only [List.length_drop, List.length_take]; rfl)) ?_; (with_reducible refine (clock_Civil.calls a0 t122 t123 t124 _ A2.out).mono ?_); rintro e w6 ⟨rfl, hb⟩; refine ⟨_, rfl, ?_⟩; have n0_ := Aside0.mk (below_step (by repeat (first | (with_reducible first | exact HB.out | apply below_alloc | apply pw_below_drewN | apply below_drew1) | exact HB.out)) hb); clear HB; have HB := n0_; clear n0_; (try clear hb); (try clear hb2); (try clear hk); (try clear hi)))
      go_ret
      exact ⟨by first | rfl | (simp [errW_none, errW_some] <;> rfl) | (simp [*, errW_none, errW_some] <;> rfl), by repeat (first | (with_reducible first | exact HB.out | apply below_alloc | apply pw_below_drewN | apply below_drew1) | exact HB.out)⟩
  · rw [if_neg c3] at H
    have c3b0 : (t122 == 0) = false := beq_eq_false_iff_ne.mpr c3
    have c3b1 : (t122 != 0) = true := bne_iff_ne.mpr c3
    replace H := Option.bind_eq_some_iff.mp H
    obtain ⟨⟨t125, t126⟩, A70, H⟩ := H
    replace H : (if t126 = 0 then (stelelaw03_ClockNext.j0 k a0 t122 t123 t124 (t125 != a0)) else (stelelaw03_ClockNext.j0 k a0 t122 t123 t124 true)) = some r := H
    have A7 := Aside0.mk A70
    clear A70
    have HC8 := Aside0.mk H
    clear H
    go_enter Try.func5, Try.ntmps5
    go_upto_region 5 with (first | ((with_reducible refine gate_callee (f := 14) rfl ?_); refine goesL_ (some 13) rfl rfl Try.func14 (by kernel_rfl) rfl #[.int .i64 a0] rfl (by (try simp only [List.map_toArray, List.map_cons, List.map_nil]); first | done | rfl | (simp only [List.length_drop, List.length_take]; rfl)) ?_; (with_reducible refine (clock_Civil.calls a0 t122 t123 t124 _ A2.out).mono ?_); rintro e w9 ⟨rfl, hb⟩; refine ⟨_, rfl, ?_⟩; have n0_ := Aside0.mk (below_step (by repeat (first | (with_reducible first | exact HB.out | apply below_alloc | apply pw_below_drewN | apply below_drew1) | exact HB.out)) hb); clear HB; have HB := n0_; clear n0_; (try clear hb); (try clear hb2); (try clear hk); (try clear hi)) | ((with_reducible refine gate_callee (f := 16) rfl ?_); refine goesL_ (some 29) rfl rfl Try.func16 (by kernel_rfl) rfl #[.int .i64 t122, .int .i64 t123, .int .i64 t124] rfl (by (try simp only [List.map_toArray, List.map_cons, List.map_nil]); first | done | rfl | (simp only [List.length_drop, List.length_take]; rfl)) ?_; (with_reducible refine (clock_Day.calls t122 t123 t124 t125 t126 _ A7.out).mono ?_); rintro e w10 ⟨rfl, hb⟩; refine ⟨_, rfl, ?_⟩; have n0_ := Aside0.mk (below_step (by repeat (first | (with_reducible first | exact HB.out | apply below_alloc | apply pw_below_drewN | apply below_drew1) | exact HB.out)) hb); clear HB; have HB := n0_; clear n0_; (try clear hb); (try clear hb2); (try clear hk); (try clear hi)))
    (try simp only [Act.put, List.setIfInBounds_toArray, List.set_cons_zero, List.set_cons_succ])
    go_cut [38] (fun v38 wc => ∃ (kq : Nat) (x38_7 : Bool), v38 = .bool x38_7 ∧ Aside0 (stelelaw03_ClockNext.j0 kq a0 t122 t123 t124 x38_7 = some r) ∧ Aside0 (kq ≤ k) ∧ Aside0 (Below w.heap.size w wc))
    case first =>
      have H := HC8.out
      clear HC8
      by_cases c11 : t126 = 0
      · rw [if_pos c11] at H
        have c11b0 : (t126 == 0) = true := beq_iff_eq.mpr c11
        have c11b1 : (t126 != 0) = false := bne_eq_false_iff_eq.mpr c11
        clear c11
        (first | rw [c11b0] | (simp only [i64_w, i32_w]; rw [c11b0]) | skip)
        have H' := Aside0.mk H
        clear H
        go_wp2
        go_meet
        case rel => exact ⟨_, ((t125 != a0)), (by first | rfl | (simp; done) | (simp [*]; done)), H', ⟨by first | omega | exact Nat.le_refl _⟩, ⟨by repeat (first | (with_reducible first | exact HB.out | apply below_alloc | apply pw_below_drewN | apply below_drew1) | exact HB.out)⟩⟩
      · rw [if_neg c11] at H
        have c11b0 : (t126 == 0) = false := beq_eq_false_iff_ne.mpr c11
        have c11b1 : (t126 != 0) = true := bne_iff_ne.mpr c11
        (first | rw [c11b0] | (simp only [i64_w, i32_w]; rw [c11b0]) | skip)
        have H' := Aside0.mk H
        clear H
        go_wp2
        go_meet
        case rel => exact ⟨_, (true), (by first | rfl | (simp; done) | (simp [*]; done)), H', ⟨by first | omega | exact Nat.le_refl _⟩, ⟨by repeat (first | (with_reducible first | exact HB.out | apply below_alloc | apply pw_below_drewN | apply below_drew1) | exact HB.out)⟩⟩
    case rest =>
      clear HC8
      try clear c1
      try clear p2
      try clear c3
      try clear c3b0
      try clear c3b1
      try clear c4
      try clear c4b0
      try clear c5
      try clear c11
      try clear c11b0
      try clear c11b1
      obtain ⟨kq, x38_7, rfl, HA, HJ7, HB⟩ := hcut
      cases kq with
      | zero => exact absurd HA.out (by simp [stelelaw03_ClockNext.j0])
      | succ kj7 =>
        have H := HA.out
        clear HA
        simp only [stelelaw03_ClockNext.j0] at H
        by_cases c12 : x38_7 = true
        · subst c12
          have H1 : (some false) = some r := by rw [if_pos rfl] at H; exact H
          clear H
          have H := H1
          clear H1
          obtain rfl := Option.some.inj H
          go_wp2
          go_ret
          exact ⟨by first | rfl | (simp [errW_none, errW_some] <;> rfl) | (simp [*, errW_none, errW_some] <;> rfl), by repeat (first | (with_reducible first | exact HB.out | apply below_alloc | apply pw_below_drewN | apply below_drew1) | exact HB.out)⟩
        · replace c12 := Bool.eq_false_iff.mpr c12
          subst c12
          have H1 : (if a0 ≥ 2932896 then (if t122 = 9999 then (if t123 = 12 then (some (t124 == 31)) else (some false)) else (some false)) else ((clock_Civil.f (wrap64 (a0 + 1))).bind fun bt127 => (if bt127.1 = t122 then (if bt127.2.1 = t123 then (if bt127.2.2 = (wrap64 (t124 + 1)) then (some true) else (if bt127.2.1 = (wrap64 (t123 + 1)) then (if bt127.2.2 = 1 then (if t124 ≥ 28 then (some true) else (if bt127.1 = (wrap64 (t122 + 1)) then (if bt127.2.1 = 1 then (if t123 = 12 then (some (t124 == 31)) else (some false)) else (some false)) else (some false))) else (if bt127.1 = (wrap64 (t122 + 1)) then (if bt127.2.1 = 1 then (some false) else (some false)) else (some false))) else (if bt127.1 = (wrap64 (t122 + 1)) then (if bt127.2.1 = 1 then (if bt127.2.2 = 1 then (if t123 = 12 then (some (t124 == 31)) else (some false)) else (some false)) else (some false)) else (some false)))) else (if bt127.2.1 = (wrap64 (t123 + 1)) then (if bt127.2.2 = 1 then (if t124 ≥ 28 then (some true) else (if bt127.1 = (wrap64 (t122 + 1)) then (if bt127.2.1 = 1 then (if t123 = 12 then (some (t124 == 31)) else (some false)) else (some false)) else (some false))) else (if bt127.1 = (wrap64 (t122 + 1)) then (if bt127.2.1 = 1 then (some false) else (some false)) else (some false))) else (if bt127.1 = (wrap64 (t122 + 1)) then (if bt127.2.1 = 1 then (if bt127.2.2 = 1 then (if t123 = 12 then (some (t124 == 31)) else (some false)) else (some false)) else (some false)) else (some false)))) else (if bt127.1 = (wrap64 (t122 + 1)) then (if bt127.2.1 = 1 then (if bt127.2.2 = 1 then (if t123 = 12 then (some (t124 == 31)) else (some false)) else (some false)) else (some false)) else (some false))))) = some r := by rw [if_neg (show ¬ (false = true) by decide)] at H; exact H
          clear H
          have H := H1
          clear H1
          by_cases c13 : a0 ≥ 2932896
          · rw [if_pos c13] at H
            have c13b0 : decide (2932896 ≤ a0) = true := decide_eq_true c13
            clear c13
            by_cases c14 : t122 = 9999
            · rw [if_pos c14] at H
              have c14b0 : (t122 == 9999) = true := beq_iff_eq.mpr c14
              have c14b1 : (t122 != 9999) = false := bne_eq_false_iff_eq.mpr c14
              clear c14
              by_cases c15 : t123 = 12
              · rw [if_pos c15] at H
                have c15b0 : (t123 == 12) = true := beq_iff_eq.mpr c15
                have c15b1 : (t123 != 12) = false := bne_eq_false_iff_eq.mpr c15
                clear c15
                obtain rfl := Option.some.inj H
                go_wp2
                go_ret
                exact ⟨by first | rfl | (simp [errW_none, errW_some] <;> rfl) | (simp [*, errW_none, errW_some] <;> rfl), by repeat (first | (with_reducible first | exact HB.out | apply below_alloc | apply pw_below_drewN | apply below_drew1) | exact HB.out)⟩
              · rw [if_neg c15] at H
                have c15b0 : (t123 == 12) = false := beq_eq_false_iff_ne.mpr c15
                have c15b1 : (t123 != 12) = true := bne_iff_ne.mpr c15
                obtain rfl := Option.some.inj H
                go_wp2
                go_ret
                exact ⟨by first | rfl | (simp [errW_none, errW_some] <;> rfl) | (simp [*, errW_none, errW_some] <;> rfl), by repeat (first | (with_reducible first | exact HB.out | apply below_alloc | apply pw_below_drewN | apply below_drew1) | exact HB.out)⟩
            · rw [if_neg c14] at H
              have c14b0 : (t122 == 9999) = false := beq_eq_false_iff_ne.mpr c14
              have c14b1 : (t122 != 9999) = true := bne_iff_ne.mpr c14
              obtain rfl := Option.some.inj H
              go_wp2
              go_ret
              exact ⟨by first | rfl | (simp [errW_none, errW_some] <;> rfl) | (simp [*, errW_none, errW_some] <;> rfl), by repeat (first | (with_reducible first | exact HB.out | apply below_alloc | apply pw_below_drewN | apply below_drew1) | exact HB.out)⟩
          · rw [if_neg c13] at H
            have c13b0 : decide (2932896 ≤ a0) = false := decide_eq_false c13
            clear c13
            replace H := Option.bind_eq_some_iff.mp H
            obtain ⟨⟨t127, t128, t129⟩, A160, H⟩ := H
            replace H : (if t127 = t122 then (if t128 = t123 then (if t129 = (wrap64 (t124 + 1)) then (some true) else (if t128 = (wrap64 (t123 + 1)) then (if t129 = 1 then (if t124 ≥ 28 then (some true) else (if t127 = (wrap64 (t122 + 1)) then (if t128 = 1 then (if t123 = 12 then (some (t124 == 31)) else (some false)) else (some false)) else (some false))) else (if t127 = (wrap64 (t122 + 1)) then (if t128 = 1 then (some false) else (some false)) else (some false))) else (if t127 = (wrap64 (t122 + 1)) then (if t128 = 1 then (if t129 = 1 then (if t123 = 12 then (some (t124 == 31)) else (some false)) else (some false)) else (some false)) else (some false)))) else (if t128 = (wrap64 (t123 + 1)) then (if t129 = 1 then (if t124 ≥ 28 then (some true) else (if t127 = (wrap64 (t122 + 1)) then (if t128 = 1 then (if t123 = 12 then (some (t124 == 31)) else (some false)) else (some false)) else (some false))) else (if t127 = (wrap64 (t122 + 1)) then (if t128 = 1 then (some false) else (some false)) else (some false))) else (if t127 = (wrap64 (t122 + 1)) then (if t128 = 1 then (if t129 = 1 then (if t123 = 12 then (some (t124 == 31)) else (some false)) else (some false)) else (some false)) else (some false)))) else (if t127 = (wrap64 (t122 + 1)) then (if t128 = 1 then (if t129 = 1 then (if t123 = 12 then (some (t124 == 31)) else (some false)) else (some false)) else (some false)) else (some false))) = some r := H
            have A16 := Aside0.mk A160
            clear A160
            by_cases c17 : t127 = t122
            · rw [if_pos c17] at H
              have c17b0 : (t127 == t122) = true := beq_iff_eq.mpr c17
              have c17b1 : (t127 != t122) = false := bne_eq_false_iff_eq.mpr c17
              clear c17
              by_cases c18 : t128 = t123
              · rw [if_pos c18] at H
                have c18b0 : (t128 == t123) = true := beq_iff_eq.mpr c18
                have c18b1 : (t128 != t123) = false := bne_eq_false_iff_eq.mpr c18
                clear c18
                by_cases c19 : t129 = (wrap64 (t124 + 1))
                · rw [if_pos c19] at H
                  have c19b0 : (t129 == (wrap64 (t124 + 1))) = true := beq_iff_eq.mpr c19
                  have c19b1 : (t129 != (wrap64 (t124 + 1))) = false := bne_eq_false_iff_eq.mpr c19
                  clear c19
                  obtain rfl := Option.some.inj H
                  go_wp2_with (first | ((with_reducible refine gate_callee (f := 14) rfl ?_); refine goesL_ (some 54) rfl rfl Try.func14 (by kernel_rfl) rfl #[.int .i64 (wrap64 (a0 + 1))] rfl (by (try simp only [List.map_toArray, List.map_cons, List.map_nil]); first | done | rfl | (simp only [List.length_drop, List.length_take]; rfl)) ?_; (with_reducible refine (clock_Civil.calls (wrap64 (a0 + 1)) t127 t128 t129 _ A16.out).mono ?_); rintro e w20 ⟨rfl, hb⟩; refine ⟨_, rfl, ?_⟩; have n0_ := Aside0.mk (below_step (by repeat (first | (with_reducible first | exact HB.out | apply below_alloc | apply pw_below_drewN | apply below_drew1) | exact HB.out)) hb); clear HB; have HB := n0_; clear n0_; (try clear hb); (try clear hb2); (try clear hk); (try clear hi)))
                  go_ret
                  exact ⟨by first | rfl | (simp [errW_none, errW_some] <;> rfl) | (simp [*, errW_none, errW_some] <;> rfl), by repeat (first | (with_reducible first | exact HB.out | apply below_alloc | apply pw_below_drewN | apply below_drew1) | exact HB.out)⟩
                · rw [if_neg c19] at H
                  have c19b0 : (t129 == (wrap64 (t124 + 1))) = false := beq_eq_false_iff_ne.mpr c19
                  have c19b1 : (t129 != (wrap64 (t124 + 1))) = true := bne_iff_ne.mpr c19
                  by_cases c21 : t128 = (wrap64 (t123 + 1))
                  · rw [if_pos c21] at H
                    have c21b0 : (t128 == (wrap64 (t123 + 1))) = true := beq_iff_eq.mpr c21
                    have c21b1 : (t128 != (wrap64 (t123 + 1))) = false := bne_eq_false_iff_eq.mpr c21
                    clear c21
                    by_cases c22 : t129 = 1
                    · rw [if_pos c22] at H
                      have c22b0 : (t129 == 1) = true := beq_iff_eq.mpr c22
                      have c22b1 : (t129 != 1) = false := bne_eq_false_iff_eq.mpr c22
                      clear c22
                      by_cases c23 : t124 ≥ 28
                      · rw [if_pos c23] at H
                        have c23b0 : decide (28 ≤ t124) = true := decide_eq_true c23
                        clear c23
                        obtain rfl := Option.some.inj H
                        go_wp2_with (first | ((with_reducible refine gate_callee (f := 14) rfl ?_); refine goesL_ (some 54) rfl rfl Try.func14 (by kernel_rfl) rfl #[.int .i64 (wrap64 (a0 + 1))] rfl (by (try simp only [List.map_toArray, List.map_cons, List.map_nil]); first | done | rfl | (simp only [List.length_drop, List.length_take]; rfl)) ?_; (with_reducible refine (clock_Civil.calls (wrap64 (a0 + 1)) t127 t128 t129 _ A16.out).mono ?_); rintro e w24 ⟨rfl, hb⟩; refine ⟨_, rfl, ?_⟩; have n0_ := Aside0.mk (below_step (by repeat (first | (with_reducible first | exact HB.out | apply below_alloc | apply pw_below_drewN | apply below_drew1) | exact HB.out)) hb); clear HB; have HB := n0_; clear n0_; (try clear hb); (try clear hb2); (try clear hk); (try clear hi)))
                        go_ret
                        exact ⟨by first | rfl | (simp [errW_none, errW_some] <;> rfl) | (simp [*, errW_none, errW_some] <;> rfl), by repeat (first | (with_reducible first | exact HB.out | apply below_alloc | apply pw_below_drewN | apply below_drew1) | exact HB.out)⟩
                      · rw [if_neg c23] at H
                        have c23b0 : decide (28 ≤ t124) = false := decide_eq_false c23
                        clear c23
                        by_cases c25 : t127 = (wrap64 (t122 + 1))
                        · rw [if_pos c25] at H
                          have c25b0 : (t127 == (wrap64 (t122 + 1))) = true := beq_iff_eq.mpr c25
                          have c25b1 : (t127 != (wrap64 (t122 + 1))) = false := bne_eq_false_iff_eq.mpr c25
                          clear c25
                          by_cases c26 : t128 = 1
                          · rw [if_pos c26] at H
                            have c26b0 : (t128 == 1) = true := beq_iff_eq.mpr c26
                            have c26b1 : (t128 != 1) = false := bne_eq_false_iff_eq.mpr c26
                            clear c26
                            by_cases c27 : t123 = 12
                            · rw [if_pos c27] at H
                              have c27b0 : (t123 == 12) = true := beq_iff_eq.mpr c27
                              have c27b1 : (t123 != 12) = false := bne_eq_false_iff_eq.mpr c27
                              clear c27
                              obtain rfl := Option.some.inj H
                              go_wp2_with (first | ((with_reducible refine gate_callee (f := 14) rfl ?_); refine goesL_ (some 54) rfl rfl Try.func14 (by kernel_rfl) rfl #[.int .i64 (wrap64 (a0 + 1))] rfl (by (try simp only [List.map_toArray, List.map_cons, List.map_nil]); first | done | rfl | (simp only [List.length_drop, List.length_take]; rfl)) ?_; (with_reducible refine (clock_Civil.calls (wrap64 (a0 + 1)) t127 t128 t129 _ A16.out).mono ?_); rintro e w28 ⟨rfl, hb⟩; refine ⟨_, rfl, ?_⟩; have n0_ := Aside0.mk (below_step (by repeat (first | (with_reducible first | exact HB.out | apply below_alloc | apply pw_below_drewN | apply below_drew1) | exact HB.out)) hb); clear HB; have HB := n0_; clear n0_; (try clear hb); (try clear hb2); (try clear hk); (try clear hi)))
                              go_ret
                              exact ⟨by first | rfl | (simp [errW_none, errW_some] <;> rfl) | (simp [*, errW_none, errW_some] <;> rfl), by repeat (first | (with_reducible first | exact HB.out | apply below_alloc | apply pw_below_drewN | apply below_drew1) | exact HB.out)⟩
                            · rw [if_neg c27] at H
                              have c27b0 : (t123 == 12) = false := beq_eq_false_iff_ne.mpr c27
                              have c27b1 : (t123 != 12) = true := bne_iff_ne.mpr c27
                              obtain rfl := Option.some.inj H
                              go_wp2_with (first | ((with_reducible refine gate_callee (f := 14) rfl ?_); refine goesL_ (some 54) rfl rfl Try.func14 (by kernel_rfl) rfl #[.int .i64 (wrap64 (a0 + 1))] rfl (by (try simp only [List.map_toArray, List.map_cons, List.map_nil]); first | done | rfl | (simp only [List.length_drop, List.length_take]; rfl)) ?_; (with_reducible refine (clock_Civil.calls (wrap64 (a0 + 1)) t127 t128 t129 _ A16.out).mono ?_); rintro e w29 ⟨rfl, hb⟩; refine ⟨_, rfl, ?_⟩; have n0_ := Aside0.mk (below_step (by repeat (first | (with_reducible first | exact HB.out | apply below_alloc | apply pw_below_drewN | apply below_drew1) | exact HB.out)) hb); clear HB; have HB := n0_; clear n0_; (try clear hb); (try clear hb2); (try clear hk); (try clear hi)))
                              go_ret
                              exact ⟨by first | rfl | (simp [errW_none, errW_some] <;> rfl) | (simp [*, errW_none, errW_some] <;> rfl), by repeat (first | (with_reducible first | exact HB.out | apply below_alloc | apply pw_below_drewN | apply below_drew1) | exact HB.out)⟩
                          · rw [if_neg c26] at H
                            have c26b0 : (t128 == 1) = false := beq_eq_false_iff_ne.mpr c26
                            have c26b1 : (t128 != 1) = true := bne_iff_ne.mpr c26
                            obtain rfl := Option.some.inj H
                            go_wp2_with (first | ((with_reducible refine gate_callee (f := 14) rfl ?_); refine goesL_ (some 54) rfl rfl Try.func14 (by kernel_rfl) rfl #[.int .i64 (wrap64 (a0 + 1))] rfl (by (try simp only [List.map_toArray, List.map_cons, List.map_nil]); first | done | rfl | (simp only [List.length_drop, List.length_take]; rfl)) ?_; (with_reducible refine (clock_Civil.calls (wrap64 (a0 + 1)) t127 t128 t129 _ A16.out).mono ?_); rintro e w30 ⟨rfl, hb⟩; refine ⟨_, rfl, ?_⟩; have n0_ := Aside0.mk (below_step (by repeat (first | (with_reducible first | exact HB.out | apply below_alloc | apply pw_below_drewN | apply below_drew1) | exact HB.out)) hb); clear HB; have HB := n0_; clear n0_; (try clear hb); (try clear hb2); (try clear hk); (try clear hi)))
                            go_ret
                            exact ⟨by first | rfl | (simp [errW_none, errW_some] <;> rfl) | (simp [*, errW_none, errW_some] <;> rfl), by repeat (first | (with_reducible first | exact HB.out | apply below_alloc | apply pw_below_drewN | apply below_drew1) | exact HB.out)⟩
                        · rw [if_neg c25] at H
                          have c25b0 : (t127 == (wrap64 (t122 + 1))) = false := beq_eq_false_iff_ne.mpr c25
                          have c25b1 : (t127 != (wrap64 (t122 + 1))) = true := bne_iff_ne.mpr c25
                          obtain rfl := Option.some.inj H
                          go_wp2_with (first | ((with_reducible refine gate_callee (f := 14) rfl ?_); refine goesL_ (some 54) rfl rfl Try.func14 (by kernel_rfl) rfl #[.int .i64 (wrap64 (a0 + 1))] rfl (by (try simp only [List.map_toArray, List.map_cons, List.map_nil]); first | done | rfl | (simp only [List.length_drop, List.length_take]; rfl)) ?_; (with_reducible refine (clock_Civil.calls (wrap64 (a0 + 1)) t127 t128 t129 _ A16.out).mono ?_); rintro e w31 ⟨rfl, hb⟩; refine ⟨_, rfl, ?_⟩; have n0_ := Aside0.mk (below_step (by repeat (first | (with_reducible first | exact HB.out | apply below_alloc | apply pw_below_drewN | apply below_drew1) | exact HB.out)) hb); clear HB; have HB := n0_; clear n0_; (try clear hb); (try clear hb2); (try clear hk); (try clear hi)))
                          go_ret
                          exact ⟨by first | rfl | (simp [errW_none, errW_some] <;> rfl) | (simp [*, errW_none, errW_some] <;> rfl), by repeat (first | (with_reducible first | exact HB.out | apply below_alloc | apply pw_below_drewN | apply below_drew1) | exact HB.out)⟩
                    · rw [if_neg c22] at H
                      have c22b0 : (t129 == 1) = false := beq_eq_false_iff_ne.mpr c22
                      have c22b1 : (t129 != 1) = true := bne_iff_ne.mpr c22
                      by_cases c32 : t127 = (wrap64 (t122 + 1))
                      · rw [if_pos c32] at H
                        have c32b0 : (t127 == (wrap64 (t122 + 1))) = true := beq_iff_eq.mpr c32
                        have c32b1 : (t127 != (wrap64 (t122 + 1))) = false := bne_eq_false_iff_eq.mpr c32
                        clear c32
                        by_cases c33 : t128 = 1
                        · rw [if_pos c33] at H
                          have c33b0 : (t128 == 1) = true := beq_iff_eq.mpr c33
                          have c33b1 : (t128 != 1) = false := bne_eq_false_iff_eq.mpr c33
                          clear c33
                          obtain rfl := Option.some.inj H
                          go_wp2_with (first | ((with_reducible refine gate_callee (f := 14) rfl ?_); refine goesL_ (some 54) rfl rfl Try.func14 (by kernel_rfl) rfl #[.int .i64 (wrap64 (a0 + 1))] rfl (by (try simp only [List.map_toArray, List.map_cons, List.map_nil]); first | done | rfl | (simp only [List.length_drop, List.length_take]; rfl)) ?_; (with_reducible refine (clock_Civil.calls (wrap64 (a0 + 1)) t127 t128 t129 _ A16.out).mono ?_); rintro e w34 ⟨rfl, hb⟩; refine ⟨_, rfl, ?_⟩; have n0_ := Aside0.mk (below_step (by repeat (first | (with_reducible first | exact HB.out | apply below_alloc | apply pw_below_drewN | apply below_drew1) | exact HB.out)) hb); clear HB; have HB := n0_; clear n0_; (try clear hb); (try clear hb2); (try clear hk); (try clear hi)))
                          go_ret
                          exact ⟨by first | rfl | (simp [errW_none, errW_some] <;> rfl) | (simp [*, errW_none, errW_some] <;> rfl), by repeat (first | (with_reducible first | exact HB.out | apply below_alloc | apply pw_below_drewN | apply below_drew1) | exact HB.out)⟩
                        · rw [if_neg c33] at H
                          have c33b0 : (t128 == 1) = false := beq_eq_false_iff_ne.mpr c33
                          have c33b1 : (t128 != 1) = true := bne_iff_ne.mpr c33
                          obtain rfl := Option.some.inj H
                          go_wp2_with (first | ((with_reducible refine gate_callee (f := 14) rfl ?_); refine goesL_ (some 54) rfl rfl Try.func14 (by kernel_rfl) rfl #[.int .i64 (wrap64 (a0 + 1))] rfl (by (try simp only [List.map_toArray, List.map_cons, List.map_nil]); first | done | rfl | (simp only [List.length_drop, List.length_take]; rfl)) ?_; (with_reducible refine (clock_Civil.calls (wrap64 (a0 + 1)) t127 t128 t129 _ A16.out).mono ?_); rintro e w35 ⟨rfl, hb⟩; refine ⟨_, rfl, ?_⟩; have n0_ := Aside0.mk (below_step (by repeat (first | (with_reducible first | exact HB.out | apply below_alloc | apply pw_below_drewN | apply below_drew1) | exact HB.out)) hb); clear HB; have HB := n0_; clear n0_; (try clear hb); (try clear hb2); (try clear hk); (try clear hi)))
                          go_ret
                          exact ⟨by first | rfl | (simp [errW_none, errW_some] <;> rfl) | (simp [*, errW_none, errW_some] <;> rfl), by repeat (first | (with_reducible first | exact HB.out | apply below_alloc | apply pw_below_drewN | apply below_drew1) | exact HB.out)⟩
                      · rw [if_neg c32] at H
                        have c32b0 : (t127 == (wrap64 (t122 + 1))) = false := beq_eq_false_iff_ne.mpr c32
                        have c32b1 : (t127 != (wrap64 (t122 + 1))) = true := bne_iff_ne.mpr c32
                        obtain rfl := Option.some.inj H
                        go_wp2_with (first | ((with_reducible refine gate_callee (f := 14) rfl ?_); refine goesL_ (some 54) rfl rfl Try.func14 (by kernel_rfl) rfl #[.int .i64 (wrap64 (a0 + 1))] rfl (by (try simp only [List.map_toArray, List.map_cons, List.map_nil]); first | done | rfl | (simp only [List.length_drop, List.length_take]; rfl)) ?_; (with_reducible refine (clock_Civil.calls (wrap64 (a0 + 1)) t127 t128 t129 _ A16.out).mono ?_); rintro e w36 ⟨rfl, hb⟩; refine ⟨_, rfl, ?_⟩; have n0_ := Aside0.mk (below_step (by repeat (first | (with_reducible first | exact HB.out | apply below_alloc | apply pw_below_drewN | apply below_drew1) | exact HB.out)) hb); clear HB; have HB := n0_; clear n0_; (try clear hb); (try clear hb2); (try clear hk); (try clear hi)))
                        go_ret
                        exact ⟨by first | rfl | (simp [errW_none, errW_some] <;> rfl) | (simp [*, errW_none, errW_some] <;> rfl), by repeat (first | (with_reducible first | exact HB.out | apply below_alloc | apply pw_below_drewN | apply below_drew1) | exact HB.out)⟩
                  · rw [if_neg c21] at H
                    have c21b0 : (t128 == (wrap64 (t123 + 1))) = false := beq_eq_false_iff_ne.mpr c21
                    have c21b1 : (t128 != (wrap64 (t123 + 1))) = true := bne_iff_ne.mpr c21
                    by_cases c37 : t127 = (wrap64 (t122 + 1))
                    · rw [if_pos c37] at H
                      have c37b0 : (t127 == (wrap64 (t122 + 1))) = true := beq_iff_eq.mpr c37
                      have c37b1 : (t127 != (wrap64 (t122 + 1))) = false := bne_eq_false_iff_eq.mpr c37
                      clear c37
                      by_cases c38 : t128 = 1
                      · rw [if_pos c38] at H
                        have c38b0 : (t128 == 1) = true := beq_iff_eq.mpr c38
                        have c38b1 : (t128 != 1) = false := bne_eq_false_iff_eq.mpr c38
                        clear c38
                        by_cases c39 : t129 = 1
                        · rw [if_pos c39] at H
                          have c39b0 : (t129 == 1) = true := beq_iff_eq.mpr c39
                          have c39b1 : (t129 != 1) = false := bne_eq_false_iff_eq.mpr c39
                          clear c39
                          by_cases c40 : t123 = 12
                          · rw [if_pos c40] at H
                            have c40b0 : (t123 == 12) = true := beq_iff_eq.mpr c40
                            have c40b1 : (t123 != 12) = false := bne_eq_false_iff_eq.mpr c40
                            clear c40
                            obtain rfl := Option.some.inj H
                            go_wp2_with (first | ((with_reducible refine gate_callee (f := 14) rfl ?_); refine goesL_ (some 54) rfl rfl Try.func14 (by kernel_rfl) rfl #[.int .i64 (wrap64 (a0 + 1))] rfl (by (try simp only [List.map_toArray, List.map_cons, List.map_nil]); first | done | rfl | (simp only [List.length_drop, List.length_take]; rfl)) ?_; (with_reducible refine (clock_Civil.calls (wrap64 (a0 + 1)) t127 t128 t129 _ A16.out).mono ?_); rintro e w41 ⟨rfl, hb⟩; refine ⟨_, rfl, ?_⟩; have n0_ := Aside0.mk (below_step (by repeat (first | (with_reducible first | exact HB.out | apply below_alloc | apply pw_below_drewN | apply below_drew1) | exact HB.out)) hb); clear HB; have HB := n0_; clear n0_; (try clear hb); (try clear hb2); (try clear hk); (try clear hi)))
                            go_ret
                            exact ⟨by first | rfl | (simp [errW_none, errW_some] <;> rfl) | (simp [*, errW_none, errW_some] <;> rfl), by repeat (first | (with_reducible first | exact HB.out | apply below_alloc | apply pw_below_drewN | apply below_drew1) | exact HB.out)⟩
                          · rw [if_neg c40] at H
                            have c40b0 : (t123 == 12) = false := beq_eq_false_iff_ne.mpr c40
                            have c40b1 : (t123 != 12) = true := bne_iff_ne.mpr c40
                            obtain rfl := Option.some.inj H
                            go_wp2_with (first | ((with_reducible refine gate_callee (f := 14) rfl ?_); refine goesL_ (some 54) rfl rfl Try.func14 (by kernel_rfl) rfl #[.int .i64 (wrap64 (a0 + 1))] rfl (by (try simp only [List.map_toArray, List.map_cons, List.map_nil]); first | done | rfl | (simp only [List.length_drop, List.length_take]; rfl)) ?_; (with_reducible refine (clock_Civil.calls (wrap64 (a0 + 1)) t127 t128 t129 _ A16.out).mono ?_); rintro e w42 ⟨rfl, hb⟩; refine ⟨_, rfl, ?_⟩; have n0_ := Aside0.mk (below_step (by repeat (first | (with_reducible first | exact HB.out | apply below_alloc | apply pw_below_drewN | apply below_drew1) | exact HB.out)) hb); clear HB; have HB := n0_; clear n0_; (try clear hb); (try clear hb2); (try clear hk); (try clear hi)))
                            go_ret
                            exact ⟨by first | rfl | (simp [errW_none, errW_some] <;> rfl) | (simp [*, errW_none, errW_some] <;> rfl), by repeat (first | (with_reducible first | exact HB.out | apply below_alloc | apply pw_below_drewN | apply below_drew1) | exact HB.out)⟩
                        · rw [if_neg c39] at H
                          have c39b0 : (t129 == 1) = false := beq_eq_false_iff_ne.mpr c39
                          have c39b1 : (t129 != 1) = true := bne_iff_ne.mpr c39
                          obtain rfl := Option.some.inj H
                          go_wp2_with (first | ((with_reducible refine gate_callee (f := 14) rfl ?_); refine goesL_ (some 54) rfl rfl Try.func14 (by kernel_rfl) rfl #[.int .i64 (wrap64 (a0 + 1))] rfl (by (try simp only [List.map_toArray, List.map_cons, List.map_nil]); first | done | rfl | (simp only [List.length_drop, List.length_take]; rfl)) ?_; (with_reducible refine (clock_Civil.calls (wrap64 (a0 + 1)) t127 t128 t129 _ A16.out).mono ?_); rintro e w43 ⟨rfl, hb⟩; refine ⟨_, rfl, ?_⟩; have n0_ := Aside0.mk (below_step (by repeat (first | (with_reducible first | exact HB.out | apply below_alloc | apply pw_below_drewN | apply below_drew1) | exact HB.out)) hb); clear HB; have HB := n0_; clear n0_; (try clear hb); (try clear hb2); (try clear hk); (try clear hi)))
                          go_ret
                          exact ⟨by first | rfl | (simp [errW_none, errW_some] <;> rfl) | (simp [*, errW_none, errW_some] <;> rfl), by repeat (first | (with_reducible first | exact HB.out | apply below_alloc | apply pw_below_drewN | apply below_drew1) | exact HB.out)⟩
                      · rw [if_neg c38] at H
                        have c38b0 : (t128 == 1) = false := beq_eq_false_iff_ne.mpr c38
                        have c38b1 : (t128 != 1) = true := bne_iff_ne.mpr c38
                        obtain rfl := Option.some.inj H
                        go_wp2_with (first | ((with_reducible refine gate_callee (f := 14) rfl ?_); refine goesL_ (some 54) rfl rfl Try.func14 (by kernel_rfl) rfl #[.int .i64 (wrap64 (a0 + 1))] rfl (by (try simp only [List.map_toArray, List.map_cons, List.map_nil]); first | done | rfl | (simp only [List.length_drop, List.length_take]; rfl)) ?_; (with_reducible refine (clock_Civil.calls (wrap64 (a0 + 1)) t127 t128 t129 _ A16.out).mono ?_); rintro e w44 ⟨rfl, hb⟩; refine ⟨_, rfl, ?_⟩; have n0_ := Aside0.mk (below_step (by repeat (first | (with_reducible first | exact HB.out | apply below_alloc | apply pw_below_drewN | apply below_drew1) | exact HB.out)) hb); clear HB; have HB := n0_; clear n0_; (try clear hb); (try clear hb2); (try clear hk); (try clear hi)))
                        go_ret
                        exact ⟨by first | rfl | (simp [errW_none, errW_some] <;> rfl) | (simp [*, errW_none, errW_some] <;> rfl), by repeat (first | (with_reducible first | exact HB.out | apply below_alloc | apply pw_below_drewN | apply below_drew1) | exact HB.out)⟩
                    · rw [if_neg c37] at H
                      have c37b0 : (t127 == (wrap64 (t122 + 1))) = false := beq_eq_false_iff_ne.mpr c37
                      have c37b1 : (t127 != (wrap64 (t122 + 1))) = true := bne_iff_ne.mpr c37
                      obtain rfl := Option.some.inj H
                      go_wp2_with (first | ((with_reducible refine gate_callee (f := 14) rfl ?_); refine goesL_ (some 54) rfl rfl Try.func14 (by kernel_rfl) rfl #[.int .i64 (wrap64 (a0 + 1))] rfl (by (try simp only [List.map_toArray, List.map_cons, List.map_nil]); first | done | rfl | (simp only [List.length_drop, List.length_take]; rfl)) ?_; (with_reducible refine (clock_Civil.calls (wrap64 (a0 + 1)) t127 t128 t129 _ A16.out).mono ?_); rintro e w45 ⟨rfl, hb⟩; refine ⟨_, rfl, ?_⟩; have n0_ := Aside0.mk (below_step (by repeat (first | (with_reducible first | exact HB.out | apply below_alloc | apply pw_below_drewN | apply below_drew1) | exact HB.out)) hb); clear HB; have HB := n0_; clear n0_; (try clear hb); (try clear hb2); (try clear hk); (try clear hi)))
                      go_ret
                      exact ⟨by first | rfl | (simp [errW_none, errW_some] <;> rfl) | (simp [*, errW_none, errW_some] <;> rfl), by repeat (first | (with_reducible first | exact HB.out | apply below_alloc | apply pw_below_drewN | apply below_drew1) | exact HB.out)⟩
              · rw [if_neg c18] at H
                have c18b0 : (t128 == t123) = false := beq_eq_false_iff_ne.mpr c18
                have c18b1 : (t128 != t123) = true := bne_iff_ne.mpr c18
                by_cases c46 : t128 = (wrap64 (t123 + 1))
                · rw [if_pos c46] at H
                  have c46b0 : (t128 == (wrap64 (t123 + 1))) = true := beq_iff_eq.mpr c46
                  have c46b1 : (t128 != (wrap64 (t123 + 1))) = false := bne_eq_false_iff_eq.mpr c46
                  clear c46
                  by_cases c47 : t129 = 1
                  · rw [if_pos c47] at H
                    have c47b0 : (t129 == 1) = true := beq_iff_eq.mpr c47
                    have c47b1 : (t129 != 1) = false := bne_eq_false_iff_eq.mpr c47
                    clear c47
                    by_cases c48 : t124 ≥ 28
                    · rw [if_pos c48] at H
                      have c48b0 : decide (28 ≤ t124) = true := decide_eq_true c48
                      clear c48
                      obtain rfl := Option.some.inj H
                      go_wp2_with (first | ((with_reducible refine gate_callee (f := 14) rfl ?_); refine goesL_ (some 54) rfl rfl Try.func14 (by kernel_rfl) rfl #[.int .i64 (wrap64 (a0 + 1))] rfl (by (try simp only [List.map_toArray, List.map_cons, List.map_nil]); first | done | rfl | (simp only [List.length_drop, List.length_take]; rfl)) ?_; (with_reducible refine (clock_Civil.calls (wrap64 (a0 + 1)) t127 t128 t129 _ A16.out).mono ?_); rintro e w49 ⟨rfl, hb⟩; refine ⟨_, rfl, ?_⟩; have n0_ := Aside0.mk (below_step (by repeat (first | (with_reducible first | exact HB.out | apply below_alloc | apply pw_below_drewN | apply below_drew1) | exact HB.out)) hb); clear HB; have HB := n0_; clear n0_; (try clear hb); (try clear hb2); (try clear hk); (try clear hi)))
                      go_ret
                      exact ⟨by first | rfl | (simp [errW_none, errW_some] <;> rfl) | (simp [*, errW_none, errW_some] <;> rfl), by repeat (first | (with_reducible first | exact HB.out | apply below_alloc | apply pw_below_drewN | apply below_drew1) | exact HB.out)⟩
                    · rw [if_neg c48] at H
                      have c48b0 : decide (28 ≤ t124) = false := decide_eq_false c48
                      clear c48
                      by_cases c50 : t127 = (wrap64 (t122 + 1))
                      · rw [if_pos c50] at H
                        have c50b0 : (t127 == (wrap64 (t122 + 1))) = true := beq_iff_eq.mpr c50
                        have c50b1 : (t127 != (wrap64 (t122 + 1))) = false := bne_eq_false_iff_eq.mpr c50
                        clear c50
                        by_cases c51 : t128 = 1
                        · rw [if_pos c51] at H
                          have c51b0 : (t128 == 1) = true := beq_iff_eq.mpr c51
                          have c51b1 : (t128 != 1) = false := bne_eq_false_iff_eq.mpr c51
                          clear c51
                          by_cases c52 : t123 = 12
                          · rw [if_pos c52] at H
                            have c52b0 : (t123 == 12) = true := beq_iff_eq.mpr c52
                            have c52b1 : (t123 != 12) = false := bne_eq_false_iff_eq.mpr c52
                            clear c52
                            obtain rfl := Option.some.inj H
                            go_wp2_with (first | ((with_reducible refine gate_callee (f := 14) rfl ?_); refine goesL_ (some 54) rfl rfl Try.func14 (by kernel_rfl) rfl #[.int .i64 (wrap64 (a0 + 1))] rfl (by (try simp only [List.map_toArray, List.map_cons, List.map_nil]); first | done | rfl | (simp only [List.length_drop, List.length_take]; rfl)) ?_; (with_reducible refine (clock_Civil.calls (wrap64 (a0 + 1)) t127 t128 t129 _ A16.out).mono ?_); rintro e w53 ⟨rfl, hb⟩; refine ⟨_, rfl, ?_⟩; have n0_ := Aside0.mk (below_step (by repeat (first | (with_reducible first | exact HB.out | apply below_alloc | apply pw_below_drewN | apply below_drew1) | exact HB.out)) hb); clear HB; have HB := n0_; clear n0_; (try clear hb); (try clear hb2); (try clear hk); (try clear hi)))
                            go_ret
                            exact ⟨by first | rfl | (simp [errW_none, errW_some] <;> rfl) | (simp [*, errW_none, errW_some] <;> rfl), by repeat (first | (with_reducible first | exact HB.out | apply below_alloc | apply pw_below_drewN | apply below_drew1) | exact HB.out)⟩
                          · rw [if_neg c52] at H
                            have c52b0 : (t123 == 12) = false := beq_eq_false_iff_ne.mpr c52
                            have c52b1 : (t123 != 12) = true := bne_iff_ne.mpr c52
                            obtain rfl := Option.some.inj H
                            go_wp2_with (first | ((with_reducible refine gate_callee (f := 14) rfl ?_); refine goesL_ (some 54) rfl rfl Try.func14 (by kernel_rfl) rfl #[.int .i64 (wrap64 (a0 + 1))] rfl (by (try simp only [List.map_toArray, List.map_cons, List.map_nil]); first | done | rfl | (simp only [List.length_drop, List.length_take]; rfl)) ?_; (with_reducible refine (clock_Civil.calls (wrap64 (a0 + 1)) t127 t128 t129 _ A16.out).mono ?_); rintro e w54 ⟨rfl, hb⟩; refine ⟨_, rfl, ?_⟩; have n0_ := Aside0.mk (below_step (by repeat (first | (with_reducible first | exact HB.out | apply below_alloc | apply pw_below_drewN | apply below_drew1) | exact HB.out)) hb); clear HB; have HB := n0_; clear n0_; (try clear hb); (try clear hb2); (try clear hk); (try clear hi)))
                            go_ret
                            exact ⟨by first | rfl | (simp [errW_none, errW_some] <;> rfl) | (simp [*, errW_none, errW_some] <;> rfl), by repeat (first | (with_reducible first | exact HB.out | apply below_alloc | apply pw_below_drewN | apply below_drew1) | exact HB.out)⟩
                        · rw [if_neg c51] at H
                          have c51b0 : (t128 == 1) = false := beq_eq_false_iff_ne.mpr c51
                          have c51b1 : (t128 != 1) = true := bne_iff_ne.mpr c51
                          obtain rfl := Option.some.inj H
                          go_wp2_with (first | ((with_reducible refine gate_callee (f := 14) rfl ?_); refine goesL_ (some 54) rfl rfl Try.func14 (by kernel_rfl) rfl #[.int .i64 (wrap64 (a0 + 1))] rfl (by (try simp only [List.map_toArray, List.map_cons, List.map_nil]); first | done | rfl | (simp only [List.length_drop, List.length_take]; rfl)) ?_; (with_reducible refine (clock_Civil.calls (wrap64 (a0 + 1)) t127 t128 t129 _ A16.out).mono ?_); rintro e w55 ⟨rfl, hb⟩; refine ⟨_, rfl, ?_⟩; have n0_ := Aside0.mk (below_step (by repeat (first | (with_reducible first | exact HB.out | apply below_alloc | apply pw_below_drewN | apply below_drew1) | exact HB.out)) hb); clear HB; have HB := n0_; clear n0_; (try clear hb); (try clear hb2); (try clear hk); (try clear hi)))
                          go_ret
                          exact ⟨by first | rfl | (simp [errW_none, errW_some] <;> rfl) | (simp [*, errW_none, errW_some] <;> rfl), by repeat (first | (with_reducible first | exact HB.out | apply below_alloc | apply pw_below_drewN | apply below_drew1) | exact HB.out)⟩
                      · rw [if_neg c50] at H
                        have c50b0 : (t127 == (wrap64 (t122 + 1))) = false := beq_eq_false_iff_ne.mpr c50
                        have c50b1 : (t127 != (wrap64 (t122 + 1))) = true := bne_iff_ne.mpr c50
                        obtain rfl := Option.some.inj H
                        go_wp2_with (first | ((with_reducible refine gate_callee (f := 14) rfl ?_); refine goesL_ (some 54) rfl rfl Try.func14 (by kernel_rfl) rfl #[.int .i64 (wrap64 (a0 + 1))] rfl (by (try simp only [List.map_toArray, List.map_cons, List.map_nil]); first | done | rfl | (simp only [List.length_drop, List.length_take]; rfl)) ?_; (with_reducible refine (clock_Civil.calls (wrap64 (a0 + 1)) t127 t128 t129 _ A16.out).mono ?_); rintro e w56 ⟨rfl, hb⟩; refine ⟨_, rfl, ?_⟩; have n0_ := Aside0.mk (below_step (by repeat (first | (with_reducible first | exact HB.out | apply below_alloc | apply pw_below_drewN | apply below_drew1) | exact HB.out)) hb); clear HB; have HB := n0_; clear n0_; (try clear hb); (try clear hb2); (try clear hk); (try clear hi)))
                        go_ret
                        exact ⟨by first | rfl | (simp [errW_none, errW_some] <;> rfl) | (simp [*, errW_none, errW_some] <;> rfl), by repeat (first | (with_reducible first | exact HB.out | apply below_alloc | apply pw_below_drewN | apply below_drew1) | exact HB.out)⟩
                  · rw [if_neg c47] at H
                    have c47b0 : (t129 == 1) = false := beq_eq_false_iff_ne.mpr c47
                    have c47b1 : (t129 != 1) = true := bne_iff_ne.mpr c47
                    by_cases c57 : t127 = (wrap64 (t122 + 1))
                    · rw [if_pos c57] at H
                      have c57b0 : (t127 == (wrap64 (t122 + 1))) = true := beq_iff_eq.mpr c57
                      have c57b1 : (t127 != (wrap64 (t122 + 1))) = false := bne_eq_false_iff_eq.mpr c57
                      clear c57
                      by_cases c58 : t128 = 1
                      · rw [if_pos c58] at H
                        have c58b0 : (t128 == 1) = true := beq_iff_eq.mpr c58
                        have c58b1 : (t128 != 1) = false := bne_eq_false_iff_eq.mpr c58
                        clear c58
                        obtain rfl := Option.some.inj H
                        go_wp2_with (first | ((with_reducible refine gate_callee (f := 14) rfl ?_); refine goesL_ (some 54) rfl rfl Try.func14 (by kernel_rfl) rfl #[.int .i64 (wrap64 (a0 + 1))] rfl (by (try simp only [List.map_toArray, List.map_cons, List.map_nil]); first | done | rfl | (simp only [List.length_drop, List.length_take]; rfl)) ?_; (with_reducible refine (clock_Civil.calls (wrap64 (a0 + 1)) t127 t128 t129 _ A16.out).mono ?_); rintro e w59 ⟨rfl, hb⟩; refine ⟨_, rfl, ?_⟩; have n0_ := Aside0.mk (below_step (by repeat (first | (with_reducible first | exact HB.out | apply below_alloc | apply pw_below_drewN | apply below_drew1) | exact HB.out)) hb); clear HB; have HB := n0_; clear n0_; (try clear hb); (try clear hb2); (try clear hk); (try clear hi)))
                        go_ret
                        exact ⟨by first | rfl | (simp [errW_none, errW_some] <;> rfl) | (simp [*, errW_none, errW_some] <;> rfl), by repeat (first | (with_reducible first | exact HB.out | apply below_alloc | apply pw_below_drewN | apply below_drew1) | exact HB.out)⟩
                      · rw [if_neg c58] at H
                        have c58b0 : (t128 == 1) = false := beq_eq_false_iff_ne.mpr c58
                        have c58b1 : (t128 != 1) = true := bne_iff_ne.mpr c58
                        obtain rfl := Option.some.inj H
                        go_wp2_with (first | ((with_reducible refine gate_callee (f := 14) rfl ?_); refine goesL_ (some 54) rfl rfl Try.func14 (by kernel_rfl) rfl #[.int .i64 (wrap64 (a0 + 1))] rfl (by (try simp only [List.map_toArray, List.map_cons, List.map_nil]); first | done | rfl | (simp only [List.length_drop, List.length_take]; rfl)) ?_; (with_reducible refine (clock_Civil.calls (wrap64 (a0 + 1)) t127 t128 t129 _ A16.out).mono ?_); rintro e w60 ⟨rfl, hb⟩; refine ⟨_, rfl, ?_⟩; have n0_ := Aside0.mk (below_step (by repeat (first | (with_reducible first | exact HB.out | apply below_alloc | apply pw_below_drewN | apply below_drew1) | exact HB.out)) hb); clear HB; have HB := n0_; clear n0_; (try clear hb); (try clear hb2); (try clear hk); (try clear hi)))
                        go_ret
                        exact ⟨by first | rfl | (simp [errW_none, errW_some] <;> rfl) | (simp [*, errW_none, errW_some] <;> rfl), by repeat (first | (with_reducible first | exact HB.out | apply below_alloc | apply pw_below_drewN | apply below_drew1) | exact HB.out)⟩
                    · rw [if_neg c57] at H
                      have c57b0 : (t127 == (wrap64 (t122 + 1))) = false := beq_eq_false_iff_ne.mpr c57
                      have c57b1 : (t127 != (wrap64 (t122 + 1))) = true := bne_iff_ne.mpr c57
                      obtain rfl := Option.some.inj H
                      go_wp2_with (first | ((with_reducible refine gate_callee (f := 14) rfl ?_); refine goesL_ (some 54) rfl rfl Try.func14 (by kernel_rfl) rfl #[.int .i64 (wrap64 (a0 + 1))] rfl (by (try simp only [List.map_toArray, List.map_cons, List.map_nil]); first | done | rfl | (simp only [List.length_drop, List.length_take]; rfl)) ?_; (with_reducible refine (clock_Civil.calls (wrap64 (a0 + 1)) t127 t128 t129 _ A16.out).mono ?_); rintro e w61 ⟨rfl, hb⟩; refine ⟨_, rfl, ?_⟩; have n0_ := Aside0.mk (below_step (by repeat (first | (with_reducible first | exact HB.out | apply below_alloc | apply pw_below_drewN | apply below_drew1) | exact HB.out)) hb); clear HB; have HB := n0_; clear n0_; (try clear hb); (try clear hb2); (try clear hk); (try clear hi)))
                      go_ret
                      exact ⟨by first | rfl | (simp [errW_none, errW_some] <;> rfl) | (simp [*, errW_none, errW_some] <;> rfl), by repeat (first | (with_reducible first | exact HB.out | apply below_alloc | apply pw_below_drewN | apply below_drew1) | exact HB.out)⟩
                · rw [if_neg c46] at H
                  have c46b0 : (t128 == (wrap64 (t123 + 1))) = false := beq_eq_false_iff_ne.mpr c46
                  have c46b1 : (t128 != (wrap64 (t123 + 1))) = true := bne_iff_ne.mpr c46
                  by_cases c62 : t127 = (wrap64 (t122 + 1))
                  · rw [if_pos c62] at H
                    have c62b0 : (t127 == (wrap64 (t122 + 1))) = true := beq_iff_eq.mpr c62
                    have c62b1 : (t127 != (wrap64 (t122 + 1))) = false := bne_eq_false_iff_eq.mpr c62
                    clear c62
                    by_cases c63 : t128 = 1
                    · rw [if_pos c63] at H
                      have c63b0 : (t128 == 1) = true := beq_iff_eq.mpr c63
                      have c63b1 : (t128 != 1) = false := bne_eq_false_iff_eq.mpr c63
                      clear c63
                      by_cases c64 : t129 = 1
                      · rw [if_pos c64] at H
                        have c64b0 : (t129 == 1) = true := beq_iff_eq.mpr c64
                        have c64b1 : (t129 != 1) = false := bne_eq_false_iff_eq.mpr c64
                        clear c64
                        by_cases c65 : t123 = 12
                        · rw [if_pos c65] at H
                          have c65b0 : (t123 == 12) = true := beq_iff_eq.mpr c65
                          have c65b1 : (t123 != 12) = false := bne_eq_false_iff_eq.mpr c65
                          clear c65
                          obtain rfl := Option.some.inj H
                          go_wp2_with (first | ((with_reducible refine gate_callee (f := 14) rfl ?_); refine goesL_ (some 54) rfl rfl Try.func14 (by kernel_rfl) rfl #[.int .i64 (wrap64 (a0 + 1))] rfl (by (try simp only [List.map_toArray, List.map_cons, List.map_nil]); first | done | rfl | (simp only [List.length_drop, List.length_take]; rfl)) ?_; (with_reducible refine (clock_Civil.calls (wrap64 (a0 + 1)) t127 t128 t129 _ A16.out).mono ?_); rintro e w66 ⟨rfl, hb⟩; refine ⟨_, rfl, ?_⟩; have n0_ := Aside0.mk (below_step (by repeat (first | (with_reducible first | exact HB.out | apply below_alloc | apply pw_below_drewN | apply below_drew1) | exact HB.out)) hb); clear HB; have HB := n0_; clear n0_; (try clear hb); (try clear hb2); (try clear hk); (try clear hi)))
                          go_ret
                          exact ⟨by first | rfl | (simp [errW_none, errW_some] <;> rfl) | (simp [*, errW_none, errW_some] <;> rfl), by repeat (first | (with_reducible first | exact HB.out | apply below_alloc | apply pw_below_drewN | apply below_drew1) | exact HB.out)⟩
                        · rw [if_neg c65] at H
                          have c65b0 : (t123 == 12) = false := beq_eq_false_iff_ne.mpr c65
                          have c65b1 : (t123 != 12) = true := bne_iff_ne.mpr c65
                          obtain rfl := Option.some.inj H
                          go_wp2_with (first | ((with_reducible refine gate_callee (f := 14) rfl ?_); refine goesL_ (some 54) rfl rfl Try.func14 (by kernel_rfl) rfl #[.int .i64 (wrap64 (a0 + 1))] rfl (by (try simp only [List.map_toArray, List.map_cons, List.map_nil]); first | done | rfl | (simp only [List.length_drop, List.length_take]; rfl)) ?_; (with_reducible refine (clock_Civil.calls (wrap64 (a0 + 1)) t127 t128 t129 _ A16.out).mono ?_); rintro e w67 ⟨rfl, hb⟩; refine ⟨_, rfl, ?_⟩; have n0_ := Aside0.mk (below_step (by repeat (first | (with_reducible first | exact HB.out | apply below_alloc | apply pw_below_drewN | apply below_drew1) | exact HB.out)) hb); clear HB; have HB := n0_; clear n0_; (try clear hb); (try clear hb2); (try clear hk); (try clear hi)))
                          go_ret
                          exact ⟨by first | rfl | (simp [errW_none, errW_some] <;> rfl) | (simp [*, errW_none, errW_some] <;> rfl), by repeat (first | (with_reducible first | exact HB.out | apply below_alloc | apply pw_below_drewN | apply below_drew1) | exact HB.out)⟩
                      · rw [if_neg c64] at H
                        have c64b0 : (t129 == 1) = false := beq_eq_false_iff_ne.mpr c64
                        have c64b1 : (t129 != 1) = true := bne_iff_ne.mpr c64
                        obtain rfl := Option.some.inj H
                        go_wp2_with (first | ((with_reducible refine gate_callee (f := 14) rfl ?_); refine goesL_ (some 54) rfl rfl Try.func14 (by kernel_rfl) rfl #[.int .i64 (wrap64 (a0 + 1))] rfl (by (try simp only [List.map_toArray, List.map_cons, List.map_nil]); first | done | rfl | (simp only [List.length_drop, List.length_take]; rfl)) ?_; (with_reducible refine (clock_Civil.calls (wrap64 (a0 + 1)) t127 t128 t129 _ A16.out).mono ?_); rintro e w68 ⟨rfl, hb⟩; refine ⟨_, rfl, ?_⟩; have n0_ := Aside0.mk (below_step (by repeat (first | (with_reducible first | exact HB.out | apply below_alloc | apply pw_below_drewN | apply below_drew1) | exact HB.out)) hb); clear HB; have HB := n0_; clear n0_; (try clear hb); (try clear hb2); (try clear hk); (try clear hi)))
                        go_ret
                        exact ⟨by first | rfl | (simp [errW_none, errW_some] <;> rfl) | (simp [*, errW_none, errW_some] <;> rfl), by repeat (first | (with_reducible first | exact HB.out | apply below_alloc | apply pw_below_drewN | apply below_drew1) | exact HB.out)⟩
                    · rw [if_neg c63] at H
                      have c63b0 : (t128 == 1) = false := beq_eq_false_iff_ne.mpr c63
                      have c63b1 : (t128 != 1) = true := bne_iff_ne.mpr c63
                      obtain rfl := Option.some.inj H
                      go_wp2_with (first | ((with_reducible refine gate_callee (f := 14) rfl ?_); refine goesL_ (some 54) rfl rfl Try.func14 (by kernel_rfl) rfl #[.int .i64 (wrap64 (a0 + 1))] rfl (by (try simp only [List.map_toArray, List.map_cons, List.map_nil]); first | done | rfl | (simp only [List.length_drop, List.length_take]; rfl)) ?_; (with_reducible refine (clock_Civil.calls (wrap64 (a0 + 1)) t127 t128 t129 _ A16.out).mono ?_); rintro e w69 ⟨rfl, hb⟩; refine ⟨_, rfl, ?_⟩; have n0_ := Aside0.mk (below_step (by repeat (first | (with_reducible first | exact HB.out | apply below_alloc | apply pw_below_drewN | apply below_drew1) | exact HB.out)) hb); clear HB; have HB := n0_; clear n0_; (try clear hb); (try clear hb2); (try clear hk); (try clear hi)))
                      go_ret
                      exact ⟨by first | rfl | (simp [errW_none, errW_some] <;> rfl) | (simp [*, errW_none, errW_some] <;> rfl), by repeat (first | (with_reducible first | exact HB.out | apply below_alloc | apply pw_below_drewN | apply below_drew1) | exact HB.out)⟩
                  · rw [if_neg c62] at H
                    have c62b0 : (t127 == (wrap64 (t122 + 1))) = false := beq_eq_false_iff_ne.mpr c62
                    have c62b1 : (t127 != (wrap64 (t122 + 1))) = true := bne_iff_ne.mpr c62
                    obtain rfl := Option.some.inj H
                    go_wp2_with (first | ((with_reducible refine gate_callee (f := 14) rfl ?_); refine goesL_ (some 54) rfl rfl Try.func14 (by kernel_rfl) rfl #[.int .i64 (wrap64 (a0 + 1))] rfl (by (try simp only [List.map_toArray, List.map_cons, List.map_nil]); first | done | rfl | (simp only [List.length_drop, List.length_take]; rfl)) ?_; (with_reducible refine (clock_Civil.calls (wrap64 (a0 + 1)) t127 t128 t129 _ A16.out).mono ?_); rintro e w70 ⟨rfl, hb⟩; refine ⟨_, rfl, ?_⟩; have n0_ := Aside0.mk (below_step (by repeat (first | (with_reducible first | exact HB.out | apply below_alloc | apply pw_below_drewN | apply below_drew1) | exact HB.out)) hb); clear HB; have HB := n0_; clear n0_; (try clear hb); (try clear hb2); (try clear hk); (try clear hi)))
                    go_ret
                    exact ⟨by first | rfl | (simp [errW_none, errW_some] <;> rfl) | (simp [*, errW_none, errW_some] <;> rfl), by repeat (first | (with_reducible first | exact HB.out | apply below_alloc | apply pw_below_drewN | apply below_drew1) | exact HB.out)⟩
            · rw [if_neg c17] at H
              have c17b0 : (t127 == t122) = false := beq_eq_false_iff_ne.mpr c17
              have c17b1 : (t127 != t122) = true := bne_iff_ne.mpr c17
              by_cases c71 : t127 = (wrap64 (t122 + 1))
              · rw [if_pos c71] at H
                have c71b0 : (t127 == (wrap64 (t122 + 1))) = true := beq_iff_eq.mpr c71
                have c71b1 : (t127 != (wrap64 (t122 + 1))) = false := bne_eq_false_iff_eq.mpr c71
                clear c71
                by_cases c72 : t128 = 1
                · rw [if_pos c72] at H
                  have c72b0 : (t128 == 1) = true := beq_iff_eq.mpr c72
                  have c72b1 : (t128 != 1) = false := bne_eq_false_iff_eq.mpr c72
                  clear c72
                  by_cases c73 : t129 = 1
                  · rw [if_pos c73] at H
                    have c73b0 : (t129 == 1) = true := beq_iff_eq.mpr c73
                    have c73b1 : (t129 != 1) = false := bne_eq_false_iff_eq.mpr c73
                    clear c73
                    by_cases c74 : t123 = 12
                    · rw [if_pos c74] at H
                      have c74b0 : (t123 == 12) = true := beq_iff_eq.mpr c74
                      have c74b1 : (t123 != 12) = false := bne_eq_false_iff_eq.mpr c74
                      clear c74
                      obtain rfl := Option.some.inj H
                      go_wp2_with (first | ((with_reducible refine gate_callee (f := 14) rfl ?_); refine goesL_ (some 54) rfl rfl Try.func14 (by kernel_rfl) rfl #[.int .i64 (wrap64 (a0 + 1))] rfl (by (try simp only [List.map_toArray, List.map_cons, List.map_nil]); first | done | rfl | (simp only [List.length_drop, List.length_take]; rfl)) ?_; (with_reducible refine (clock_Civil.calls (wrap64 (a0 + 1)) t127 t128 t129 _ A16.out).mono ?_); rintro e w75 ⟨rfl, hb⟩; refine ⟨_, rfl, ?_⟩; have n0_ := Aside0.mk (below_step (by repeat (first | (with_reducible first | exact HB.out | apply below_alloc | apply pw_below_drewN | apply below_drew1) | exact HB.out)) hb); clear HB; have HB := n0_; clear n0_; (try clear hb); (try clear hb2); (try clear hk); (try clear hi)))
                      go_ret
                      exact ⟨by first | rfl | (simp [errW_none, errW_some] <;> rfl) | (simp [*, errW_none, errW_some] <;> rfl), by repeat (first | (with_reducible first | exact HB.out | apply below_alloc | apply pw_below_drewN | apply below_drew1) | exact HB.out)⟩
                    · rw [if_neg c74] at H
                      have c74b0 : (t123 == 12) = false := beq_eq_false_iff_ne.mpr c74
                      have c74b1 : (t123 != 12) = true := bne_iff_ne.mpr c74
                      obtain rfl := Option.some.inj H
                      go_wp2_with (first | ((with_reducible refine gate_callee (f := 14) rfl ?_); refine goesL_ (some 54) rfl rfl Try.func14 (by kernel_rfl) rfl #[.int .i64 (wrap64 (a0 + 1))] rfl (by (try simp only [List.map_toArray, List.map_cons, List.map_nil]); first | done | rfl | (simp only [List.length_drop, List.length_take]; rfl)) ?_; (with_reducible refine (clock_Civil.calls (wrap64 (a0 + 1)) t127 t128 t129 _ A16.out).mono ?_); rintro e w76 ⟨rfl, hb⟩; refine ⟨_, rfl, ?_⟩; have n0_ := Aside0.mk (below_step (by repeat (first | (with_reducible first | exact HB.out | apply below_alloc | apply pw_below_drewN | apply below_drew1) | exact HB.out)) hb); clear HB; have HB := n0_; clear n0_; (try clear hb); (try clear hb2); (try clear hk); (try clear hi)))
                      go_ret
                      exact ⟨by first | rfl | (simp [errW_none, errW_some] <;> rfl) | (simp [*, errW_none, errW_some] <;> rfl), by repeat (first | (with_reducible first | exact HB.out | apply below_alloc | apply pw_below_drewN | apply below_drew1) | exact HB.out)⟩
                  · rw [if_neg c73] at H
                    have c73b0 : (t129 == 1) = false := beq_eq_false_iff_ne.mpr c73
                    have c73b1 : (t129 != 1) = true := bne_iff_ne.mpr c73
                    obtain rfl := Option.some.inj H
                    go_wp2_with (first | ((with_reducible refine gate_callee (f := 14) rfl ?_); refine goesL_ (some 54) rfl rfl Try.func14 (by kernel_rfl) rfl #[.int .i64 (wrap64 (a0 + 1))] rfl (by (try simp only [List.map_toArray, List.map_cons, List.map_nil]); first | done | rfl | (simp only [List.length_drop, List.length_take]; rfl)) ?_; (with_reducible refine (clock_Civil.calls (wrap64 (a0 + 1)) t127 t128 t129 _ A16.out).mono ?_); rintro e w77 ⟨rfl, hb⟩; refine ⟨_, rfl, ?_⟩; have n0_ := Aside0.mk (below_step (by repeat (first | (with_reducible first | exact HB.out | apply below_alloc | apply pw_below_drewN | apply below_drew1) | exact HB.out)) hb); clear HB; have HB := n0_; clear n0_; (try clear hb); (try clear hb2); (try clear hk); (try clear hi)))
                    go_ret
                    exact ⟨by first | rfl | (simp [errW_none, errW_some] <;> rfl) | (simp [*, errW_none, errW_some] <;> rfl), by repeat (first | (with_reducible first | exact HB.out | apply below_alloc | apply pw_below_drewN | apply below_drew1) | exact HB.out)⟩
                · rw [if_neg c72] at H
                  have c72b0 : (t128 == 1) = false := beq_eq_false_iff_ne.mpr c72
                  have c72b1 : (t128 != 1) = true := bne_iff_ne.mpr c72
                  obtain rfl := Option.some.inj H
                  go_wp2_with (first | ((with_reducible refine gate_callee (f := 14) rfl ?_); refine goesL_ (some 54) rfl rfl Try.func14 (by kernel_rfl) rfl #[.int .i64 (wrap64 (a0 + 1))] rfl (by (try simp only [List.map_toArray, List.map_cons, List.map_nil]); first | done | rfl | (simp only [List.length_drop, List.length_take]; rfl)) ?_; (with_reducible refine (clock_Civil.calls (wrap64 (a0 + 1)) t127 t128 t129 _ A16.out).mono ?_); rintro e w78 ⟨rfl, hb⟩; refine ⟨_, rfl, ?_⟩; have n0_ := Aside0.mk (below_step (by repeat (first | (with_reducible first | exact HB.out | apply below_alloc | apply pw_below_drewN | apply below_drew1) | exact HB.out)) hb); clear HB; have HB := n0_; clear n0_; (try clear hb); (try clear hb2); (try clear hk); (try clear hi)))
                  go_ret
                  exact ⟨by first | rfl | (simp [errW_none, errW_some] <;> rfl) | (simp [*, errW_none, errW_some] <;> rfl), by repeat (first | (with_reducible first | exact HB.out | apply below_alloc | apply pw_below_drewN | apply below_drew1) | exact HB.out)⟩
              · rw [if_neg c71] at H
                have c71b0 : (t127 == (wrap64 (t122 + 1))) = false := beq_eq_false_iff_ne.mpr c71
                have c71b1 : (t127 != (wrap64 (t122 + 1))) = true := bne_iff_ne.mpr c71
                obtain rfl := Option.some.inj H
                go_wp2_with (first | ((with_reducible refine gate_callee (f := 14) rfl ?_); refine goesL_ (some 54) rfl rfl Try.func14 (by kernel_rfl) rfl #[.int .i64 (wrap64 (a0 + 1))] rfl (by (try simp only [List.map_toArray, List.map_cons, List.map_nil]); first | done | rfl | (simp only [List.length_drop, List.length_take]; rfl)) ?_; (with_reducible refine (clock_Civil.calls (wrap64 (a0 + 1)) t127 t128 t129 _ A16.out).mono ?_); rintro e w79 ⟨rfl, hb⟩; refine ⟨_, rfl, ?_⟩; have n0_ := Aside0.mk (below_step (by repeat (first | (with_reducible first | exact HB.out | apply below_alloc | apply pw_below_drewN | apply below_drew1) | exact HB.out)) hb); clear HB; have HB := n0_; clear n0_; (try clear hb); (try clear hb2); (try clear hk); (try clear hi)))
                go_ret
                exact ⟨by first | rfl | (simp [errW_none, errW_some] <;> rfl) | (simp [*, errW_none, errW_some] <;> rfl), by repeat (first | (with_reducible first | exact HB.out | apply below_alloc | apply pw_below_drewN | apply below_drew1) | exact HB.out)⟩

end Go.Proofs.Ytlikgkcfkealkaa.PC
