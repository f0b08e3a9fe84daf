/- The contracts of lock.Default and steleref15.Default, by hand, and of what it calls as printed: what the call returns, and that nothing that was there has changed. -/
import Derived.Test.YtbdmpeekhlmebaaPDx0
namespace Go.Proofs.Ytbdmpeekhlmebaa.PD
open Go.RowKit Go.Proofs.YtbdmpeekhlmebaaW.PrintWords Go.Proofs.YtbdmpeekhlmebaaW.PrintLast Go.Proofs.YtbdmpeekhlmebaaW.PrintMore
attribute [local go_sem] max2_int min2_int max_two min_two max_three min_three max_four min_four
set_option linter.unusedVariables false
set_option linter.unusedSimpArgs false

/-! ### lock_mode_locks: function 23 -/
def lock_mode_locks.f (a0 : Int) : Option (Bool) := if a0 = 1 then (some true) else (some (a0 == 2))
set_option maxHeartbeats 8000000 in
set_option maxRecDepth 100000 in
theorem lock_mode_locks.calls (a0 : Int) (r : Bool) (w : World) (h : lock_mode_locks.f a0 = some r) :
    Calls Try.prog 23 #[.int .i64 a0] w fun e w' => e = .returned (.bool r) ∧ Drawn0 w w' := by
  have H : (if a0 = 1 then (some true) else (some (a0 == 2))) = some r := h
  clear h
  by_cases c2 : a0 = 1
  · rw [if_pos c2] at H
    have c2b0 : (a0 == 1) = true := beq_iff_eq.mpr c2
    have c2b1 : (a0 != 1) = false := bne_eq_false_iff_eq.mpr c2
    clear c2
    obtain rfl := Option.some.inj H
    go_enter Try.func23, Try.ntmps23
    go_wp2
    go_ret
    exact ⟨by first | rfl | (simp; done) | (simp [*]; done), by repeat (first | exact Drawn0.refl _ | apply Drawn0.step)⟩
  · rw [if_neg c2] at H
    have c2b0 : (a0 == 1) = false := beq_eq_false_iff_ne.mpr c2
    have c2b1 : (a0 != 1) = true := bne_iff_ne.mpr c2
    obtain rfl := Option.some.inj H
    go_enter Try.func23, Try.ntmps23
    go_wp2
    go_ret
    exact ⟨by first | rfl | (simp; done) | (simp [*]; done), by repeat (first | exact Drawn0.refl _ | apply Drawn0.step)⟩

/-! ### clock_Later: function 26 -/
def clock_Later.f (a0 : Int) (a1 : Int) : Option (Int) := if a0 ≥ 253402300799 then (some a0) else (some (mn (IntKind.u64.wrap (a0 + (IntKind.u64.wrap ((mn (IntKind.u64.wrap (mx a1 0)) 2932897) * 86400)))) 253402300799))
set_option maxHeartbeats 8000000 in
set_option maxRecDepth 100000 in
theorem clock_Later.calls (a0 : Int) (a1 : Int) (r : Int) (w : World) (h : clock_Later.f a0 a1 = some r) :
    Calls Try.prog 26 #[.int .u64 a0, .int .i64 a1] w fun e w' => e = .returned (.int .u64 r) ∧ Below w.heap.size w w' := by
  have HB := Aside0.mk (Below.refl w.heap.size w)
  have H : (if a0 ≥ 253402300799 then (some a0) else (some (mn (IntKind.u64.wrap (a0 + (IntKind.u64.wrap ((mn (IntKind.u64.wrap (mx a1 0)) 2932897) * 86400)))) 253402300799))) = some r := h
  clear h
  by_cases c3 : a0 ≥ 253402300799
  · rw [if_pos c3] at H
    have c3b0 : decide (253402300799 ≤ a0) = true := decide_eq_true c3
    clear c3
    obtain rfl := Option.some.inj H
    go_enter Try.func26, Try.ntmps26
    go_wp2
    go_ret
    exact ⟨by first | rfl | (simp [errW_none, errW_some] <;> rfl) | (simp [*, errW_none, errW_some] <;> rfl), by repeat (first | (with_reducible first | exact HB.out | apply below_alloc | apply pw_below_drewN | apply below_drew1) | exact HB.out)⟩
  · rw [if_neg c3] at H
    have c3b0 : decide (253402300799 ≤ a0) = false := decide_eq_false c3
    clear c3
    obtain ⟨ji4, hji4⟩ : ∃ j_ : Int, (mx a1 0) = j_ := ⟨_, rfl⟩
    replace H : (some (mn (IntKind.u64.wrap (a0 + (IntKind.u64.wrap ((mn (IntKind.u64.wrap (ji4)) 2932897) * 86400)))) 253402300799)) = some r := by first | (rw [hji4] at H; exact H) | (simp only [hji4] at H ⊢; exact H)
    (try (have hji4l : 0 ≤ ji4 := by (rw [← hji4]; unfold mx; (repeat' split) <;> omega)))
    (try (have hji4m : 0 ≤ ji4 := by omega))
    have hji4_ : (if a1 < 0 then 0 else a1) = ji4 := hji4
    obtain ⟨ji5, hji5⟩ : ∃ j_ : Int, (mn (IntKind.u64.wrap (ji4)) 2932897) = j_ := ⟨_, rfl⟩
    replace H : (some (mn (IntKind.u64.wrap (a0 + (IntKind.u64.wrap ((ji5) * 86400)))) 253402300799)) = some r := by first | (rw [hji5] at H; exact H) | (simp only [hji5] at H ⊢; exact H)
    have hji5_ : (if 2932897 < (IntKind.u64.wrap (ji4)) then 2932897 else (IntKind.u64.wrap (ji4))) = ji5 := hji5
    obtain ⟨ji6, hji6⟩ : ∃ j_ : Int, (mn (IntKind.u64.wrap (a0 + (IntKind.u64.wrap ((ji5) * 86400)))) 253402300799) = j_ := ⟨_, rfl⟩
    replace H : (some ji6) = some r := by first | (rw [hji6] at H; exact H) | (simp only [hji6] at H ⊢; exact H)
    have hji6_ : (if 253402300799 < (IntKind.u64.wrap (a0 + (IntKind.u64.wrap ((ji5) * 86400)))) then 253402300799 else (IntKind.u64.wrap (a0 + (IntKind.u64.wrap ((ji5) * 86400))))) = ji6 := hji6
    obtain rfl := Option.some.inj H
    go_enter Try.func26, Try.ntmps26
    go_wp2
    go_ret
    exact ⟨by first | rfl | (simp [errW_none, errW_some] <;> rfl) | (simp only [← hji4, ← hji5, ← hji6]; first | rfl | (simp [errW_none, errW_some] <;> rfl)) | (simp [*, errW_none, errW_some] <;> rfl), by repeat (first | (with_reducible first | exact HB.out | apply below_alloc | apply pw_below_drewN | apply below_drew1) | exact HB.out)⟩

def lock_Default.f (a0_0 : ByteArray) (a0_1 : Int) (a0_2 : Bool) (a0_3 : Bool) (a0_4 : Int) (a0_5 : Int) (a0_6 : ByteArray) (a0_7 : Int) (a0_8 : Int) (a1 : Int) : Option (Int × Int) := (clock_Later.f a1 a0_5).bind fun t123 => (if a0_2 = true then ((lock_mode_locks.f a0_4).bind fun t124 => (if t124 = true then (if t123 ≤ a1 then (some (0, 0)) else (some (a0_4, t123))) else (some (0, 0)))) else (some (0, 0)))
theorem bcell {W w1 : World} (hb : Below W.heap.size W w1) : (∀ b o, b < W.heap.size → w1.cell? ⟨b, o, none⟩ = W.cell? ⟨b, o, none⟩) ∧ (∀ b o, b < W.heap.size → w1.frozen? ⟨b, o, none⟩ = W.frozen? ⟨b, o, none⟩) :=
  ⟨fun b o h => hb.cell (p := ⟨b, o, none⟩) h, fun b o h => hb.frozen (p := ⟨b, o, none⟩) h⟩
set_option maxHeartbeats 1000000 in
set_option maxRecDepth 100000 in
theorem lock_Default.calls (a0_0 : ByteArray) (a0_1 : Int) (a0_2 : Bool) (a0_3 : Bool) (a0_4 : Int) (a0_5 : Int) (a0_6 : ByteArray) (a0_7 : Int) (a0_8 : Int) (a1 : Int) (r1 : Int) (r2 : Int) (w : World) (h : lock_Default.f a0_0 a0_1 a0_2 a0_3 a0_4 a0_5 a0_6 a0_7 a0_8 a1 = some (r1, r2)) :
    Calls Try.prog 21 #[.agg #[.string a0_0, .int .i64 a0_1, .bool a0_2, .bool a0_3, .int .i64 a0_4, .int .i64 a0_5, .string a0_6, .int .i64 a0_7, .int .i64 a0_8], .int .u64 a1] w fun e w' => e = .returned (.agg #[.int .i64 r1, .int .u64 r2]) ∧ Below w.heap.size w w' := by
  have hu43 := Try.underlying43
  have hu24 := Try.underlying24
  unfold lock_Default.f at h
  obtain ⟨t, ht, h⟩ := Option.bind_eq_some_iff.mp h
  have Ht := Aside0.mk ht
  clear ht
  have Hh := Aside0.mk h
  clear h
  go_enter Try.func21, Try.ntmps21
  go_wp2_with fail
  refine (clock_Later.calls a1 a0_5 t _ Ht.out).mono ?_
  rintro e w1 ⟨rfl, hb⟩
  obtain ⟨hc, hf⟩ := bcell hb
  have hz : w.heap.size + 1 < w1.heap.size := by have := hb.size; simp at this; omega
  have B1 : Below w.heap.size w w1 := (((Below.refl _ _).alloc (Nat.le_refl _) _).alloc (by simp) _).trans (hb.mono (by simp; omega))
  have HB1 := Aside0.mk B1
  clear B1
  have fin : ∀ x y : Value, Below w.heap.size w ((w1.setCell ⟨w.heap.size + 1, 0, none⟩ x).setCell ⟨w.heap.size + 1, 1, none⟩ y) := fun x y => (HB1.out.setCell (by simp) _).setCell (by simp) _
  have FIN := Aside0.mk fin
  clear fin
  cases a0_2 with
  | false =>
    have h := Hh.out
    simp only [Bool.false_eq_true, if_false, Option.some.injEq, Prod.mk.injEq] at h
    obtain ⟨rfl, rfl⟩ := h
    go_wp2_with fail
    exact bodyPost_ret (v := .agg #[.int .i64 0, .int .u64 0]) (by simp [results, Try.results21, go_sem, hc]) rfl ⟨rfl, FIN.out _ _⟩
  | true =>
    have h := Hh.out
    simp only [if_true] at h
    obtain ⟨l, hl, h⟩ := Option.bind_eq_some_iff.mp h
    have Hl := Aside0.mk hl
    clear hl
    clear Hh
    cases l with
    | false =>
      simp only [Bool.false_eq_true, if_false, Option.some.injEq, Prod.mk.injEq] at h
      obtain ⟨rfl, rfl⟩ := h
      go_wp2_with (go_at_call 23; refine (lock_mode_locks.calls a0_4 false _ Hl.out).mono ?_; rintro e w' ⟨rfl, ⟨nd, rfl⟩⟩)
      exact bodyPost_ret (v := .agg #[.int .i64 0, .int .u64 0]) (by simp [results, Try.results21, go_sem, hc]) rfl ⟨rfl, pw_below_drewN (FIN.out _ _) _⟩
    | true =>
      simp only [if_true] at h
      by_cases c : t ≤ a1
      · rw [if_pos c] at h
        simp only [Option.some.injEq, Prod.mk.injEq] at h
        obtain ⟨rfl, rfl⟩ := h
        go_wp2_with (go_at_call 23; refine (lock_mode_locks.calls a0_4 true _ Hl.out).mono ?_; rintro e w' ⟨rfl, ⟨nd, rfl⟩⟩)
        exact bodyPost_ret (v := .agg #[.int .i64 0, .int .u64 0]) (by simp [results, Try.results21, go_sem, hc]) rfl ⟨rfl, pw_below_drewN (FIN.out _ _) _⟩
      · rw [if_neg c] at h
        simp only [Option.some.injEq, Prod.mk.injEq] at h
        obtain ⟨rfl, rfl⟩ := h
        go_wp2_with (go_at_call 23; refine (lock_mode_locks.calls a0_4 true _ Hl.out).mono ?_; rintro e w' ⟨rfl, ⟨nd, rfl⟩⟩)
        exact bodyPost_ret (v := .agg #[.int .i64 a0_4, .int .u64 t]) (by simp [results, Try.results21, go_sem, hc]) rfl ⟨rfl, pw_below_drewN (FIN.out _ _) _⟩
/-! ### steleref15_mode: function 24 -/
def steleref15_mode.f (a0 : Int) : Option (Bool) := if a0 = 1 then (some true) else (some (a0 == 2))
set_option maxHeartbeats 8000000 in
set_option maxRecDepth 100000 in
theorem steleref15_mode.calls (a0 : Int) (r : Bool) (w : World) (h : steleref15_mode.f a0 = some r) :
    Calls Try.prog 24 #[.int .i64 a0] w fun e w' => e = .returned (.bool r) ∧ Drawn0 w w' := by
  have H : (if a0 = 1 then (some true) else (some (a0 == 2))) = some r := h
  clear h
  by_cases c2 : a0 = 1
  · rw [if_pos c2] at H
    have c2b0 : (a0 == 1) = true := beq_iff_eq.mpr c2
    have c2b1 : (a0 != 1) = false := bne_eq_false_iff_eq.mpr c2
    clear c2
    obtain rfl := Option.some.inj H
    go_enter Try.func24, Try.ntmps24
    go_wp2
    go_ret
    exact ⟨by first | rfl | (simp; done) | (simp [*]; done), by repeat (first | exact Drawn0.refl _ | apply Drawn0.step)⟩
  · rw [if_neg c2] at H
    have c2b0 : (a0 == 1) = false := beq_eq_false_iff_ne.mpr c2
    have c2b1 : (a0 != 1) = true := bne_iff_ne.mpr c2
    obtain rfl := Option.some.inj H
    go_enter Try.func24, Try.ntmps24
    go_wp2
    go_ret
    exact ⟨by first | rfl | (simp; done) | (simp [*]; done), by repeat (first | exact Drawn0.refl _ | apply Drawn0.step)⟩

/-! ### steleref03_Later: function 27 -/
def steleref03_Later.j0 : Nat → Int → Int → Bool → Option (Int)
  | 0, _, _, _ => none
  | k + 1, x0, x1, x10 => if x10 = true then (some x0) else (if (IntKind.u64.wrap (x1)) > (IntKind.u64.wrap (Int.tdiv (IntKind.u64.wrap (253402300799 - x0)) 86400)) then (some 253402300799) else (some (IntKind.u64.wrap (x0 + (IntKind.u64.wrap ((IntKind.u64.wrap (x1)) * 86400))))))
def steleref03_Later.f (k : Nat) (a0 : Int) (a1 : Int) : Option (Int) := if a1 ≤ 0 then (steleref03_Later.j0 k a0 a1 true) else (steleref03_Later.j0 k a0 a1 (decide (a0 ≥ 253402300799)))
theorem steleref03_Later.mono_l : ∀ k, (∀ y0 y1 y2, LeO (steleref03_Later.j0 k y0 y1 y2) (steleref03_Later.j0 (k + 1) y0 y1 y2))
  | 0 => fun _ _ _ r h => by simp [steleref03_Later.j0] at h
  | k + 1 => by
    have ih0 := steleref03_Later.mono_l k
    · intro y0 y1 y2
      unfold steleref03_Later.j0
      repeat' first
      | (with_reducible exact ih0 _ _ _)
      | (with_reducible exact LeO.refl _)
      | (with_reducible exact LeO.none _)
      | (with_reducible refine LeO.ite ?_ ?_)
      | (with_reducible refine LeO.bind ?_ (fun _ => ?_))
      | exact ih0 _ _ _
      | exact LeO.none _
      | refine LeO.ite ?_ ?_
      | refine LeO.bind ?_ (fun _ => ?_)
theorem steleref03_Later.mono : ∀ a0 a1 k, LeO (steleref03_Later.f k a0 a1) (steleref03_Later.f (k + 1) a0 a1) := by
  intro a0 a1 k
  have ih0 := steleref03_Later.mono_l k
  unfold steleref03_Later.f
  repeat' first
      | (with_reducible exact ih0 _ _ _)
      | (with_reducible exact LeO.refl _)
      | (with_reducible exact LeO.none _)
      | (with_reducible refine LeO.ite ?_ ?_)
      | (with_reducible refine LeO.bind ?_ (fun _ => ?_))
      | exact ih0 _ _ _
      | exact LeO.none _
      | refine LeO.ite ?_ ?_
      | refine LeO.bind ?_ (fun _ => ?_)
set_option maxHeartbeats 8000000 in
set_option maxRecDepth 100000 in
theorem steleref03_Later.calls (k : Nat) (a0 : Int) (a1 : Int) (r : Int) (w : World) (h : steleref03_Later.f k a0 a1 = some r) :
    Calls Try.prog 27 #[.int .u64 a0, .int .i64 a1] w fun e w' => e = .returned (.int .u64 r) ∧ Drawn0 w w' := by
  have H : (if a1 ≤ 0 then (steleref03_Later.j0 k a0 a1 true) else (steleref03_Later.j0 k a0 a1 (decide (a0 ≥ 253402300799)))) = some r := h
  clear h
  have HC3 := Aside0.mk H
  clear H
  go_enter Try.func27, Try.ntmps27
  go_upto_region 1 with (fail)
  go_cut [10] (fun v10 wc => ∃ (kq : Nat) (x10_2 : Bool), v10 = .bool x10_2 ∧ Aside0 (steleref03_Later.j0 kq a0 a1 x10_2 = some r) ∧ Aside0 (kq ≤ k) ∧ Drawn0 w wc)
  case first =>
    have H := HC3.out
    clear HC3
    by_cases c4 : a1 ≤ 0
    · rw [if_pos c4] at H
      have c4b0 : decide (a1 ≤ 0) = true := decide_eq_true c4
      clear c4
      (first | rw [c4b0] | (simp only [i64_w, i32_w]; rw [c4b0]) | skip)
      have H' := Aside0.mk H
      clear H
      go_wp2
      go_meet
      case rel => exact ⟨_, (true), (by first | rfl | (simp; done) | (simp [*]; done)), H', ⟨by first | omega | exact Nat.le_refl _⟩, by repeat (first | exact Drawn0.refl _ | apply Drawn0.step)⟩
    · rw [if_neg c4] at H
      have c4b0 : decide (a1 ≤ 0) = false := decide_eq_false c4
      clear c4
      (first | rw [c4b0] | (simp only [i64_w, i32_w]; rw [c4b0]) | skip)
      have H' := Aside0.mk H
      clear H
      go_wp2
      go_meet
      case rel => exact ⟨_, (decide (a0 ≥ 253402300799)), (by first | rfl | (simp; done) | (simp [*]; done)), H', ⟨by first | omega | exact Nat.le_refl _⟩, by repeat (first | exact Drawn0.refl _ | apply Drawn0.step)⟩
  case rest =>
    clear HC3
    try clear c2
    try clear p2
    try clear c4
    try clear c4b0
    obtain ⟨kq, x10_2, rfl, HA, HJ2, ⟨mc2, rfl⟩⟩ := hcut
    cases kq with
    | zero => exact absurd HA.out (by simp [steleref03_Later.j0])
    | succ kj2 =>
      have H := HA.out
      clear HA
      simp only [steleref03_Later.j0] at H
      by_cases c5 : x10_2 = true
      · subst c5
        have H1 : (some a0) = some r := by rw [if_pos rfl] at H; exact H
        clear H
        have H := H1
        clear H1
        obtain rfl := Option.some.inj H
        go_wp2
        go_ret
        exact ⟨by first | rfl | (simp; done) | (simp [*]; done), by repeat (first | exact Drawn0.refl _ | apply Drawn0.step)⟩
      · replace c5 := Bool.eq_false_iff.mpr c5
        subst c5
        have H1 : (if (IntKind.u64.wrap (a1)) > (IntKind.u64.wrap (Int.tdiv (IntKind.u64.wrap (253402300799 - a0)) 86400)) then (some 253402300799) else (some (IntKind.u64.wrap (a0 + (IntKind.u64.wrap ((IntKind.u64.wrap (a1)) * 86400)))))) = some r := by rw [if_neg (show ¬ (false = true) by decide)] at H; exact H
        clear H
        have H := H1
        clear H1
        by_cases c6 : (IntKind.u64.wrap (a1)) > (IntKind.u64.wrap (Int.tdiv (IntKind.u64.wrap (253402300799 - a0)) 86400))
        · rw [if_pos c6] at H
          have c6b0 : decide ((IntKind.u64.wrap (Int.tdiv (IntKind.u64.wrap (253402300799 - a0)) 86400)) < (IntKind.u64.wrap (a1))) = true := decide_eq_true c6
          clear c6
          obtain rfl := Option.some.inj H
          go_wp2
          go_ret
          exact ⟨by first | rfl | (simp; done) | (simp [*]; done), by repeat (first | exact Drawn0.refl _ | apply Drawn0.step)⟩
        · rw [if_neg c6] at H
          have c6b0 : decide ((IntKind.u64.wrap (Int.tdiv (IntKind.u64.wrap (253402300799 - a0)) 86400)) < (IntKind.u64.wrap (a1))) = false := decide_eq_false c6
          clear c6
          obtain rfl := Option.some.inj H
          go_wp2
          go_ret
          exact ⟨by first | rfl | (simp; done) | (simp [*]; done), by repeat (first | exact Drawn0.refl _ | apply Drawn0.step)⟩


def steleref15_Default.f (k : Nat) (a0_0 : ByteArray) (a0_1 : Int) (a0_2 : Bool) (a0_3 : Bool) (a0_4 : Int) (a0_5 : Int) (a0_6 : ByteArray) (a0_7 : Int) (a0_8 : Int) (a1 : Int) : Option (Int × Int) := (steleref03_Later.f k a1 a0_5).bind fun t123 => (if a0_2 = true then ((steleref15_mode.f a0_4).bind fun t124 => (if t124 = true then (if t123 ≤ a1 then (some (0, 0)) else (some (a0_4, t123))) else (some (0, 0)))) else (some (0, 0)))
theorem steleref15_Default.mono : ∀ a0 a1 a2 a3 a4 a5 a6 a7 a8 a9 k, LeO (steleref15_Default.f k a0 a1 a2 a3 a4 a5 a6 a7 a8 a9) (steleref15_Default.f (k + 1) a0 a1 a2 a3 a4 a5 a6 a7 a8 a9) := by
  intro a0 a1 a2 a3 a4 a5 a6 a7 a8 a9 k
  unfold steleref15_Default.f
  repeat' first
      | (with_reducible exact steleref03_Later.mono _ _ _)
      | (with_reducible exact LeO.refl _)
      | (with_reducible exact LeO.none _)
      | (with_reducible refine LeO.ite ?_ ?_)
      | (with_reducible refine LeO.bind ?_ (fun _ => ?_))
      | exact steleref03_Later.mono _ _ _
      | exact LeO.none _
      | refine LeO.ite ?_ ?_
      | refine LeO.bind ?_ (fun _ => ?_)
set_option maxHeartbeats 1000000 in
set_option maxRecDepth 100000 in
theorem steleref15_Default.calls (k : Nat) (a0_0 : ByteArray) (a0_1 : Int) (a0_2 : Bool) (a0_3 : Bool) (a0_4 : Int) (a0_5 : Int) (a0_6 : ByteArray) (a0_7 : Int) (a0_8 : Int) (a1 : Int) (r1 : Int) (r2 : Int) (w : World) (h : steleref15_Default.f k a0_0 a0_1 a0_2 a0_3 a0_4 a0_5 a0_6 a0_7 a0_8 a1 = some (r1, r2)) :
    Calls Try.prog 22 #[.agg #[.string a0_0, .int .i64 a0_1, .bool a0_2, .bool a0_3, .int .i64 a0_4, .int .i64 a0_5, .string a0_6, .int .i64 a0_7, .int .i64 a0_8], .int .u64 a1] w fun e w' => e = .returned (.agg #[.int .i64 r1, .int .u64 r2]) ∧ Below w.heap.size w w' := by
  have hu43 := Try.underlying43
  have hu24 := Try.underlying24
  unfold steleref15_Default.f at h
  obtain ⟨t, ht, h⟩ := Option.bind_eq_some_iff.mp h
  have Ht := Aside0.mk ht
  clear ht
  have Hh := Aside0.mk h
  clear h
  go_enter Try.func22, Try.ntmps22
  go_wp2_with fail
  refine (steleref03_Later.calls k a1 a0_5 t _ Ht.out).mono ?_
  rintro e w1 ⟨rfl, hb0⟩
  have hb := hb0.below
  clear hb0
  obtain ⟨hc, hf⟩ := bcell hb
  have hz : w.heap.size + 1 < w1.heap.size := by have := hb.size; simp at this; omega
  have B1 : Below w.heap.size w w1 := (((Below.refl _ _).alloc (Nat.le_refl _) _).alloc (by simp) _).trans (hb.mono (by simp; omega))
  have HB1 := Aside0.mk B1
  clear B1
  have fin : ∀ x y : Value, Below w.heap.size w ((w1.setCell ⟨w.heap.size + 1, 0, none⟩ x).setCell ⟨w.heap.size + 1, 1, none⟩ y) := fun x y => (HB1.out.setCell (by simp) _).setCell (by simp) _
  have FIN := Aside0.mk fin
  clear fin
  cases a0_2 with
  | false =>
    have h := Hh.out
    simp only [Bool.false_eq_true, if_false, Option.some.injEq, Prod.mk.injEq] at h
    obtain ⟨rfl, rfl⟩ := h
    go_wp2_with fail
    exact bodyPost_ret (v := .agg #[.int .i64 0, .int .u64 0]) (by simp [results, Try.results22, go_sem, hc]) rfl ⟨rfl, FIN.out _ _⟩
  | true =>
    have h := Hh.out
    simp only [if_true] at h
    obtain ⟨l, hl, h⟩ := Option.bind_eq_some_iff.mp h
    have Hl := Aside0.mk hl
    clear hl
    clear Hh
    cases l with
    | false =>
      simp only [Bool.false_eq_true, if_false, Option.some.injEq, Prod.mk.injEq] at h
      obtain ⟨rfl, rfl⟩ := h
      go_wp2_with (go_at_call 24; refine (steleref15_mode.calls a0_4 false _ Hl.out).mono ?_; rintro e w' ⟨rfl, ⟨nd, rfl⟩⟩)
      exact bodyPost_ret (v := .agg #[.int .i64 0, .int .u64 0]) (by simp [results, Try.results22, go_sem, hc]) rfl ⟨rfl, pw_below_drewN (FIN.out _ _) _⟩
    | true =>
      simp only [if_true] at h
      by_cases c : t ≤ a1
      · rw [if_pos c] at h
        simp only [Option.some.injEq, Prod.mk.injEq] at h
        obtain ⟨rfl, rfl⟩ := h
        go_wp2_with (go_at_call 24; refine (steleref15_mode.calls a0_4 true _ Hl.out).mono ?_; rintro e w' ⟨rfl, ⟨nd, rfl⟩⟩)
        exact bodyPost_ret (v := .agg #[.int .i64 0, .int .u64 0]) (by simp [results, Try.results22, go_sem, hc]) rfl ⟨rfl, pw_below_drewN (FIN.out _ _) _⟩
      · rw [if_neg c] at h
        simp only [Option.some.injEq, Prod.mk.injEq] at h
        obtain ⟨rfl, rfl⟩ := h
        go_wp2_with (go_at_call 24; refine (steleref15_mode.calls a0_4 true _ Hl.out).mono ?_; rintro e w' ⟨rfl, ⟨nd, rfl⟩⟩)
        exact bodyPost_ret (v := .agg #[.int .i64 a0_4, .int .u64 t]) (by simp [results, Try.results22, go_sem, hc]) rfl ⟨rfl, pw_below_drewN (FIN.out _ _) _⟩
end Go.Proofs.Ytbdmpeekhlmebaa.PD
