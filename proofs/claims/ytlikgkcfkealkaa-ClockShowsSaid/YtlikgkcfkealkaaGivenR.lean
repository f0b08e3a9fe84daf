/- The contract of clock.Read, by hand: which texts are a time, and which one; nothing that was there has changed. -/
import Derived.Test.YtlikgkcfkealkaaGivenC2
namespace Go.Proofs.Ytlikgkcfkealkaa.PC
open Go.RowKit Go.Proofs.YtlikgkcfkealkaaW.PrintWords Go.Proofs.YtlikgkcfkealkaaW.PrintLast Go.Proofs.YtlikgkcfkealkaaW.PrintMore Go.Proofs.Ytlikgkcfkealkaa.Cal
attribute [local go_sem] max2_int min2_int max_two min_two max_three min_three max_four min_four
set_option linter.unusedVariables false
set_option linter.unusedSimpArgs false

/-- the number of two digits; 100: they are none -/
def tw (A B : Int) : Int := if 48 ≤ A ∧ A ≤ 57 ∧ 48 ≤ B ∧ B ≤ 57 then 10 * (A - 48) + (B - 48) else 100
theorem ret_i64 {a b : Int} (h : a = b) : Ending.returned (.int .i64 a) = .returned (.int .i64 b) := by rw [h]
set_option maxHeartbeats 2000000 in
set_option maxRecDepth 100000 in
theorem two_any (s : ByteArray) (i : Nat) (A B : Int) (w : World) (h : i + 1 < s.size) (hs : s.size ≤ 140737488351232) (hA : bt s (i : Int) = A) (hB : bt s ((i + 1 : Nat) : Int) = B) (r : Int) (hr : Aside0 (tw A B = r)) :
    Calls Try.prog 27 #[.string s, .int .i64 i] w fun e w' => e = .returned (.int .i64 r) ∧ Drawn0 w w' := by
  have ba := bt_range s (i : Int)
  have bb := bt_range s ((i + 1 : Nat) : Int)
  rw [hA] at ba
  rw [hB] at bb
  have hx : ∀ h : i < s.size, ((s[i]'h).toNat : Int) = A := fun h => by rw [← hA]; exact bt_at s (i : Int) h
  have hy : ∀ h : i + 1 < s.size, ((s[i + 1]'h).toNat : Int) = B := fun h => by rw [← hB]; exact bt_at s ((i + 1 : Nat) : Int) h
  clear hA hB
  have hi : i < s.size := by omega
  go_enter Try.func27, Try.ntmps27
  go_upto_region 1 with (fail)
  go_cut [5, 6] (fun v5 v6 wc => v5 = .int .i64 (A - 48) ∧ v6 = .int .i64 (B - 48) ∧ ∃ n, wc = w.drewN n)
  case first =>
    have e1 : IntKind.i64.wrap ((i : Int) + 1) = (i : Int) + 1 := IntWalk.i64_in _ (by omega)
    have e2 : 0 ≤ (i : Int) + 1 := by omega
    have e3 : ((i : Int) + 1).toNat = i + 1 := by omega
    have e4 : IntKind.i64.wrap A = A := IntWalk.i64_in _ (by omega)
    have e5 : IntKind.i64.wrap B = B := IntWalk.i64_in _ (by omega)
    have e6 : IntKind.i64.wrap (A - 48) = A - 48 := IntWalk.i64_in _ (by omega)
    have e7 : IntKind.i64.wrap (B - 48) = B - 48 := IntWalk.i64_in _ (by omega)
    go_quiet (fail)
    go_wp2
    go_meet
    case rel => exact ⟨rfl, rfl, _, rfl⟩
  case rest =>
    obtain ⟨rfl, rfl, n, rfl⟩ := hcut
    clear hx hy
    go_wp2
    all_goals (go_ret; exact ⟨ret_i64 (by have := hr.out; unfold tw at this; split at this <;> omega), Drawn0.step (Drawn0.refl _) _⟩)
theorem two_at (s : ByteArray) (j : Int) (w : World) (h0 : 0 ≤ j) (h : j + 1 < s.size) (hs : s.size ≤ 140737488351232) (r : Int) (hr : Aside0 (tw (bt s j) (bt s (j + 1)) = r)) :
    Calls Try.prog 27 #[.string s, .int .i64 j] w fun e w' => e = .returned (.int .i64 r) ∧ Drawn0 w w' := by
  obtain ⟨i, rfl⟩ : ∃ i : Nat, j = i := ⟨j.toNat, by omega⟩
  exact two_any s i _ _ w (by omega) hs rfl rfl r hr
theorem day_bd (y m dd d e : Int) (h : clock_Day.f y m dd = some (d, e)) : -719162 ≤ d ∧ d ≤ 2932896 := by
  unfold clock_Day.f at h
  have h := Option.some.inj h
  split at h
  · obtain ⟨rfl, rfl⟩ := Prod.mk.inj h; omega
  · obtain ⟨rfl, rfl⟩ := Prod.mk.inj h
    have v : Valid (Cal.ahead y + cum y m + (dd - 1)) y m dd := ⟨by omega, by omega, by omega, by omega, by omega, by omega, rfl⟩
    have := valid_range v
    omega
theorem tw_bd (A B : Int) : 0 ≤ tw A B ∧ tw A B ≤ 100 := by unfold tw; split <;> omega
def readP (n0 n1 n2 n3 n4 n5 n6 : Int) (p : Int × Int) : Int × Int :=
  if 99 < n0 ∨ 99 < n1 ∨ 23 < n4 ∨ 59 < n5 ∨ 59 < n6 ∨ p.2 ≠ 0 ∨ p.1 < 0 then (0, 6) else (p.1 * 86400 + (3600 * n4 + 60 * n5 + n6), 0)
/-- What is known of the world is all that the rest needs. -/
theorem forget_world {P : Program} {c : Code} {Q : Exit → Act → World → Prop} {a : Act} {w : World} (R : World → Prop) (hR : R w) (h : ∀ w', R w' → c.wp P Q a w') : c.wp P Q a w := h w hR
set_option maxHeartbeats 4000000 in
set_option maxRecDepth 100000 in
theorem read_in (s : ByteArray) (w : World) (hs : s.size = 16) (h8 : bt s 8 = 84) (h15 : bt s 15 = 90) (n0 n1 n2 n3 n4 n5 n6 d e r1 r2 : Int)
    (H0 : Aside0 (tw (bt s 0) (bt s (0 + 1)) = n0)) (H1 : Aside0 (tw (bt s 2) (bt s (2 + 1)) = n1)) (H2 : Aside0 (tw (bt s 4) (bt s (4 + 1)) = n2)) (H3 : Aside0 (tw (bt s 6) (bt s (6 + 1)) = n3)) (H4 : Aside0 (tw (bt s 9) (bt s (9 + 1)) = n4)) (H5 : Aside0 (tw (bt s 11) (bt s (11 + 1)) = n5)) (H6 : Aside0 (tw (bt s 13) (bt s (13 + 1)) = n6))
    (HD : Aside0 (clock_Day.f (100 * n0 + n1) n2 n3 = some (d, e))) (HR : Aside0 (readP n0 n1 n2 n3 n4 n5 n6 (d, e) = (r1, r2))) :
    Calls Try.prog 18 #[.string s] w fun e w' => e = .returned (.tuple #[.int .u64 r1, .int .i64 r2]) ∧ Below w.heap.size w w' := by
  have hu := Try.underlying45
  have b0 := tw_bd (bt s 0) (bt s (0 + 1)); rw [H0.out] at b0
  have b1 := tw_bd (bt s 2) (bt s (2 + 1)); rw [H1.out] at b1
  have b2 := tw_bd (bt s 4) (bt s (4 + 1)); rw [H2.out] at b2
  have b3 := tw_bd (bt s 6) (bt s (6 + 1)); rw [H3.out] at b3
  have b4 := tw_bd (bt s 9) (bt s (9 + 1)); rw [H4.out] at b4
  have b5 := tw_bd (bt s 11) (bt s (11 + 1)); rw [H5.out] at b5
  have b6 := tw_bd (bt s 13) (bt s (13 + 1)); rw [H6.out] at b6
  have x8 : ∀ h : 8 < s.size, ((s[8]'h).toNat : Int) = 84 := fun h => by rw [← h8]; exact bt_at s 8 h
  have x15 : ∀ h : 15 < s.size, ((s[15]'h).toNat : Int) = 90 := fun h => by rw [← h15]; exact bt_at s 15 h
  clear h8 h15
  have y8 : 8 < s.size := by omega
  have y15 : 15 < s.size := by omega
  have HS := Aside0.mk (show s.size ≤ 140737488351232 by omega)
  have hs16 : ((s.size : Int) != 16) = false := by simp; omega
  have HZ := Aside0.mk hs
  clear hs
  have i0 : ∀ w, (Instr.index 45 (.agg #[.int .i64 0, .int .i64 2, .int .i64 4, .int .i64 6, .int .i64 9, .int .i64 11, .int .i64 13]) (.int .i64 0)).run Try.prog w = .ok (.int .i64 0) w := fun _ => by kernel_rfl
  have i1 : ∀ w, (Instr.index 45 (.agg #[.int .i64 0, .int .i64 2, .int .i64 4, .int .i64 6, .int .i64 9, .int .i64 11, .int .i64 13]) (.int .i64 1)).run Try.prog w = .ok (.int .i64 2) w := fun _ => by kernel_rfl
  have i2 : ∀ w, (Instr.index 45 (.agg #[.int .i64 0, .int .i64 2, .int .i64 4, .int .i64 6, .int .i64 9, .int .i64 11, .int .i64 13]) (.int .i64 2)).run Try.prog w = .ok (.int .i64 4) w := fun _ => by kernel_rfl
  have i3 : ∀ w, (Instr.index 45 (.agg #[.int .i64 0, .int .i64 2, .int .i64 4, .int .i64 6, .int .i64 9, .int .i64 11, .int .i64 13]) (.int .i64 3)).run Try.prog w = .ok (.int .i64 6) w := fun _ => by kernel_rfl
  have i4 : ∀ w, (Instr.index 45 (.agg #[.int .i64 0, .int .i64 2, .int .i64 4, .int .i64 6, .int .i64 9, .int .i64 11, .int .i64 13]) (.int .i64 4)).run Try.prog w = .ok (.int .i64 9) w := fun _ => by kernel_rfl
  have i5 : ∀ w, (Instr.index 45 (.agg #[.int .i64 0, .int .i64 2, .int .i64 4, .int .i64 6, .int .i64 9, .int .i64 11, .int .i64 13]) (.int .i64 5)).run Try.prog w = .ok (.int .i64 11) w := fun _ => by kernel_rfl
  have i6 : ∀ w, (Instr.index 45 (.agg #[.int .i64 0, .int .i64 2, .int .i64 4, .int .i64 6, .int .i64 9, .int .i64 11, .int .i64 13]) (.int .i64 6)).run Try.prog w = .ok (.int .i64 13) w := fun _ => by kernel_rfl
  go_enter Try.func18, Try.ntmps18
  go_wp2
  refine wp_loop_rounds 8 ?_
  rw [rounds_succ]
  go_wp2_with fail
  refine (two_at s 0 _ (by omega) (by rw [HZ.out]; decide) HS.out n0 H0).mono ?_
  rintro e_ w_ ⟨rfl, ⟨q0, rfl⟩⟩
  go_wp2_with fail
  rw [rounds_succ]
  go_wp2_with fail
  refine (two_at s 2 _ (by omega) (by rw [HZ.out]; decide) HS.out n1 H1).mono ?_
  rintro e_ w_ ⟨rfl, ⟨q1, rfl⟩⟩
  go_wp2_with fail
  rw [rounds_succ]
  go_wp2_with fail
  refine (two_at s 4 _ (by omega) (by rw [HZ.out]; decide) HS.out n2 H2).mono ?_
  rintro e_ w_ ⟨rfl, ⟨q2, rfl⟩⟩
  go_wp2_with fail
  rw [rounds_succ]
  go_wp2_with fail
  refine (two_at s 6 _ (by omega) (by rw [HZ.out]; decide) HS.out n3 H3).mono ?_
  rintro e_ w_ ⟨rfl, ⟨q3, rfl⟩⟩
  go_wp2_with fail
  rw [rounds_succ]
  go_wp2_with fail
  refine (two_at s 9 _ (by omega) (by rw [HZ.out]; decide) HS.out n4 H4).mono ?_
  rintro e_ w_ ⟨rfl, ⟨q4, rfl⟩⟩
  go_wp2_with fail
  rw [rounds_succ]
  go_wp2_with fail
  refine (two_at s 11 _ (by omega) (by rw [HZ.out]; decide) HS.out n5 H5).mono ?_
  rintro e_ w_ ⟨rfl, ⟨q5, rfl⟩⟩
  go_wp2_with fail
  rw [rounds_succ]
  go_wp2_with fail
  refine (two_at s 13 _ (by omega) (by rw [HZ.out]; decide) HS.out n6 H6).mono ?_
  rintro e_ w_ ⟨rfl, ⟨q6, rfl⟩⟩
  go_wp2_with fail
  rw [rounds_succ]
  clear i0 i1 i2 i3 i4 i5 i6
  go_upto_region 9 with (fail)
  refine forget_world (fun W => W.cell? ⟨w.heap.size, 0, none⟩ = some (.int .i64 n0) ∧ W.cell? ⟨w.heap.size, 1, none⟩ = some (.int .i64 n1) ∧ W.cell? ⟨w.heap.size, 2, none⟩ = some (.int .i64 n2) ∧ W.cell? ⟨w.heap.size, 3, none⟩ = some (.int .i64 n3) ∧ W.cell? ⟨w.heap.size, 4, none⟩ = some (.int .i64 n4) ∧ W.cell? ⟨w.heap.size, 5, none⟩ = some (.int .i64 n5) ∧ W.cell? ⟨w.heap.size, 6, none⟩ = some (.int .i64 n6) ∧ Below w.heap.size w W ∧ w.heap.size < W.heap.size) ⟨by simp [go_sem], by simp [go_sem], by simp [go_sem], by simp [go_sem], by simp [go_sem], by simp [go_sem], by simp [go_sem], ?_, by simp⟩ ?_
  · repeat (first | (with_reducible exact Below.refl _ _) | (with_reducible refine Below.setCell ?_ (by simp) _) | (with_reducible refine pw_below_drewN ?_ _) | (with_reducible refine Below.alloc ?_ (by simp) _))
  rintro W ⟨c0, c1, c2, c3, c4, c5, c6, hb, hz⟩
  have HB := Aside0.mk hb
  clear hb x8 x15
  by_cases bad : 99 < n0 ∨ 99 < n1 ∨ 23 < n4 ∨ 59 < n5 ∨ 59 < n6
  · have hr := HR.out
    unfold readP at hr
    rw [if_pos (by omega)] at hr
    obtain ⟨rfl, rfl⟩ := Prod.mk.inj hr
    go_cut [53] (fun v wc => v = .bool true ∧ W = wc)
    case first =>
      go_wp2
      all_goals (go_meet; case rel => exact ⟨by first | rfl | (congr 1; simp; omega), rfl⟩)
    case rest =>
      obtain ⟨rfl, rfl⟩ := hcut
      go_wp2
      go_ret2
      exact ⟨rfl, HB.out⟩
  · go_cut [53] (fun v wc => v = .bool false ∧ W = wc)
    case first =>
      go_wp2
      all_goals (go_meet; case rel => exact ⟨by first | rfl | (congr 1; simp; omega), rfl⟩)
    case rest =>
      obtain ⟨rfl, rfl⟩ := hcut
      go_wp2_with fail
      have db := day_bd _ _ _ _ _ HD.out
      have hr := HR.out
      unfold readP at hr
      refine (clock_Day.calls _ _ _ d e _ HD.out).mono ?_
      rintro e_ w1 ⟨rfl, hb1⟩
      obtain ⟨hc, hf⟩ := bcell hb1
      have HB1 := Aside0.mk (below_then HB.out HB.out.size hb1)
      clear hb1 HB
      by_cases q1 : e = 0
      · by_cases q2 : d < 0
        · rw [if_pos (by omega)] at hr
          obtain ⟨rfl, rfl⟩ := Prod.mk.inj hr
          have q1b : (e != 0) = false := by simp [q1]
          have q2b : decide (d < 0) = true := by simp; omega
          clear q1
          go_wp2
          go_ret2
          exact ⟨rfl, HB1.out⟩
        · rw [if_neg (by omega)] at hr
          have HR2 := Aside0.mk hr
          have q1b : (e != 0) = false := by simp [q1]
          have q2b : decide (d < 0) = false := by simp; omega
          have q3 : 0 ≤ d := by omega
          have z4 : n4 ≤ 23 := by omega
          have z5 : n5 ≤ 59 := by omega
          have z6 : n6 ≤ 59 := by omega
          clear q1 bad hr HR
          go_wp2
          go_ret2
          obtain ⟨rfl, rfl⟩ := Prod.mk.inj HR2.out
          exact ⟨rfl, HB1.out⟩
      · rw [if_pos (by omega)] at hr
        obtain ⟨rfl, rfl⟩ := Prod.mk.inj hr
        have q1b : (e != 0) = true := by simp [q1]
        clear q1
        go_wp2
        go_ret2
        exact ⟨rfl, HB1.out⟩
set_option maxRecDepth 100000 in
theorem read_out (s : ByteArray) (w : World) (h : s.size ≠ 16 ∨ bt s 8 ≠ 84 ∨ bt s 15 ≠ 90) :
    Calls Try.prog 18 #[.string s] w fun e w' => e = .returned (.tuple #[.int .u64 0, .int .i64 6]) ∧ Below w.heap.size w w' := by
  by_cases c1 : s.size = 16
  · have y8 : 8 < s.size := by omega
    have y15 : 15 < s.size := by omega
    have hs16 : ((s.size : Int) != 16) = false := by simp; omega
    have h9 : bt s 8 ≠ 84 ∨ bt s 15 ≠ 90 := by omega
    clear c1 h
    have h := h9
    clear h9
    by_cases c2 : bt s 8 = 84
    · have c3 : bt s 15 ≠ 90 := by omega
      have x8 : ∀ h : 8 < s.size, ((s[8]'h).toNat : Int) = 84 := fun h => by rw [← c2]; exact bt_at s 8 h
      obtain ⟨B, hB⟩ : ∃ B, bt s 15 = B := ⟨_, rfl⟩
      have x15 : ∀ h : 15 < s.size, ((s[15]'h).toNat : Int) = B := fun h => by rw [← hB]; exact bt_at s 15 h
      rw [hB] at c3
      have c3b : (B != 90) = true := by simp [c3]
      clear c2 hB c3 h
      go_enter Try.func18, Try.ntmps18
      go_wp2
      go_ret2
      exact ⟨rfl, Below.refl _ _⟩
    · obtain ⟨B, hB⟩ : ∃ B, bt s 8 = B := ⟨_, rfl⟩
      have x8 : ∀ h : 8 < s.size, ((s[8]'h).toNat : Int) = B := fun h => by rw [← hB]; exact bt_at s 8 h
      rw [hB] at c2
      have c3b : (B != 84) = true := by simp [c2]
      clear c2 hB h
      go_enter Try.func18, Try.ntmps18
      go_wp2
      go_ret2
      exact ⟨rfl, Below.refl _ _⟩
  · have hs16 : ((s.size : Int) != 16) = true := by simp; omega
    clear c1 h
    go_enter Try.func18, Try.ntmps18
    go_wp2
    go_ret2
    exact ⟨rfl, Below.refl _ _⟩
def twA (s : ByteArray) (i : Int) : Int := tw (bt s i) (bt s (i + 1))
def clock_Read.f (s : ByteArray) : Option (Int × Int) :=
  if s.size = 16 ∧ bt s 8 = 84 ∧ bt s 15 = 90 then
    (clock_Day.f (100 * twA s 0 + twA s 2) (twA s 4) (twA s 6)).bind fun p => some (readP (twA s 0) (twA s 2) (twA s 4) (twA s 6) (twA s 9) (twA s 11) (twA s 13) p)
  else some (0, 6)
theorem clock_Read.calls (a0 : ByteArray) (r1 r2 : Int) (w : World) (h : clock_Read.f a0 = some (r1, r2)) :
    Calls Try.prog 18 #[.string a0] w fun e w' => e = .returned (.tuple #[.int .u64 r1, .int .i64 r2]) ∧ Below w.heap.size w w' := by
  unfold clock_Read.f at h
  by_cases c : a0.size = 16 ∧ bt a0 8 = 84 ∧ bt a0 15 = 90
  · rw [if_pos c] at h
    obtain ⟨⟨d, e⟩, h1, h2⟩ := Option.bind_eq_some_iff.mp h
    exact read_in a0 w c.1 c.2.1 c.2.2 _ _ _ _ _ _ _ d e r1 r2 ⟨rfl⟩ ⟨rfl⟩ ⟨rfl⟩ ⟨rfl⟩ ⟨rfl⟩ ⟨rfl⟩ ⟨rfl⟩ ⟨h1⟩ ⟨Option.some.inj h2⟩
  · rw [if_neg c] at h
    obtain ⟨rfl, rfl⟩ := Prod.mk.inj (Option.some.inj h)
    exact read_out a0 w (by omega)
end Go.Proofs.Ytlikgkcfkealkaa.PC
