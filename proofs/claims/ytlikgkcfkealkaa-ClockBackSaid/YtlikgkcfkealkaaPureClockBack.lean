/- The plain law of ClockBack: a time that is shown is read as it, and a text that is read is shown as it. -/
import Derived.Test.YtlikgkcfkealkaaDefClockBack
import Derived.Test.YtlikgkcfkealkaaPureClockOrder
import Derived.Test.YtlikgkcfkealkaaGivenR
namespace Go.Proofs.Ytlikgkcfkealkaa.Pure
open Go.RowKit Go.Proofs.YtlikgkcfkealkaaW.PrintWords Go.Proofs.YtlikgkcfkealkaaW.PrintLast Go.Proofs.YtlikgkcfkealkaaW.PrintMore Go.Proofs.Ytlikgkcfkealkaa.Opn Go.Proofs.Ytlikgkcfkealkaa.PS Go.Proofs.Ytlikgkcfkealkaa.PC Go.Proofs.Ytlikgkcfkealkaa.Cal
set_option linter.unusedVariables false
set_option linter.unusedSimpArgs false

theorem tw_dg (x : Int) (h0 : 0 ≤ x) (h1 : x ≤ 99) : tw (dg (x / 10)).toNat (dg x).toNat = x := by
  rw [dg_nat, dg_nat]; unfold tw; rw [if_pos (by omega)]; omega
theorem dg_tw (a b : UInt8) (h : tw a.toNat b.toNat ≤ 99) : pr (tw a.toNat b.toNat) = [a, b] := by
  have ha : dg (tw a.toNat b.toNat / 10) = a ∧ dg (tw a.toNat b.toNat) = b := by
    have e1 := dg_nat (tw a.toNat b.toNat / 10)
    have e2 := dg_nat (tw a.toNat b.toNat)
    constructor <;> apply UInt8.toNat_inj.1 <;> (unfold tw at *; split at h <;> rename_i c <;> first | rw [if_pos c] at e1 e2 ⊢ | skip) <;> omega
  simp [pr, ha.1, ha.2]
theorem show16 (a0 a1 a2 a3 a4 a5 a6 a7 a8 a9 a10 a11 a12 a13 a14 a15 : UInt8) (s : ByteArray) (hs : s = ⟨#[a0, a1, a2, a3, a4, a5, a6, a7, a8, a9, a10, a11, a12, a13, a14, a15]⟩) :
    s.size = 16 ∧ bt s 8 = a8.toNat ∧ bt s 15 = a15.toNat ∧ twA s 0 = tw a0.toNat a1.toNat ∧ twA s 2 = tw a2.toNat a3.toNat ∧ twA s 4 = tw a4.toNat a5.toNat ∧ twA s 6 = tw a6.toNat a7.toNat ∧ twA s 9 = tw a9.toNat a10.toNat ∧ twA s 11 = tw a11.toNat a12.toNat ∧ twA s 13 = tw a13.toNat a14.toNat := by
  subst hs
  exact ⟨rfl, rfl, rfl, rfl, rfl, rfl, rfl, rfl, rfl, rfl⟩
theorem pday_valid {n y m d : Int} (h : Valid n y m d) : clock_Day.f y m d = some (n - 719162, 0) := by
  obtain ⟨a1, a2, a3, a4, a5, a6, a7⟩ := h
  unfold clock_Day.f
  rw [if_neg (by omega)]
  congr 2
  omega
theorem read_show (t y m d : Int) (h0 : 0 ≤ t) (h : Valid (t / 86400 + 719162) y m d) : clock_Read.f ⟨(showL y m d (t % 86400)).toArray⟩ = some (t, 0) := by
  obtain ⟨q, hq⟩ : ∃ q : ByteArray, q = ⟨(showL y m d (t % 86400)).toArray⟩ := ⟨_, rfl⟩
  rw [← hq]
  rw [showL_eq] at hq
  obtain ⟨e0, e1, e2, e3, e4, e5, e6, e7, e8, e9⟩ := show16 _ _ _ _ _ _ _ _ _ _ _ _ _ _ _ _ q hq
  have dp := dim_pos y m
  obtain ⟨b1, b2, b3, b4, b5, b6, b7⟩ := id h
  rw [tw_dg _ (by omega) (by omega)] at e3 e4 e5 e6 e7 e8 e9
  unfold clock_Read.f
  rw [if_pos ⟨e0, e1, e2⟩, e3, e4, e5, e6, e7, e8, e9]
  have ey : 100 * (y / 100) + y % 100 = y := by omega
  rw [ey, pday_valid h]
  simp only [Option.bind_some]
  unfold readP
  rw [if_neg (by simp only; omega)]
  congr 2
  simp only
  omega
theorem read_is (s : ByteArray) : clock_Read.f s = some (0, 6) ∨ ∃ x, clock_Read.f s = some (x, 0) ∧ clock_Show.f x = some (s, 0) := by
  by_cases c : s.size = 16 ∧ bt s 8 = 84 ∧ bt s 15 = 90
  · obtain ⟨c1, c2, c3⟩ := id c
    obtain ⟨⟨l⟩⟩ := s
    match l, c1 with
    | [a0, a1, a2, a3, a4, a5, a6, a7, a8, a9, a10, a11, a12, a13, a14, a15], _ =>
    obtain ⟨q, hq⟩ : ∃ q : ByteArray, q = ⟨#[a0, a1, a2, a3, a4, a5, a6, a7, a8, a9, a10, a11, a12, a13, a14, a15]⟩ := ⟨_, rfl⟩
    rw [← hq] at c ⊢
    obtain ⟨e0, e1, e2, e3, e4, e5, e6, e7, e8, e9⟩ := show16 _ _ _ _ _ _ _ _ _ _ _ _ _ _ _ _ q hq
    unfold clock_Read.f
    rw [if_pos c]
    rcases hp : clock_Day.f (100 * twA q 0 + twA q 2) (twA q 4) (twA q 6) with _ | ⟨n, e⟩
    · unfold clock_Day.f at hp; split at hp <;> cases hp
    simp only [Option.bind_some]
    unfold readP
    by_cases g : 99 < twA q 0 ∨ 99 < twA q 2 ∨ 23 < twA q 9 ∨ 59 < twA q 11 ∨ 59 < twA q 13 ∨ e ≠ 0 ∨ n < 0
    · left; rw [if_pos g]
    · right
      refine ⟨_, by rw [if_neg g], ?_⟩
      have z0 : 0 ≤ twA q 0 := (tw_bd _ _).1
      have z2 : 0 ≤ twA q 2 := (tw_bd _ _).1
      have z9 : 0 ≤ twA q 9 := (tw_bd _ _).1
      have z11 : 0 ≤ twA q 11 := (tw_bd _ _).1
      have z13 : 0 ≤ twA q 13 := (tw_bd _ _).1
      have dbd := day_bd _ _ _ _ _ hp
      have hv : Valid (n + 719162) (100 * twA q 0 + twA q 2) (twA q 4) (twA q 6) := by
        unfold clock_Day.f at hp
        split at hp <;> rename_i k
        · injection hp with hp; injection hp with h1 h2; omega
        · injection hp with hp; injection hp with h1 h2
          refine ⟨?_, ?_, ?_, ?_, ?_, ?_, ?_⟩ <;> omega
      obtain ⟨T, hT⟩ : ∃ T, T = n * 86400 + (3600 * twA q 9 + 60 * twA q 11 + twA q 13) := ⟨_, rfl⟩
      show clock_Show.f (n * 86400 + (3600 * twA q 9 + 60 * twA q 11 + twA q 13)) = _
      rw [← hT]
      obtain ⟨y, m, d, h1, v⟩ := pshow_in T (by omega) (by omega)
      rw [h1]
      have en : T / 86400 = n := by omega
      rw [en] at v
      obtain ⟨rfl, rfl, rfl⟩ := valid_unique v hv
      have f1 : (100 * twA q 0 + twA q 2) / 100 = twA q 0 := by omega
      have f2 : (100 * twA q 0 + twA q 2) % 100 = twA q 2 := by omega
      have f3 : T % 86400 / 3600 = twA q 9 := by omega
      have f4 : T % 86400 / 60 % 60 = twA q 11 := by omega
      have f5 : T % 86400 % 60 = twA q 13 := by omega
      have dp := dim_pos (100 * twA q 0 + twA q 2) (twA q 4)
      obtain ⟨b1, b2, b3, b4, b5, b6, b7⟩ := hv
      have g84 : (84 : UInt8) = a8 := by apply UInt8.toNat_inj.1; have := c.2.1; rw [e1] at this; show 84 = _; omega
      have g90 : (90 : UInt8) = a15 := by apply UInt8.toNat_inj.1; have := c.2.2; rw [e2] at this; show 90 = _; omega
      rw [showL_eq, f1, f2, f3, f4, f5, e3, e4, e5, e6, e7, e8, e9, dg_tw _ _ (by rw [← e3]; omega), dg_tw _ _ (by rw [← e4]; omega), dg_tw _ _ (by rw [← e5]; omega), dg_tw _ _ (by rw [← e6]; omega), dg_tw _ _ (by rw [← e7]; omega), dg_tw _ _ (by rw [← e8]; omega), dg_tw _ _ (by rw [← e9]; omega), g84, g90, hq]
      rfl
  · left
    unfold clock_Read.f
    rw [if_neg c]
theorem ClockBack : stelelaw03_ClockBack.Pure := by
  intro t s ht hs
  refine ⟨2, ?_⟩
  have J : stelelaw03_ClockBack.j0 2 s = some true := by
    simp only [stelelaw03_ClockBack.j0]
    rcases read_is s with h | ⟨x, h1, h2⟩
    · rw [h]; rfl
    · rw [h1]
      simp only [Option.bind_some, if_true]
      rw [h2]
      simp
  unfold stelelaw03_ClockBack.f
  have ht0 := (bounds_u64 ht).1
  by_cases a : t ≤ 253402300799
  · obtain ⟨y, m, d, h1, v1⟩ := pshow_in t ht0 a
    rw [h1]
    simp only [Option.bind_some, if_true]
    rw [read_show t y m d ht0 v1]
    simp only [Option.bind_some, if_true]
    exact J
  · rw [pshow_out t (by omega)]
    exact J
end Go.Proofs.Ytlikgkcfkealkaa.Pure
