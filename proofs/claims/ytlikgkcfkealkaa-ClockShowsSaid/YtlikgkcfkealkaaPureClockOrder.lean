/- The plain law of ClockOrder: of two times the later one has the later text, by its bytes. -/
import Derived.Test.YtlikgkcfkealkaaDefClockOrder
namespace Go.Proofs.Ytlikgkcfkealkaa.Pure
open Go.RowKit Go.Proofs.YtlikgkcfkealkaaW.PrintWords Go.Proofs.YtlikgkcfkealkaaW.PrintLast Go.Proofs.YtlikgkcfkealkaaW.PrintMore Go.Proofs.Ytlikgkcfkealkaa.Opn Go.Proofs.Ytlikgkcfkealkaa.PS Go.Proofs.Ytlikgkcfkealkaa.PC Go.Proofs.Ytlikgkcfkealkaa.Cal
set_option linter.unusedVariables false
set_option linter.unusedSimpArgs false

theorem dg_nat (n : Int) : ((dg n).toNat : Int) = 48 + n % 10 := by
  unfold dg
  have : (48 + n % 10).toNat < 256 := by omega
  simp [UInt8.toNat_ofNat']
  omega
theorem bl_cons (a b : UInt8) (x y : List UInt8) : Op.bytesLess (a :: x) (b :: y) = (a < b || (a == b && Op.bytesLess x y)) := rfl
theorem bl_same (a : UInt8) (x y : List UInt8) : Op.bytesLess (a :: x) (a :: y) = Op.bytesLess x y := by
  have h : ¬ a < a := by rw [UInt8.lt_iff_toNat_lt]; omega
  rw [bl_cons, decide_eq_false h]; simp
theorem bl_irr : ∀ x : List UInt8, Op.bytesLess x x = false
  | [] => rfl
  | a :: x => by rw [bl_same]; exact bl_irr x
theorem bl_asymm : ∀ x y : List UInt8, Op.bytesLess x y = true → Op.bytesLess y x = false
  | [], [], h => by cases h
  | a :: x, [], h => by cases h
  | [], b :: y, h => rfl
  | a :: x, b :: y, h => by
    rw [bl_cons] at h ⊢
    simp only [Bool.or_eq_true, decide_eq_true_eq, Bool.and_eq_true, beq_iff_eq, Bool.or_eq_false_iff, decide_eq_false_iff_not, Bool.and_eq_false_imp] at h ⊢
    rw [UInt8.lt_iff_toNat_lt] at h ⊢
    rcases h with h | ⟨rfl, h⟩
    · exact ⟨by omega, fun e => by subst e; omega⟩
    · exact ⟨by omega, fun _ => bl_asymm x y h⟩
theorem pr_same (a : Int) (x y : List UInt8) : Op.bytesLess (pr a ++ x) (pr a ++ y) = Op.bytesLess x y := by
  simp only [pr, List.cons_append, List.nil_append, bl_same]
theorem pr_less (a b : Int) (x y : List UInt8) (h0 : 0 ≤ a) (h : a < b) (h1 : b ≤ 99) : Op.bytesLess (pr a ++ x) (pr b ++ y) = true := by
  have a1 := dg_nat (a / 10)
  have a2 := dg_nat a
  have b1 := dg_nat (b / 10)
  have b2 := dg_nat b
  simp only [pr, List.cons_append, List.nil_append, bl_cons]
  by_cases c : a / 10 < b / 10
  · have : dg (a / 10) < dg (b / 10) := by rw [UInt8.lt_iff_toNat_lt]; omega
    simp [this]
  · have e : a / 10 = b / 10 := by omega
    have : dg a < dg b := by rw [UInt8.lt_iff_toNat_lt]; omega
    rw [e]
    simp [this]
theorem showL_eq (y m d s : Int) : showL y m d s = pr (y / 100) ++ (pr (y % 100) ++ (pr m ++ (pr d ++ (84 :: (pr (s / 3600) ++ (pr (s / 60 % 60) ++ (pr (s % 60) ++ [90]))))))) := by
  simp [showL, prs]
theorem valid_lt {n n' y m d y' m' d' : Int} (h : Valid n y m d) (h' : Valid n' y' m' d') (lt : n < n') : y < y' ∨ y = y' ∧ (m < m' ∨ m = m' ∧ d < d') := by
  obtain ⟨a1, a2, a3, a4, a5, a6, a7⟩ := h
  obtain ⟨b1, b2, b3, b4, b5, b6, b7⟩ := h'
  by_cases c : y < y'
  · exact .inl c
  right
  by_cases c2 : y' < y
  · have e1 := ahead_mono (y' + 1) y (by omega)
    have e2 := ahead_succ y' b1
    have e3 := cum_succ y' m' b3 b4
    have e4 := cum_mono y' (m' + 1) 13 (by omega) (by omega) (by omega)
    have e5 := cum13 y'
    have e6 := (cum_bd y m a3 (by omega)).1
    omega
  · obtain rfl : y = y' := by omega
    refine ⟨rfl, ?_⟩
    by_cases c3 : m < m'
    · exact .inl c3
    right
    by_cases c4 : m' < m
    · have e3 := cum_succ y m' b3 b4
      have e4 := cum_mono y (m' + 1) m (by omega) (by omega) (by omega)
      omega
    · obtain rfl : m = m' := by omega
      exact ⟨rfl, by omega⟩
theorem show_less {t u y m d y' m' d' : Int} (h : Valid (t / 86400 + 719162) y m d) (h' : Valid (u / 86400 + 719162) y' m' d') (h0 : 0 ≤ t) (lt : t < u) :
    Op.bytesLess (showL y m d (t % 86400)) (showL y' m' d' (u % 86400)) = true := by
  rw [showL_eq, showL_eq]
  obtain ⟨b1, b2, b3, b4, b5, b6, b7⟩ := id h'
  obtain ⟨a1, a2, a3, a4, a5, a6, a7⟩ := id h
  have dp := dim_pos y' m'
  by_cases c : t / 86400 < u / 86400
  · rcases valid_lt h h' (by omega) with c | ⟨rfl, c | ⟨rfl, c⟩⟩
    · by_cases q : y / 100 < y' / 100
      · exact pr_less _ _ _ _ (by omega) q (by omega)
      · have e : y / 100 = y' / 100 := by omega
        rw [e, pr_same]
        exact pr_less _ _ _ _ (by omega) (by omega) (by omega)
    · rw [pr_same, pr_same]
      exact pr_less _ _ _ _ (by omega) c (by omega)
    · rw [pr_same, pr_same, pr_same]
      exact pr_less _ _ _ _ (by omega) c (by omega)
  · have e : t / 86400 = u / 86400 := by omega
    rw [e] at h
    obtain ⟨rfl, rfl, rfl⟩ := valid_unique h h'
    rw [pr_same, pr_same, pr_same, pr_same, bl_same]
    by_cases q : t % 86400 / 3600 < u % 86400 / 3600
    · exact pr_less _ _ _ _ (by omega) q (by omega)
    have e : t % 86400 / 3600 = u % 86400 / 3600 := by omega
    rw [e, pr_same]
    by_cases q : t % 86400 / 60 % 60 < u % 86400 / 60 % 60
    · exact pr_less _ _ _ _ (by omega) q (by omega)
    have e : t % 86400 / 60 % 60 = u % 86400 / 60 % 60 := by omega
    rw [e, pr_same]
    exact pr_less _ _ _ _ (by omega) (by omega) (by omega)
theorem pshow_in (t : Int) (h0 : 0 ≤ t) (h1 : t ≤ 253402300799) : ∃ y m d, clock_Show.f t = some (⟨(showL y m d (t % 86400)).toArray⟩, 0) ∧ Valid (t / 86400 + 719162) y m d := by
  obtain ⟨y, m, d, hc, hv, _⟩ := civ_bds t h0 h1
  refine ⟨y, m, d, ?_, hv⟩
  unfold clock_Show.f
  rw [if_pos h0, hc, Option.map_some, if_pos h1]
theorem pshow_out (t : Int) (h1 : 253402300799 < t) : clock_Show.f t = some (⟨#[]⟩, 6) := by
  unfold clock_Show.f clock_Civil.f
  rw [if_pos (by omega), Option.map_some, if_neg (by omega)]
theorem toL (l : List UInt8) : (⟨l.toArray⟩ : ByteArray).toList = l := by
  rw [ByteArray.toList_eq]
theorem ClockOrder : stelelaw03_ClockOrder.Pure := by
  intro t u ht hu
  have ht0 : 0 ≤ t := (bounds_u64 ht).1
  have hu0 : 0 ≤ u := (bounds_u64 hu).1
  unfold stelelaw03_ClockOrder.f
  by_cases a : t ≤ 253402300799
  · obtain ⟨y, m, d, h1, v1⟩ := pshow_in t ht0 a
    rw [h1]
    by_cases b : u ≤ 253402300799
    · obtain ⟨y', m', d', h2, v2⟩ := pshow_in u hu0 b
      rw [h2]
      simp only [Option.bind_some, if_true, toL]
      rcases Int.lt_trichotomy t u with c | c | c
      · have k := show_less v1 v2 ht0 c
        have n : showL y m d (t % 86400) ≠ showL y' m' d' (u % 86400) := by
          intro e; rw [e, bl_irr] at k; cases k
        rw [k, decide_eq_true c, beq_false_of_ne n, beq_false_of_ne (by omega : t ≠ u)]
        rfl
      · subst c
        obtain ⟨rfl, rfl, rfl⟩ := valid_unique v1 v2
        simp [bl_irr]
      · have k := show_less v2 v1 hu0 c
        have n : showL y m d (t % 86400) ≠ showL y' m' d' (u % 86400) := by
          intro e; rw [e, bl_irr] at k; cases k
        rw [bl_asymm _ _ k, decide_eq_false (by omega), beq_false_of_ne n, beq_false_of_ne (by omega : t ≠ u)]
        rfl
    · rw [pshow_out u (by omega)]
      simp [show u > 253402300799 by omega]
  · rw [pshow_out t (by omega)]
    by_cases b : u ≤ 253402300799
    · obtain ⟨y', m', d', h2, v2⟩ := pshow_in u hu0 b
      rw [h2]
      simp [show t > 253402300799 by omega]
    · rw [pshow_out u (by omega)]
      simp [show t > 253402300799 by omega]

end Go.Proofs.Ytlikgkcfkealkaa.Pure
