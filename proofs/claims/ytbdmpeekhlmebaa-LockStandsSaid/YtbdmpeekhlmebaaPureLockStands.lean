/- The plain law of LockStands: the printed function of the law answers true, for every value of its parameters that the row lets in. -/
import Derived.Test.YtbdmpeekhlmebaaDefLockStands
import Derived.Test.YtbdmpeekhlmebaaLockA
namespace Go.Proofs.Ytbdmpeekhlmebaa.Pure
open Go.RowKit Go.Proofs.YtbdmpeekhlmebaaW.PrintWords Go.Proofs.YtbdmpeekhlmebaaW.PrintLast Go.Proofs.YtbdmpeekhlmebaaW.PrintMore Go.Proofs.Ytbdmpeekhlmebaa.Opn Go.Proofs.Ytbdmpeekhlmebaa.P
set_option linter.unusedVariables false
set_option linter.unusedSimpArgs false

theorem maydelete_eq (a0 a1 : ByteArray) (a2 a3 : Int) (a4 : Bool) (l5 : List Int) (m u : Int) (h : Bool) (t n : Int) (b : Bool) :
    lock_MayDelete.f a0 a1 a2 a3 a4 l5 m u h t n b = some (if h then 38 else if standsB m u n b then 37 else 0) := by
  unfold lock_MayDelete.f; rw [stands_eq]; simp only [Option.bind_some]
  cases h <;> cases standsB m u n b <;> rfl
theorem u64_wf {n : Int} (h : (Lit.int .u64 n).wf = true) : 0 ≤ n ∧ n ≤ 18446744073709551615 := bounds_u64 h
theorem stands_loop (l : List S40) (hl : l.length ≤ 1000) (hok : ∀ y ∈ l, ok40 y) (F : Int) : ∀ (d k : Nat) (n i U : Int), 0 ≤ n → n < F → 0 ≤ i → (l.length : Int) - i = d → 3 * d + 1 ≤ k → F ≤ U →
    stelelaw15_LockStands.l0 k n l i 2 F 2 U = some true := by
  intro d
  induction d with
  | zero =>
    intro k n i U hn hF hi hd hk hU
    obtain ⟨k, rfl⟩ : ∃ m, k = m + 1 := ⟨k - 1, by omega⟩
    simp only [stelelaw15_LockStands.l0]
    rw [if_neg (by omega), alive_true]; rfl
  | succ d ih =>
    intro k n i U hn hF hi hd hk hU
    obtain ⟨k, rfl⟩ : ∃ m, k = m + 3 := ⟨k - 3, by omega⟩
    have hlt : i < (l.length : Int) := by omega
    have hmem : rd_T40 l i ∈ l := by
      have hi' : i.toNat < l.length := by omega
      unfold rd_T40
      rw [List.getD_eq_getElem?_getD, List.getElem?_eq_getElem hi']
      exact List.getElem_mem _
    have hy := hok _ hmem
    have hlat := u64_wf hy.2.1
    simp only [stelelaw15_LockStands.l0]
    rw [if_pos hlt]
    by_cases c1 : n > 4611686018427387904
    · rw [if_pos c1]; simp only [stelelaw15_LockStands.j2, if_true, alive_true, Option.bind_some]
    · rw [if_neg c1, if_pos hi]
      simp only [stelelaw15_LockStands.j2]
      by_cases c2 : (rd_T40 l i).f1 > 4611686018427387904
      · rw [if_pos (by simpa using c2), alive_true]; rfl
      · rw [if_neg (by simpa using c2), if_pos hi, if_pos hlt, mayset_eq]
        simp only [Option.bind_some]
        have ew : IntKind.u64.wrap (n + (rd_T40 l i).f1) = n + (rd_T40 l i).f1 := by rw [IntKind.wrap_u64]; omega
        rw [ew]
        have ei : wrap64 (i + 1) = i + 1 := by unfold wrap64; omega
        have step : ∀ M' U', (n + (rd_T40 l i).f1 < F → M' = 2 ∧ F ≤ U') → stelelaw15_LockStands.j3 (k + 1) (n + (rd_T40 l i).f1) l i 2 F M' U' = some true := by
          intro M' U' h
          simp only [stelelaw15_LockStands.j3]
          by_cases c3 : n + (rd_T40 l i).f1 ≥ F
          · rw [if_pos c3, alive_true]; rfl
          · obtain ⟨rfl, hU'⟩ := h (by omega)
            rw [if_neg c3, if_pos rfl, if_neg (by omega), active_eq]
            have ha : activeB 2 U' (n + (rd_T40 l i).f1) = true := by unfold activeB modeB; simp; omega
            simp only [Option.bind_some]
            rw [ha, if_pos rfl, maydelete_eq]
            simp only [Option.bind_some]
            have hs : standsB 2 U' (n + (rd_T40 l i).f1) true = true := by unfold standsB; rw [ha]; rfl
            rw [hs]
            simp only [Bool.false_eq_true, if_false, if_true]
            rw [ei]
            exact ih k _ _ _ (by omega) (by omega) (by omega) (by omega) (by omega) hU'
        by_cases c4 : maySetI 2 U (rd_T40 l i).f0.f0 (rd_T40 l i).f0.f1 (n + (rd_T40 l i).f1) (rd_T40 l i).f2 = 0
        · rw [if_pos c4]
          refine step _ _ (fun hlt2 => ?_)
          have ha : activeB 2 U (n + (rd_T40 l i).f1) = true := by unfold activeB modeB; simp; omega
          have hs : standsB 2 U (n + (rd_T40 l i).f1) (rd_T40 l i).f2 = true := by unfold standsB; rw [ha]; rfl
          unfold maySetI at c4
          cases hr : rightB (rd_T40 l i).f0.f0 (rd_T40 l i).f0.f1 (n + (rd_T40 l i).f1)
          · rw [hr] at c4; simp at c4
          · rw [hr, hs] at c4
            cases hc : coversB (rd_T40 l i).f0.f0 (rd_T40 l i).f0.f1 2 U
            · rw [hc] at c4; simp at c4
            · unfold coversB at hc
              unfold rightB modeB at hr
              simp at hc hr
              constructor
              · split at hr <;> omega
              · omega
        · rw [if_neg c4]; exact step _ _ (fun _ => ⟨rfl, hU⟩)
theorem LockStands : stelelaw15_LockStands.Pure := by
  intro x0 x1 x2 h0 h1 h2
  refine ⟨3 * x2.length + 2, ?_⟩
  unfold stelelaw15_LockStands.f
  have al : ∀ k, stelelaw15_LockStands.j0 (k + 1) x1 x2 true x0.f0 x0.f1 = some true := by
    intro k; simp only [stelelaw15_LockStands.j0, if_true, alive_true, Option.bind_some]
  by_cases c : x0.f0 = 2
  · rw [if_pos c, right_eq]; simp only [Option.bind_some]
    cases hr : rightB x0.f0 x0.f1 x1
    · simp only [Bool.false_eq_true, if_false]; exact al _
    · simp only [if_true]
      by_cases c2 : (x2.length : Int) > 1000
      · have : decide ((x2.length : Int) > 1000) = true := decide_eq_true c2
        rw [this]; exact al _
      · have : decide ((x2.length : Int) > 1000) = false := decide_eq_false c2
        rw [this]
        simp only [stelelaw15_LockStands.j0, Bool.false_eq_true, if_false]
        rw [c] at hr ⊢
        have hu : x1 < x0.f1 := by unfold rightB modeB at hr; simp at hr; omega
        exact stands_loop x2 (by omega) h2.2 _ x2.length _ _ _ _ (u64_wf h1).1 hu (by omega) (by omega) (by omega) (Int.le_refl _)
  · rw [if_neg c]; exact al _
end Go.Proofs.Ytbdmpeekhlmebaa.Pure
