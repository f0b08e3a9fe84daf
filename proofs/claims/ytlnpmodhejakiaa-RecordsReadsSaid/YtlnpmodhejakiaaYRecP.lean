/- What the readers of package records answer, in plain words: the program's chain and the document's. -/
import Derived.Test.YtlnpmodhejakiaaYRecR
import Derived.Test.YtlnpmodhejakiaaYCanE
namespace Go.Proofs.Ytlnpmodhejakiaa.RW
open Go.RowKit Go.Proofs.YtlnpmodhejakiaaW.PrintWords Go.Proofs.YtlnpmodhejakiaaW.PrintLast Go.Proofs.YtlnpmodhejakiaaW.PrintMore Go.Proofs.Ytlnpmodhejakiaa.Sha Go.Proofs.Ytlnpmodhejakiaa.D Go.Proofs.Ytlnpmodhejakiaa.PC Go.Proofs.Ytlnpmodhejakiaa.CP
set_option linter.unusedVariables false
set_option linter.unusedSimpArgs false
def smallS (l : List Int) (bad : Bool) : Int × List Int × Bool := if 2147483647 < (uintS l bad).1 then (0, (uintS l bad).2.1, true) else uintS l bad
def Rel (big : Bool) (l : List Int) (q : Bool) (l' : List Int) (q' : Bool) : Prop := (big = true → q' = true) ∧ (big = false → l' = l ∧ q' = q)
theorem Rel.start (l : List Int) (q : Bool) : Rel false l q l q := ⟨fun h => (by cases h), fun _ => ⟨rfl, rfl⟩⟩
theorem uintS_bad (l : List Int) : uintS l true = (0, l, true) := by unfold uintS headV; rw [if_pos (Or.inl rfl)]
theorem someS_bad (l : List Int) (s : Int) : someS l true s = ([], l, true) := by unfold someS headV; rw [if_pos (Or.inl rfl)]
theorem boolS_bad (l : List Int) : boolS l true = (false, l, true) := by unfold boolS; rw [if_pos (Or.inl rfl)]
theorem smallS_bad (l : List Int) : smallS l true = (0, l, true) := by simp only [smallS, uintS_bad]; exact if_neg (show ¬ (2147483647 : Int) < 0 by decide)
theorem rel_u {big : Bool} {l : List Int} {q : Bool} {l' : List Int} {q' : Bool} (h : Rel big l q l' q') {n : Int} {m : List Int} {p : Bool} {n' : Int} {m' : List Int} {p' : Bool} (e : uintS l q = (n, m, p)) (e' : uintS l' q' = (n', m', p')) : Rel big m p m' p' ∧ (big = false → n' = n) := by
  cases big with
  | true =>
    obtain rfl := h.1 rfl
    rw [uintS_bad] at e'
    cases e'
    exact ⟨⟨fun _ => rfl, fun h => (by cases h)⟩, fun h => (by cases h)⟩
  | false =>
    obtain ⟨rfl, rfl⟩ := h.2 rfl
    rw [e] at e'
    cases e'
    exact ⟨Rel.start _ _, fun _ => rfl⟩
theorem rel_t {big : Bool} {l : List Int} {q : Bool} {l' : List Int} {q' : Bool} (h : Rel big l q l' q') {s : Int} {n : List Int} {m : List Int} {p : Bool} {n' : List Int} {m' : List Int} {p' : Bool} (e : someS l q s = (n, m, p)) (e' : someS l' q' s = (n', m', p')) : Rel big m p m' p' ∧ (big = false → n' = n) := by
  cases big with
  | true =>
    obtain rfl := h.1 rfl
    rw [someS_bad] at e'
    cases e'
    exact ⟨⟨fun _ => rfl, fun h => (by cases h)⟩, fun h => (by cases h)⟩
  | false =>
    obtain ⟨rfl, rfl⟩ := h.2 rfl
    rw [e] at e'
    cases e'
    exact ⟨Rel.start _ _, fun _ => rfl⟩
theorem rel_o {big : Bool} {l : List Int} {q : Bool} {l' : List Int} {q' : Bool} (h : Rel big l q l' q') {n : Bool} {m : List Int} {p : Bool} {n' : Bool} {m' : List Int} {p' : Bool} (e : boolS l q = (n, m, p)) (e' : boolS l' q' = (n', m', p')) : Rel big m p m' p' ∧ (big = false → n' = n) := by
  cases big with
  | true =>
    obtain rfl := h.1 rfl
    rw [boolS_bad] at e'
    cases e'
    exact ⟨⟨fun _ => rfl, fun h => (by cases h)⟩, fun h => (by cases h)⟩
  | false =>
    obtain ⟨rfl, rfl⟩ := h.2 rfl
    rw [e] at e'
    cases e'
    exact ⟨Rel.start _ _, fun _ => rfl⟩
theorem rel_s {big : Bool} {l : List Int} {q : Bool} {l' : List Int} {q' : Bool} (h : Rel big l q l' q') {n : Int} {m : List Int} {p : Bool} {n' : Int} {m' : List Int} {p' : Bool} (e : uintS l q = (n, m, p)) (e' : smallS l' q' = (n', m', p')) : Rel (big || decide (2147483647 < n)) m p m' p' ∧ ((big || decide (2147483647 < n)) = false → n' = mn n 2147483647) := by
  cases big with
  | true =>
    obtain rfl := h.1 rfl
    rw [smallS_bad] at e'
    cases e'
    exact ⟨⟨fun _ => rfl, fun h => (by cases h)⟩, fun h => (by cases h)⟩
  | false =>
    obtain ⟨rfl, rfl⟩ := h.2 rfl
    unfold smallS at e'
    rw [e] at e'
    by_cases hn : 2147483647 < n
    · rw [if_pos hn] at e'
      cases e'
      rw [decide_eq_true hn]
      exact ⟨⟨fun _ => rfl, fun h => (by cases h)⟩, fun h => (by cases h)⟩
    · rw [if_neg hn] at e'
      cases e'
      rw [decide_eq_false hn]
      exact ⟨Rel.start _ _, fun _ => by unfold mn; split <;> omega⟩
theorem rel_done {big : Bool} {l : List Int} {q : Bool} {l' : List Int} {q' : Bool} (h : Rel big l q l' q') : (!q' && decide (l' = [])) = (!big && decide (doneS l q = 0)) := by
  cases big with
  | true => rw [h.1 rfl]; rfl
  | false =>
    obtain ⟨rfl, rfl⟩ := h.2 rfl
    unfold doneS
    cases q' with
    | true => rw [if_pos (Or.inl rfl)]; rfl
    | false =>
      by_cases h : l' = []
      · rw [if_neg (by rintro (h' | h'); cases h'; exact h' h), decide_eq_true h]; rfl
      · rw [if_pos (Or.inr h), decide_eq_false h]; rfl
theorem rel_big {big : Bool} {l : List Int} {q : Bool} (h : (!big && decide (doneS l q = 0)) = true) : big = false := by cases big; rfl; simp at h
theorem u_ok {l : List Int} {bad : Bool} {n : Int} {l' : List Int} {q : Bool} (h : uintS l bad = (n, l', q)) (hl : okL l) : okL l' ∧ (0 ≤ n ∧ n ≤ 18446744073709551615) := by
  unfold uintS at h
  cases hv : headV l bad 117 8 with
  | none => rw [hv] at h; simp only [Prod.mk.injEq] at h; obtain ⟨rfl, rfl, rfl⟩ := h; exact ⟨hl, by omega⟩
  | some m =>
    rw [hv] at h
    simp only [Prod.mk.injEq] at h
    obtain ⟨rfl, rfl, rfl⟩ := h
    have := headV_bd hl hv
    have h8 : (256 : Int) ^ 8 = 18446744073709551616 := by decide
    exact ⟨okL_drop hl _, this.2.2.2.2.1, by have := this.2.2.2.2.2; omega⟩
theorem t_ok {l : List Int} {bad : Bool} {s : Int} {t l' : List Int} {q : Bool} (h : someS l bad s = (t, l', q)) (hl : okL l) : okL l' := by
  unfold someS at h
  cases hv : headV l bad s 4 with
  | none => rw [hv] at h; simp only [Prod.mk.injEq] at h; obtain ⟨rfl, rfl, rfl⟩ := h; exact hl
  | some m =>
    rw [hv] at h
    simp only at h
    split at h
    · simp only [Prod.mk.injEq] at h; obtain ⟨rfl, rfl, rfl⟩ := h; exact hl
    · simp only [Prod.mk.injEq] at h
      obtain ⟨rfl, rfl, rfl⟩ := h
      exact okL_drop hl _
theorem o_ok {l : List Int} {bad : Bool} {t : Bool} {l' : List Int} {q : Bool} (h : boolS l bad = (t, l', q)) (hl : okL l) : okL l' := by
  unfold boolS at h
  split at h
  · simp only [Prod.mk.injEq] at h; obtain ⟨rfl, rfl, rfl⟩ := h; exact hl
  · simp only [Prod.mk.injEq] at h; obtain ⟨rfl, rfl, rfl⟩ := h; exact okL_drop hl _
end Go.Proofs.Ytlnpmodhejakiaa.RW
