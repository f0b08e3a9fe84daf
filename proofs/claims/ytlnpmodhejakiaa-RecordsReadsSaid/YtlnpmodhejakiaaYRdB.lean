/- steleref02.Reader: Uint, Bool, List, by their contracts in canon's words. -/
import Derived.Test.YtlnpmodhejakiaaYRdA
namespace Go.Proofs.Ytlnpmodhejakiaa.D
open Go.RowKit Go.Proofs.YtlnpmodhejakiaaW.PrintWords Go.Proofs.YtlnpmodhejakiaaW.PrintLast Go.Proofs.YtlnpmodhejakiaaW.PrintMore Go.Proofs.Ytlnpmodhejakiaa.PR
set_option linter.unusedVariables false
set_option linter.unusedSimpArgs false
theorem wr64 (a m : Nat) (h : a + m ≤ 140737488355328) : wrap64 ((a : Int) + (m : Int)) = ((a + m : Nat) : Int) := by unfold wrap64; omega
theorem headV_lt {l : List Int} {bad : Bool} {sign : Int} {many : Nat} {n : Int} (hv : headV l bad sign many = some n) : many < l.length := by
  unfold headV at hv
  split at hv
  · cases hv
  · rename_i hh; simp at hh; omega
theorem headV_n4 {l : List Int} {bad : Bool} {sign : Int} {n : Int} (ho : okL l) (hv : headV l bad sign 4 = some n) : 0 ≤ n ∧ n < 4294967296 := by
  obtain ⟨-, -, -, -, hn0, hn1⟩ := headV_bd ho hv
  exact ⟨hn0, by rw [show (256 : Int) ^ 4 = 4294967296 by decide] at hn1; exact hn1⟩
theorem xuint_eq (b : List Int) (a : Nat) (bad : Bool) (hb : okL b) (ha : a ≤ b.length) :
    ∃ a' : Nat, a' ≤ b.length ∧ (uintS (b.drop a) bad).2.1 = b.drop a' ∧ steleref02_Reader_Uint.f 10 b (a : Int) bad = some ((uintS (b.drop a) bad).1, (a' : Int), (uintS (b.drop a) bad).2.2) := by
  have h := number_eq b a 8 bad 117 hb ha (by omega) (by omega)
  rw [show ((8 : Nat) : Int) = 8 from rfl] at h
  unfold steleref02_Reader_Uint.f uintS
  rw [h]
  cases hv : headV (b.drop a) bad 117 8 with
  | none => exact ⟨a, ha, rfl, rfl⟩
  | some n =>
    have hl := headV_lt hv
    rw [List.length_drop] at hl
    refine ⟨a + 9, by omega, by simp only [List.drop_drop], ?_⟩
    have := wr64 a 9 (by have := hb.1; omega)
    simp only [Option.bind_some, Option.isSome_some, if_true, Option.getD_some, Option.isNone_some]
    rw [show ((9 : Nat) : Int) = 9 from rfl] at this
    rw [this]
theorem xbool_eq (b : List Int) (a : Nat) (bad : Bool) (hb : okL b) (ha : a ≤ b.length) :
    ∃ a' : Nat, a' ≤ b.length ∧ (boolS (b.drop a) bad).2.1 = b.drop a' ∧ steleref02_Reader_Bool.f b (a : Int) bad = some ((boolS (b.drop a) bad).1, (a' : Int), (boolS (b.drop a) bad).2.2) := by
  unfold steleref02_Reader_Bool.f boolS
  cases bad with
  | true => rw [if_pos rfl, if_pos (Or.inl rfl)]; exact ⟨a, ha, rfl, rfl⟩
  | false =>
    rw [if_neg (show ¬ (false = true) by simp)]
    by_cases h1 : b.length ≤ a
    · rw [if_pos (show (a : Int) ≥ (b.length : Int) by omega), if_pos (Or.inr (Or.inl (List.drop_eq_nil_of_le h1)))]
      exact ⟨a, ha, rfl, rfl⟩
    · have hne : b.drop a ≠ [] := by intro h; have := congrArg List.length h; rw [List.length_drop, List.length_nil] at this; omega
      have e1 : wrap64 ((a : Int) + 1) = ((a + 1 : Nat) : Int) := wr64 a 1 (by have := hb.1; omega)
      have e2 : wrap64 (((a + 1 : Nat) : Int) - 1) = ((a + 0 : Nat) : Int) := by have := hb.1; unfold wrap64; omega
      have e3 : rd b (a : Int) = (b.drop a).getD 0 0 := rd_drop b a 0
      have e4 : rd b ((a + 0 : Nat) : Int) = (b.drop a).getD 0 0 := rd_drop b a 0
      have c1 : ((a : Int) ≥ (b.length : Int)) = False := eq_false (by omega)
      have c2 : ((0 : Int) ≤ (a : Int)) = True := eq_true (by omega)
      have c3 : ((a : Int) < (b.length : Int)) = True := eq_true (by omega)
      have c4 : ((0 : Int) ≤ ((a + 0 : Nat) : Int)) = True := eq_true (by omega)
      have c5 : (((a + 0 : Nat) : Int) < (b.length : Int)) = True := eq_true (by omega)
      simp only [c1, c2, c3, e1, e2, c4, c5, e3, e4, if_true, if_false]
      by_cases ht : (b.drop a).getD 0 0 = 116
      · rw [if_pos ht, if_neg (by rintro (h | h | h); cases h; exact hne h; exact h.1 ht)]
        exact ⟨a + 1, by omega, by simp only [List.drop_drop], rfl⟩
      · rw [if_neg ht]
        by_cases hf : (b.drop a).getD 0 0 = 102
        · rw [if_pos hf, if_neg (by rintro (h | h | h); cases h; exact hne h; exact h.2 hf)]
          exact ⟨a + 1, by omega, by simp only [List.drop_drop], rfl⟩
        · rw [if_neg hf, if_pos (Or.inr (Or.inr ⟨ht, hf⟩))]
          exact ⟨a, ha, rfl, rfl⟩
theorem xuint_any (w0 : World) (g : Nat) (w : World) (b l : List Int) (bad : Bool) (h : IsX w0 g w b l bad) (hB : Below w0.heap.size w0 w) (hb : okL b) :
    Calls Try.prog 58 #[.pointer (some ⟨g, 0, none⟩)] w fun e w' => e = .returned (.int .u64 (uintS l bad).1) ∧ IsX w0 g w' b (uintS l bad).2.1 (uintS l bad).2.2 ∧ Wr w.heap.size g w w' := by
  obtain ⟨a, ha, rfl, hI⟩ := h
  obtain ⟨a', h1, h2, h3⟩ := xuint_eq b a bad hb ha
  exact (steleref02_Reader_Uint.calls 10 g b (a : Int) bad _ _ _ w0 w hI hB h3).mono fun e w' ⟨he, hi, hb', hk⟩ => ⟨he, ⟨a', h1, h2, hi⟩, Wr.of_keep hB hb' hk⟩
theorem xbool_any (w0 : World) (g : Nat) (w : World) (b l : List Int) (bad : Bool) (h : IsX w0 g w b l bad) (hB : Below w0.heap.size w0 w) (hb : okL b) :
    Calls Try.prog 64 #[.pointer (some ⟨g, 0, none⟩)] w fun e w' => e = .returned (.bool (boolS l bad).1) ∧ IsX w0 g w' b (boolS l bad).2.1 (boolS l bad).2.2 ∧ Wr w.heap.size g w w' := by
  obtain ⟨a, ha, rfl, hI⟩ := h
  obtain ⟨a', h1, h2, h3⟩ := xbool_eq b a bad hb ha
  exact (steleref02_Reader_Bool.calls g b (a : Int) bad _ _ _ w0 w hI hB h3).mono fun e w' ⟨he, hi, hb', hk⟩ => ⟨he, ⟨a', h1, h2, hi⟩, Wr.of_keep hB hb' hk⟩
end Go.Proofs.Ytlnpmodhejakiaa.D
