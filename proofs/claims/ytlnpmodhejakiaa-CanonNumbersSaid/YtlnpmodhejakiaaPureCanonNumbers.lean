/- The plain law of CanonNumbers: the printed function of the law answers true, for every value of its parameters that the row lets in. -/
import Derived.Test.YtlnpmodhejakiaaDefCanonNumbers
import Derived.Test.YtlnpmodhejakiaaCanP
namespace Go.Proofs.Ytlnpmodhejakiaa.Pure
open Go.RowKit Go.Proofs.YtlnpmodhejakiaaW.PrintWords Go.Proofs.YtlnpmodhejakiaaW.PrintLast Go.Proofs.YtlnpmodhejakiaaW.PrintMore Go.Proofs.Ytlnpmodhejakiaa.PK Go.Proofs.Ytlnpmodhejakiaa.D Go.Proofs.Ytlnpmodhejakiaa.PC Go.Proofs.Ytlnpmodhejakiaa.CP
set_option linter.unusedVariables false
theorem sameK0 (l : List Int) (hl : l.length ≤ 140737488355328) : ∀ (d i k : Nat), l.length - i = d → i ≤ l.length → d < k → steleref01_Same.l0 k l l i = some true := by
  intro d
  induction d with
  | zero =>
    intro i k hd hi hk
    obtain ⟨k, rfl⟩ : ∃ k', k = k' + 1 := ⟨k - 1, by omega⟩
    rw [steleref01_Same.l0, if_neg (by omega)]
  | succ d ih =>
    intro i k hd hi hk
    obtain ⟨k, rfl⟩ : ∃ k', k = k' + 1 := ⟨k - 1, by omega⟩
    rw [steleref01_Same.l0, if_pos (by omega), if_pos (by omega), if_pos (by omega), if_pos rfl]
    rw [show wrap64 ((i : Int) + 1) = ((i + 1 : Nat) : Int) by unfold wrap64; omega]
    exact ih (i + 1) k (by omega) (by omega) (by omega)
theorem sameK (l : List Int) (hl : l.length ≤ 140737488355328) (k : Nat) (hk : l.length < k) : steleref01_Same.f k l l = some true := by
  unfold steleref01_Same.f
  rw [if_pos rfl]
  exact sameK0 l hl l.length 0 _ (by omega) (by omega) hk
theorem wf64 {y : Int} (h : (Lit.int .i64 y).wf = true) : -9223372036854775808 ≤ y ∧ y ≤ 9223372036854775807 := by
  have h' : IntKind.i64.min ≤ y ∧ y ≤ IntKind.i64.max := by simpa [Lit.wf] using h
  exact h'
theorem CanonNumbers : stelelaw02_CanonNumbers.Pure := by
  intro x0 x1 x2 x3 h0 h1 h3
  have hn := wf64 h3
  refine ⟨x0.length + 20, ?_⟩
  unfold stelelaw02_CanonNumbers.f
  rw [c_uint _ (by omega) x0 x1 (by omega), r_uint _ (by omega) x0 x1 (by omega)]
  simp only [Option.bind_some]
  rw [sameK (uintL x0 x1) (by unfold uintL; rw [List.length_append, List.length_cons, longL_len]; omega) _ (by unfold uintL; rw [List.length_append, List.length_cons, longL_len]; omega)]
  simp only [Option.bind_some, if_true]
  rw [c_bool _ (by omega) x0 x2 (by omega), r_bool x0 x2 (by omega)]
  simp only [Option.bind_some]
  rw [sameK (boolL x0 x2) (by unfold boolL; rw [List.length_append, List.length_singleton]; omega) _ (by unfold boolL; rw [List.length_append, List.length_singleton]; omega)]
  simp only [Option.bind_some, if_true]
  rw [c_list _ (by omega) x0 x3 hn (by omega), r_list _ (by omega) x0 x3 hn (by omega)]
  simp only [Option.bind_some]
  rw [sameK (listL x0 x3) (by unfold listL; rw [List.length_append, List.length_cons, longL_len]; omega) _ (by unfold listL; rw [List.length_append, List.length_cons, longL_len]; omega)]
  rfl
end Go.Proofs.Ytlnpmodhejakiaa.Pure
