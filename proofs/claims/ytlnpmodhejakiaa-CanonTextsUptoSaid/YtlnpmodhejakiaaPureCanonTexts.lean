/- The plain law of CanonTexts: the printed function of the law answers true, for every value of its parameters that the row lets in. -/
import Derived.Test.YtlnpmodhejakiaaDefCanonTexts
import Derived.Test.YtlnpmodhejakiaaPureCanonNumbers
namespace Go.Proofs.Ytlnpmodhejakiaa.Pure
open Go.RowKit Go.Proofs.YtlnpmodhejakiaaW.PrintWords Go.Proofs.YtlnpmodhejakiaaW.PrintLast Go.Proofs.YtlnpmodhejakiaaW.PrintMore Go.Proofs.Ytlnpmodhejakiaa.PK Go.Proofs.Ytlnpmodhejakiaa.D Go.Proofs.Ytlnpmodhejakiaa.PC Go.Proofs.Ytlnpmodhejakiaa.CP
set_option linter.unusedVariables false
theorem sum1 (l : List Int) : (l.map (fun _ => 1)).sum = l.length := by
  induction l with
  | nil => rfl
  | cons a t ih => rw [List.map_cons, List.sum_cons, ih, List.length_cons]; omega
theorem CanonTexts : stelelaw02_CanonTexts.Pure := by
  intro x0 x1 x2 h0 h1 h2 hb
  rw [sum1, sum1] at hb
  have hx : x0.length + x1.length + x2.size ≤ 1048576 := by omega
  refine ⟨x0.length + x1.length + x2.size + 20, ?_⟩
  unfold stelelaw02_CanonTexts.f
  rw [c_bytes _ (by omega) x0 x1 (by omega), r_bytes _ (by omega) x0 x1 (by omega)]
  simp only [Option.bind_some]
  have l1 : (bytesL x0 x1).length = x0.length + x1.length + 5 := by unfold bytesL; rw [List.length_append, List.length_append, List.length_cons, longL_len]; omega
  rw [sameK (bytesL x0 x1) (by omega) _ (by omega)]
  simp only [Option.bind_some, if_true]
  have l2 : (textL x0 x2).length = x0.length + x2.size + 5 := by unfold textL; rw [List.length_append, List.length_append, List.length_cons, longL_len, bytesOf_length]; omega
  have hT : steleref02_Text.f x0 x2 = some (textL x0 x2) := by unfold steleref02_Text.f; rw [if_pos (by omega)]
  rw [c_text _ (by omega) x0 x2 (by omega), hT]
  simp only [Option.bind_some]
  rw [sameK (textL x0 x2) (by omega) _ (by omega)]
  rfl
end Go.Proofs.Ytlnpmodhejakiaa.Pure
