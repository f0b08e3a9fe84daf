/- Words for AuditEdited: rows whose Sum came in and whose Prev was made; the plain law. -/
import Derived.Test.YtlnpmodhejakiaaZAudG
import Derived.Test.YtlnpmodhejakiaaZAudC
import Derived.Test.YtlnpmodhejakiaaZWb
import Derived.Test.YtlnpmodhejakiaaZShab
import Derived.Test.YtlnpmodhejakiaaZAudBb
import Derived.Test.YtlnpmodhejakiaaZAudRb
namespace Go.Proofs.Ytlnpmodhejakiaa.AV
open Go.RowKit Go.Proofs.YtlnpmodhejakiaaW.PrintWords Go.Proofs.YtlnpmodhejakiaaW.PrintLast Go.Proofs.YtlnpmodhejakiaaW.PrintMore Go.Proofs.Ytlnpmodhejakiaa.Sha Go.Proofs.Ytlnpmodhejakiaa.D Go.Proofs.Ytlnpmodhejakiaa.PC Go.Proofs.Ytlnpmodhejakiaa.CP Go.Proofs.Ytlnpmodhejakiaa.PV
set_option linter.unusedVariables false
set_option linter.unusedSimpArgs false
theorem rows_drop {w : World} {A : Option Addr} {l : List S69} (hC : Kd.C k69 w A l.length l) (n c : Nat) (hn : n ≤ l.length) (hc : l.length ≤ c) : Kd.C k69 w (if c = n then A else A.map (·.add (n * 10))) (l.length - n) (l.drop n) := by
  obtain ⟨h1, h2, h3⟩ := hC
  refine ⟨by rw [List.length_drop], by omega, fun h => ?_⟩
  rw [if_neg (by omega)]
  obtain ⟨ad, hA, hcl⟩ := h3 (by omega)
  subst hA
  refine ⟨ad.add (n * 10), rfl, fun j p hj => ?_⟩
  rw [List.getElem?_drop] at hj
  obtain ⟨cs, hl, hk, hcs⟩ := hcl (n + j) p hj
  refine ⟨cs, hl, hk, fun i u hu => ?_⟩
  have := hcs i u hu
  have hz : k69.sz = 10 := rfl
  rw [hz] at this ⊢
  rw [Addr.add_add, show n * 10 + (j * 10 + i) = (n + j) * 10 + i by omega]
  exact this
/-! the plain law -/
theorem sameP_refl (x : S69) : sameP x x = true := (sameP_iff x x).2 rfl
theorem collR_pre (a b : List S69) : ∀ c : List S69, collR (c ++ a) (c ++ b) = collR a b
  | [] => rfl
  | x :: c => by rw [List.cons_append, List.cons_append, collR, if_pos (sameP_refl x), collR_pre a b c]
theorem split_at (l : List S69) (n : Nat) (h : n < l.length) : l = l.take n ++ rd_T69 l (n : Int) :: l.drop (n + 1) := by
  rw [rdT l n h]
  conv => lhs; rw [← List.take_append_drop n l, List.drop_eq_getElem_cons h]
end Go.Proofs.Ytlnpmodhejakiaa.AV
