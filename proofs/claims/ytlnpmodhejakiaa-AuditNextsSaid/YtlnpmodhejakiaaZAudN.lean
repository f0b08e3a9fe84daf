/- The audit's logs that grow, in plain words. -/
import Derived.OpenShut
import Derived.Test.YtlnpmodhejakiaaZAudB
namespace Go.Proofs.Ytlnpmodhejakiaa.AV
open Go.RowKit Go.Proofs.YtlnpmodhejakiaaW.PrintWords Go.Proofs.YtlnpmodhejakiaaW.PrintLast Go.Proofs.YtlnpmodhejakiaaW.PrintMore Go.Proofs.Ytlnpmodhejakiaa.Sha Go.Proofs.Ytlnpmodhejakiaa.D Go.Proofs.Ytlnpmodhejakiaa.PC Go.Proofs.Ytlnpmodhejakiaa.CP Go.Proofs.Ytlnpmodhejakiaa.PV
set_option linter.unusedVariables false
set_option linter.unusedSimpArgs false
def lastD : List S69 → List Int → List Int
  | [], last => last
  | x :: l, _ => lastD l (digP x)
def nextP (l : List S69) (x : S69) : S69 := match l.getLast? with
  | none => ⟨1, x.f1, x.f2, x.f3, x.f4, x.f5, x.f6, x.f7, x.f8, []⟩
  | some y => ⟨IntKind.u64.wrap (y.f0 + 1), x.f1, x.f2, x.f3, x.f4, x.f5, x.f6, x.f7, x.f8, digP y⟩
theorem nextP_snoc (m : List S69) (y x : S69) : nextP (m ++ [y]) x = ⟨IntKind.u64.wrap (y.f0 + 1), x.f1, x.f2, x.f3, x.f4, x.f5, x.f6, x.f7, x.f8, digP y⟩ := by
  have e : (m ++ [y]).getLast? = some y := by simp
  unfold nextP
  rw [e]
theorem a_next (l : List S69) (hl : l.length ≤ 1000) (hs : ∀ y ∈ l, okX y) (x : S69) (hx : x.f8.length ≤ 1000000) (k : Nat) (hk : 9 ≤ k) :
    audit_Next.f k l x.f0 x.f1 x.f2 x.f3 x.f4 x.f5 x.f6 x.f7 x.f8 x.f9 = some ((nextP l x).f0, (nextP l x).f1, (nextP l x).f2, (nextP l x).f3, (nextP l x).f4, (nextP l x).f5, (nextP l x).f6, (nextP l x).f7, (nextP l x).f8, (nextP l x).f9) := by
  unfold audit_Next.f slices_Clone_byte_byte.f
  rw [if_pos (by omega), Option.bind_some]
  rcases List.eq_nil_or_concat l with rfl | ⟨m, y, rfl⟩
  · rfl
  · rw [List.concat_eq_append] at *
    rw [List.length_append, List.length_singleton] at *
    have ew : wrap64 (((m.length + 1 : Nat) : Int) - 1) = (m.length : Int) := by unfold wrap64; omega
    rw [if_neg (by omega), ew, if_pos (by omega), if_pos (by omega), rdT _ m.length (by simp)]
    have e : (m ++ [y])[m.length]'(by simp) = y := by simp
    rw [e, a_digest y (hs y (by simp)) k hk, Option.bind_some, nextP_snoc]
structure Grown (l : List S69) : Prop where
  ok : ∀ y ∈ l, okX y
  ver : verP l 0 [] (lastD l []) = 0
  last : ∀ y, l.getLast? = some y → y.f0 = (l.length : Int)
end Go.Proofs.Ytlnpmodhejakiaa.AV
