/- Part of the proofs of this seat: PureAuditChains. -/
import Derived.Test.YtlnpmodhejakiaaZDefAuditChains
import Derived.Test.YtlnpmodhejakiaaZAudN
import Derived.Test.YtlnpmodhejakiaaZAudNb
import Derived.Test.YtlnpmodhejakiaaZWb
import Derived.Test.YtlnpmodhejakiaaZPVx0b
import Derived.Test.YtlnpmodhejakiaaZPAx0b
import Derived.Test.YtlnpmodhejakiaaZAudPb
import Derived.Test.YtlnpmodhejakiaaZAudBb
namespace Go.Proofs.Ytlnpmodhejakiaa.Pure
open Go.RowKit Go.Proofs.YtlnpmodhejakiaaW.PrintWords Go.Proofs.YtlnpmodhejakiaaW.PrintLast Go.Proofs.YtlnpmodhejakiaaW.PrintMore Go.Proofs.Ytlnpmodhejakiaa.PV Go.Proofs.Ytlnpmodhejakiaa.AV
set_option linter.unusedVariables false
theorem small69c {y : S69} (h : ok69 y) : smallX y := by obtain ⟨_, _, h2, _, h4, h5, _, _, h8, h9⟩ := h; exact ⟨by omega, by omega, by omega, by omega, by omega⟩
theorem light_okc {l : List S69} (h : lightP l = true) (hk : ∀ y ∈ l, ok69 y) : l.length ≤ 100 ∧ ∀ y ∈ l, okX y ∧ y.f2.size + y.f4.size + y.f5.size + y.f8.length + y.f9.length ≤ 5000 := by
  unfold lightP at h
  rw [Bool.and_eq_true, List.all_eq_true, decide_eq_true_eq] at h
  refine ⟨h.2, fun y hy => ?_⟩
  have hb := of_decide_eq_true (h.1 y hy)
  obtain ⟨h0, h1, h2, h3, h4, h5, h6, h7, h8, h9⟩ := hk y hy
  exact ⟨okX_of y ⟨h0, h1, h3, h6, h7, h8.2, h9.2⟩ (by omega), hb⟩
theorem chains_go (l : List S69) (hl : l.length ≤ 100) (hs : ∀ y ∈ l, okX y ∧ y.f2.size + y.f4.size + y.f5.size + y.f8.length + y.f9.length ≤ 5000) : ∀ (d k i : Nat) (all : List S69), i + d = l.length → d + 1002000 < k → all.length ≤ i → Grown all → stelelaw14_AuditChains.l0 k l all (i : Int) = some true := by
  intro d
  induction d with
  | zero =>
    intro k i all hi hk ha hg
    obtain ⟨k, rfl⟩ : ∃ m, k = m + 1 := ⟨k - 1, by omega⟩
    rw [stelelaw14_AuditChains.l0, if_neg (by omega), a_verify [] (by simp) (fun _ h => by cases h) [] B255.nil k (by simp; omega), Option.bind_some]
    rfl
  | succ d ih =>
    intro k i all hi hk ha hg
    obtain ⟨k, rfl⟩ : ∃ m, k = m + 1 := ⟨k - 1, by omega⟩
    have hlt : i < l.length := by omega
    obtain ⟨hx, hb⟩ := hs _ (List.getElem_mem hlt)
    rw [stelelaw14_AuditChains.l0, if_pos (by omega), if_pos (by omega), rdT l i hlt, a_next all (by omega) hg.ok l[i] (by omega) k (by omega), Option.bind_some]
    have hX := okX_next all hg.ok l[i] hx hb
    have hN := grown_next all (by omega) hg l[i] hx hb
    obtain ⟨n, hn⟩ : ∃ n, nextP all l[i] = n := ⟨_, rfl⟩
    rw [hn] at hX hN ⊢
    simp only
    rw [r_right n, Option.bind_some, right_eq n hX, wrap_nat i (by omega)]
    cases hr : rightP n with
    | false => exact ih k (i + 1) all (by omega) (by omega) (by omega) hg
    | true =>
      obtain ⟨g1, hv⟩ := hN hr
      have hne : digP n ≠ [] := fun h => by have := digP_len n; rw [h] at this; simp at this
      rw [if_pos rfl, if_pos (by omega), Option.bind_some, a_digest n hX k (by omega), Option.bind_some]
      have e : (⟨n.f0, n.f1, n.f2, n.f3, n.f4, n.f5, n.f6, n.f7, n.f8, n.f9⟩ : S69) = n := rfl
      rw [e, a_verify (all ++ [n]) (by simp; omega) g1.ok (digP n) (sha256_bd' _) k (by simp; omega), Option.bind_some, hv, if_pos rfl, if_pos rfl]
      rw [a_verify (all ++ [n]) (by simp; omega) g1.ok [] B255.nil k (by simp; omega), Option.bind_some, hv, if_neg hne, if_pos rfl]
      exact ih k (i + 1) (all ++ [n]) (by omega) (by omega) (by simp; omega) g1
theorem AuditChains : stelelaw14_AuditChains.Pure := by
  intro l h0
  refine ⟨l.length + 1003000, ?_⟩
  unfold stelelaw14_AuditChains.f
  rw [a_light l (by omega) (fun y hy => small69c (h0.2 y hy)) _ (by omega), Option.bind_some]
  cases hL : lightP l with
  | false => rfl
  | true =>
    obtain ⟨hl, hs⟩ := light_okc hL h0.2
    rw [if_pos rfl]
    exact chains_go l hl hs l.length _ 0 [] (by omega) (by omega) (by simp) grown_nil
end Go.Proofs.Ytlnpmodhejakiaa.Pure
