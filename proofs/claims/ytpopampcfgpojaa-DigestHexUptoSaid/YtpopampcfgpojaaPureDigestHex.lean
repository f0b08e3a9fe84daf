/- The plain law of DigestHex: how bytes are written as digits, and which texts are some. -/
import Derived.Test.YtpopampcfgpojaaDefDigestHex
import Derived.Test.YtpopampcfgpojaaHexL
namespace Go.Proofs.Ytpopampcfgpojaa.Pure
open Go.RowKit Go.Proofs.YtpopampcfgpojaaW.PrintWords Go.Proofs.YtpopampcfgpojaaW.PrintLast Go.Proofs.YtpopampcfgpojaaW.PrintMore Go.Proofs.Ytpopampcfgpojaa.Opn Go.Proofs.Ytpopampcfgpojaa.PH Go.Proofs.Ytpopampcfgpojaa.PG Go.Proofs.Ytpopampcfgpojaa.HexL
set_option linter.unusedVariables false
set_option linter.unusedSimpArgs false

theorem DigestHex : stelelaw01_DigestHex.Pure := by
  intro l s hl hs hbulk
  rw [sum_ones] at hbulk
  have hb : ∀ x ∈ l, 0 ≤ x ∧ x ≤ 255 := fun x hx => by have := u8_ok (hl.2 x hx); omega
  refine ⟨1048600, ?_⟩
  unfold stelelaw01_DigestHex.f
  rw [unhex_eq s hs _ (by omega), runhex_eq s hs _ (by omega), hex_eq l (by omega) hb, rhex_eq l (by omega) hb _ (by omega)]
  simp only [Option.bind_some]
  obtain ⟨y, e, hy⟩ : ∃ y e, (if s.size % 2 = 0 then U s (s.size / 2) 0 [] else ([], 4)) = ((y, e) : List Int × Int) := ⟨_, _, rfl⟩
  rw [hy]
  have hlen : y.length ≤ 1048576 := by
    by_cases c : s.size % 2 = 0
    · rw [if_pos c] at hy
      have := (U_bd s (s.size / 2) 0 [] (by simp)).2
      rw [hy] at this
      simp at this; omega
    · rw [if_neg c] at hy
      obtain ⟨rfl, rfl⟩ := Prod.mk.inj hy
      simp
  simp only [if_true]
  rw [rsame y y (by omega) _ (by omega)]
  have h240 : digest_Hex.f [240] = some ⟨(hexL [240]).toArray⟩ := hex_eq [240] (by simp) (by simp)
  rw [h240]
  simp only [Option.bind_some, beq_self_eq_true, if_true]
  rw [toL]
  rfl
end Go.Proofs.Ytpopampcfgpojaa.Pure
