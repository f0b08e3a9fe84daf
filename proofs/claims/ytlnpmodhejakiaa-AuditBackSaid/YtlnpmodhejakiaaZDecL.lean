/- A part of a record is read as it was written (for CanonBack). -/
import Derived.Test.YtlnpmodhejakiaaZEncL
import Derived.Test.YtlnpmodhejakiaaZCanE
namespace Go.Proofs.Ytlnpmodhejakiaa.CP
open Go.RowKit Go.Proofs.YtlnpmodhejakiaaW.PrintWords Go.Proofs.YtlnpmodhejakiaaW.PrintLast Go.Proofs.YtlnpmodhejakiaaW.PrintMore Go.Proofs.Ytlnpmodhejakiaa.D
set_option linter.unusedVariables false
theorem headV_of (s : Int) (v r : List Int) (m : Nat) (hv : v.length = m) : headV (s :: (v ++ r)) false s m = some (numBE v) := by
  unfold headV
  rw [if_neg (by rintro (h | h | h); cases h; rw [List.length_cons, List.length_append] at h; omega; exact h rfl)]
  rw [List.drop_one, List.tail_cons, List.take_append_of_le_length (by omega), List.take_of_length_le (by omega)]
theorem drop_of (s : Int) (v r : List Int) (m : Nat) (hv : v.length + 1 = m) : (s :: (v ++ r)).drop m = r := by
  subst hv
  rw [List.drop_succ_cons, List.drop_left]
theorem d_uint (n : Int) (r : List Int) (hn : 0 ≤ n ∧ n ≤ 18446744073709551615) : uintS (117 :: longL n 8 ++ r) false = (n, r, false) := by
  obtain ⟨N, rfl⟩ := Int.eq_ofNat_of_zero_le hn.1
  unfold uintS
  rw [List.cons_append, headV_of 117 (longL (N : Int) 8) r 8 (longL_len _ _), longL_num N 8 (by have := pow8; omega)]
  simp only [drop_of 117 (longL (N : Int) 8) r 9 (by rw [longL_len])]
theorem d_some (s : Int) (b r : List Int) (hb : b.length ≤ 4294967295) : someS (s :: (longL (b.length : Int) 4 ++ b) ++ r) false s = (b, r, false) := by
  unfold someS
  rw [List.cons_append, List.append_assoc, headV_of s (longL (b.length : Int) 4) (b ++ r) 4 (longL_len _ _), longL_num b.length 4 (by have := pow4; omega)]
  simp only
  rw [if_neg (by rw [List.length_cons, List.length_append, List.length_append, longL_len]; omega)]
  rw [Int.toNat_natCast]
  have e : s :: (longL (b.length : Int) 4 ++ (b ++ r)) = s :: ((longL (b.length : Int) 4 ++ b) ++ r) := by rw [List.append_assoc]
  rw [drop_of s (longL (b.length : Int) 4) (b ++ r) 5 (by rw [longL_len]), List.take_left, e, drop_of s (longL (b.length : Int) 4 ++ b) r (5 + b.length) (by rw [List.length_append, longL_len]; omega)]
end Go.Proofs.Ytlnpmodhejakiaa.CP
