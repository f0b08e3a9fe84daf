/- A part of a record in plain words: its bytes, and that they tell it (for CanonOne and CanonBack). -/
import Derived.Test.YtlnpmodhejakiaaZCanP
import Derived.Test.YtlnpmodhejakiaaZCanK
namespace Go.Proofs.Ytlnpmodhejakiaa.CP
open Go.RowKit Go.Proofs.YtlnpmodhejakiaaW.PrintWords Go.Proofs.YtlnpmodhejakiaaW.PrintLast Go.Proofs.YtlnpmodhejakiaaW.PrintMore Go.Proofs.Ytlnpmodhejakiaa.D Go.Proofs.Ytlnpmodhejakiaa.PC Go.Proofs.Ytlnpmodhejakiaa.PK
set_option linter.unusedVariables false
theorem byteAt_nat (N i : Nat) : byteAt (N : Int) i = ((N / 256 ^ i % 256 : Nat) : Int) := by
  unfold byteAt
  have e : (2 : Int) ^ (8 * i) = ((256 ^ i : Nat) : Int) := by
    rw [Int.pow_mul, Int.natCast_pow]; rfl
  rw [e]
  rfl
theorem longL_fold (N : Nat) : ∀ (m : Nat) (a : Int), (longL (N : Int) m).foldl (fun n x => n * 256 + x) a = a * ((256 ^ m : Nat) : Int) + ((N % 256 ^ m : Nat) : Int)
  | 0, a => by simp [longL, Nat.mod_one]
  | m + 1, a => by
    rw [longL, List.foldl_cons, longL_fold N m, byteAt_nat, Nat.pow_succ, Nat.mod_mul]
    generalize (256 ^ m : Nat) = p
    generalize N / p % 256 = x
    generalize N % p = y
    rw [Int.natCast_add, Int.natCast_mul, Int.natCast_mul, Int.add_mul, Int.mul_assoc, Int.mul_comm 256 (p : Int), Int.mul_comm (x : Int) (p : Int), show ((256 : Nat) : Int) = 256 from rfl]
    omega
theorem longL_num (N m : Nat) (h : N < 256 ^ m) : numBE (longL (N : Int) m) = (N : Int) := by
  unfold numBE
  rw [longL_fold, Nat.mod_eq_of_lt h]
  omega
theorem bytes_str (l : List Int) (h : ∀ x ∈ l, 0 ≤ x ∧ x ≤ 255) : bytesOf (strOfNums l) = l := by
  unfold bytesOf strOfNums
  simp only [List.map_map]
  conv => rhs; rw [← List.map_id l]
  apply List.map_congr_left
  intro x hx
  have := h x hx
  show ((UInt8.ofNat x.toNat).toNat : Int) = id x
  rw [UInt8.toNat_ofNat']
  show ((x.toNat % 256 : Nat) : Int) = x
  omega
def sameP (kd n : Int) (b : List Int) (kd' n' : Int) (b' : List Int) : Prop :=
  kd = kd' ∧ (if kd = 0 then n = n' else if kd = 3 then Int.tmod n 2 = Int.tmod n' 2 else if kd = 4 then Int.tmod n 100 = Int.tmod n' 100 else b = b')
instance (kd n : Int) (b : List Int) (kd' n' : Int) (b' : List Int) : Decidable (sameP kd n b kd' n' b') := by unfold sameP; exact inferInstance
theorem pow8 : ((256 ^ 8 : Nat) : Int) = 18446744073709551616 := by decide
theorem pow4 : ((256 ^ 4 : Nat) : Int) = 4294967296 := by decide
end Go.Proofs.Ytlnpmodhejakiaa.CP
