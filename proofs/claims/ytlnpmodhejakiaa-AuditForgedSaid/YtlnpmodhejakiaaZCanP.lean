/- canon and its reference: what their writers answer, in plain words. -/
import Derived.Test.YtlnpmodhejakiaaZPCx1
namespace Go.Proofs.Ytlnpmodhejakiaa.CP
open Go.RowKit Go.Proofs.YtlnpmodhejakiaaW.PrintWords Go.Proofs.YtlnpmodhejakiaaW.PrintLast Go.Proofs.YtlnpmodhejakiaaW.PrintMore Go.Proofs.Ytlnpmodhejakiaa.PC Go.Proofs.Ytlnpmodhejakiaa.D
set_option linter.unusedVariables false
set_option linter.unusedSimpArgs false
def byteAt (n : Int) (i : Nat) : Int := n / 2 ^ (8 * i) % 256
def longL (n : Int) : Nat → List Int
  | 0 => []
  | i + 1 => byteAt n i :: longL n i
theorem longL_len (n : Int) : ∀ m, (longL n m).length = m
  | 0 => rfl
  | m + 1 => by rw [longL, List.length_cons, longL_len n m]
theorem longL_bd (n : Int) : ∀ m, ∀ x ∈ longL n m, 0 ≤ x ∧ x ≤ 255
  | 0 => by intro x hx; cases hx
  | m + 1 => by
    intro x hx
    rw [longL] at hx
    rcases List.mem_cons.1 hx with h | h
    · subst h; unfold byteAt; omega
    · exact longL_bd n m x h
theorem shr_by (n : Int) (i : Nat) (hi : i < 8) : (shr .u64 n (IntKind.u64.wrap (wrap64 (8 * (i : Int))))) % 256 = byteAt n i := by
  have e1 : wrap64 (8 * (i : Int)) = 8 * (i : Int) := by unfold wrap64; omega
  have e : IntKind.u64.wrap (wrap64 (8 * (i : Int))) = 8 * (i : Int) := by rw [e1, IntKind.wrap_u64]; omega
  rw [e]
  unfold shr byteAt
  rw [show min (8 * (i : Int)).toNat IntKind.u64.bits = 8 * i by show min _ 64 = _; omega]
theorem clong_go (n : Int) (L : Nat) (hL : L ≤ 140737488355000) : ∀ (m k : Nat) (out : List Int), m ≤ 8 → m < k → out.length + m ≤ L → canon_long.l0 k out n ((m : Int) - 1) = some (out ++ longL n m) := by
  intro m
  induction m with
  | zero =>
    intro k out _ hk _
    obtain ⟨k, rfl⟩ : ∃ j, k = j + 1 := ⟨k - 1, by omega⟩
    rw [canon_long.l0, if_neg (by omega), longL, List.append_nil]
  | succ m ih =>
    intro k out hm hk hl
    obtain ⟨k, rfl⟩ : ∃ j, k = j + 1 := ⟨k - 1, by omega⟩
    have e0 : ((m + 1 : Nat) : Int) - 1 = (m : Int) := by omega
    have e1 : wrap64 ((m : Int) - 1) = (m : Int) - 1 := by unfold wrap64; omega
    have e2 : wrap64 (8 * (m : Int)) = 8 * (m : Int) := by unfold wrap64; omega
    have e3 : (0 : Int) ≤ IntKind.u64.wrap (wrap64 (8 * (m : Int))) := by rw [e2, IntKind.wrap_u64]; omega
    rw [e0, canon_long.l0, if_pos (show (m : Int) ≥ 0 by omega), if_pos e3, if_pos (by omega), shr_by n m (by omega), e1, ih k (out ++ [byteAt n m]) (by omega) (by omega) (by rw [List.length_append, List.length_singleton]; omega), longL, List.append_assoc]
    rfl
theorem clong (n : Int) (m k : Nat) (out : List Int) (hm : m ≤ 8) (hk : m < k) (hl : out.length + m ≤ 140737488355000) : canon_long.f k out n (m : Int) = some (out ++ longL n m) := by
  unfold canon_long.f
  rw [show wrap64 ((m : Int) - 1) = (m : Int) - 1 by unfold wrap64; omega]
  exact clong_go n 140737488355000 (Nat.le_refl _) m k out hm hk hl
theorem rlong_go (n : Int) : ∀ (m k : Nat) (out : List Int), m ≤ 8 → m < k → out.length + m ≤ 8 → steleref02_long.l0 k n out ((m : Int) - 1) = some (out ++ longL n m) := by
  intro m
  induction m with
  | zero =>
    intro k out _ hk _
    obtain ⟨k, rfl⟩ : ∃ j, k = j + 1 := ⟨k - 1, by omega⟩
    rw [steleref02_long.l0, if_neg (by omega), longL, List.append_nil]
  | succ m ih =>
    intro k out hm hk hl
    obtain ⟨k, rfl⟩ : ∃ j, k = j + 1 := ⟨k - 1, by omega⟩
    have e0 : ((m + 1 : Nat) : Int) - 1 = (m : Int) := by omega
    have e1 : wrap64 ((m : Int) - 1) = (m : Int) - 1 := by unfold wrap64; omega
    have e2 : wrap64 (8 * (m : Int)) = 8 * (m : Int) := by unfold wrap64; omega
    have e3 : (0 : Int) ≤ IntKind.u64.wrap (wrap64 (8 * (m : Int))) := by rw [e2, IntKind.wrap_u64]; omega
    rw [e0, steleref02_long.l0, if_pos (show (m : Int) ≥ 0 by omega), if_pos e3, if_pos (by omega), shr_by n m (by omega), e1, ih k (out ++ [byteAt n m]) (by omega) (by omega) (by rw [List.length_append, List.length_singleton]; omega), longL, List.append_assoc]
    rfl
theorem rlong (n : Int) (m k : Nat) (hm : m ≤ 8) (hk : m < k) : steleref02_long.f k n (m : Int) = some (longL n m) := by
  unfold steleref02_long.f
  rw [show wrap64 ((m : Int) - 1) = (m : Int) - 1 by unfold wrap64; omega]
  have := rlong_go n m k [] hm hk (by simpa using hm)
  rwa [List.nil_append] at this
theorem rjoin (a b : List Int) (h : a.length + b.length ≤ 140737488355000) : steleref02_join.f a b = some (a ++ b) := by
  unfold steleref02_join.f
  rw [Option.bind_some, if_pos (by simp only [List.length_nil]; omega), Option.bind_some, List.nil_append, if_pos (by omega)]
theorem cpart (out : List Int) (sign n : Int) (m k : Nat) (hm : m ≤ 8) (hk : m < k) (hl : out.length + 9 ≤ 140737488355000) : canon_part.f k out sign n (m : Int) = some (out ++ sign :: longL n m) := by
  unfold canon_part.f slices_Clone_byte_byte.f
  rw [if_pos (by omega), Option.bind_some, if_pos (by omega), clong n m k _ hm hk (by rw [List.length_append, List.length_singleton]; omega), Option.bind_some, List.append_assoc]
  rfl
def uintL (out : List Int) (n : Int) : List Int := out ++ 117 :: longL n 8
def bytesL (out b : List Int) : List Int := out ++ 98 :: longL (b.length : Int) 4 ++ b
def textL (out : List Int) (s : ByteArray) : List Int := out ++ 115 :: longL (s.size : Int) 4 ++ bytesOf s
theorem wrapN (n : Nat) (h : n ≤ 140737488355328) : IntKind.u64.wrap (n : Int) = (n : Int) := by rw [IntKind.wrap_u64]; omega
theorem c_uint (k : Nat) (hk : 9 ≤ k) (out : List Int) (n : Int) (h : out.length + 9 ≤ 140737488355000) : canon_Uint.f k out n = some (uintL out n) := by
  unfold canon_Uint.f
  have := cpart out 117 n 8 k (by omega) (by omega) h
  rw [show ((8 : Nat) : Int) = 8 from rfl] at this
  rw [this]; rfl
theorem c_bytes (k : Nat) (hk : 9 ≤ k) (out b : List Int) (h : out.length + b.length + 9 ≤ 140737488355000) : canon_Bytes.f k out b = some (bytesL out b) := by
  unfold canon_Bytes.f
  have := cpart out 98 (b.length : Int) 4 k (by omega) (by omega) (by omega)
  rw [show ((4 : Nat) : Int) = 4 from rfl] at this
  rw [wrapN _ (by omega), this, Option.bind_some, if_pos (by rw [List.length_append, List.length_cons, longL_len]; omega)]
  rfl
theorem c_text (k : Nat) (hk : 9 ≤ k) (out : List Int) (s : ByteArray) (h : out.length + s.size + 9 ≤ 140737488355000) : canon_Text.f k out s = some (textL out s) := by
  unfold canon_Text.f
  have := cpart out 115 (s.size : Int) 4 k (by omega) (by omega) (by omega)
  rw [show ((4 : Nat) : Int) = 4 from rfl] at this
  rw [wrapN _ (by omega), this, Option.bind_some, if_pos (by rw [List.length_append, List.length_cons, longL_len]; omega)]
  rfl
theorem r_sign (out : List Int) (sign : Int) (v : List Int) (hv : v.length ≤ 8) (h : out.length + 9 ≤ 140737488355000) : steleref02_join.f (out ++ [sign]) v = some (out ++ sign :: v) := by
  rw [rjoin _ _ (by rw [List.length_append, List.length_singleton]; omega), List.append_assoc]; rfl
theorem r_nil (out : List Int) (h : out.length + 9 ≤ 140737488355000) : steleref02_join.f out [] = some out := by
  rw [rjoin _ _ (by simp only [List.length_nil]; omega), List.append_nil]
theorem r_uint (k : Nat) (hk : 9 ≤ k) (out : List Int) (n : Int) (h : out.length + 9 ≤ 140737488355000) : steleref02_Uint.f k out n = some (uintL out n) := by
  unfold steleref02_Uint.f
  have := rlong n 8 k (by omega) (by omega)
  rw [show ((8 : Nat) : Int) = 8 from rfl] at this
  rw [r_nil out h, Option.bind_some, if_pos (by omega), this, Option.bind_some, r_sign out 117 _ (by rw [longL_len]; omega) h]; rfl
theorem r_bytes (k : Nat) (hk : 9 ≤ k) (out b : List Int) (h : out.length + b.length + 9 ≤ 140737488355000) : steleref02_Bytes.f k out b = some (bytesL out b) := by
  unfold steleref02_Bytes.f
  have := rlong (b.length : Int) 4 k (by omega) (by omega)
  rw [show ((4 : Nat) : Int) = 4 from rfl] at this
  rw [r_nil out (by omega), Option.bind_some, if_pos (by omega), wrapN _ (by omega), this, Option.bind_some, r_sign out 98 _ (by rw [longL_len]; omega) (by omega), Option.bind_some, rjoin _ _ (by rw [List.length_append, List.length_cons, longL_len]; omega)]; rfl
end Go.Proofs.Ytlnpmodhejakiaa.CP
