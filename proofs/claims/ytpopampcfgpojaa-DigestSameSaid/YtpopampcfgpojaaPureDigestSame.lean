/- The plain law of DigestSame: the printed function of the law answers true, for every value of its parameters that the row lets in. -/
import Derived.Test.YtpopampcfgpojaaDefDigestSame
import Derived.Laws.BitsAllLaws
namespace Go.Proofs.Ytpopampcfgpojaa.Pure
open Go.RowKit Go.Proofs.YtpopampcfgpojaaW.PrintWords Go.Proofs.YtpopampcfgpojaaW.PrintLast Go.Proofs.YtpopampcfgpojaaW.PrintMore Go.Proofs.Ytpopampcfgpojaa.Opn Go.Proofs.Ytpopampcfgpojaa.PS
set_option linter.unusedVariables false
set_option linter.unusedSimpArgs false

theorem u8_ok {n : Int} (h : (Lit.int .u8 n).wf = true) : 0 ≤ n ∧ n < 256 := by have := bounds_u8 h; omega
theorem wrap_nat (i : Nat) (h : i < 9223372036854775807) : wrap64 ((i : Int) + 1) = ((i + 1 : Nat) : Int) := by unfold wrap64; omega
theorem drop_rd (a : List Int) (i : Nat) (h : i < a.length) : a.drop i = rd a (i : Int) :: a.drop (i + 1) := by
  unfold rd
  rw [Int.toNat_natCast, List.getD_eq_getElem?_getD, List.getElem?_eq_getElem h, Option.getD_some]
  exact List.drop_eq_getElem_cons h
/-- steleref01.Same tells whether two lists of bytes are one. -/
theorem rsame_loop (a b : List Int) (hl : a.length = b.length) (hn : a.length < 9223372036854775807) : ∀ (d k i : Nat), i + d = a.length → d < k → steleref01_Same.l0 k a b (i : Int) = some (a.drop i == b.drop i) := by
  intro d
  induction d with
  | zero =>
    intro k i hi hk
    obtain ⟨k, rfl⟩ : ∃ m, k = m + 1 := ⟨k - 1, by omega⟩
    simp only [steleref01_Same.l0]
    rw [if_neg (by omega), List.drop_of_length_le (by omega), List.drop_of_length_le (by omega)]; rfl
  | succ d ih =>
    intro k i hi hk
    obtain ⟨k, rfl⟩ : ∃ m, k = m + 1 := ⟨k - 1, by omega⟩
    simp only [steleref01_Same.l0]
    rw [if_pos (by omega), if_pos (by omega), if_pos (by omega), wrap_nat i (by omega), ih k (i + 1) (by omega) (by omega), drop_rd a i (by omega), drop_rd b i (by omega)]
    by_cases e : rd a (i : Int) = rd b (i : Int)
    · rw [if_pos e, e]; simp
    · rw [if_neg e]; simp [e]
theorem rsame (a b : List Int) (hn : a.length < 9223372036854775807) (k : Nat) (hk : a.length < k) : steleref01_Same.f k a b = some (a == b) := by
  unfold steleref01_Same.f
  by_cases e : a.length = b.length
  · rw [if_pos (by omega)]
    have := rsame_loop a b e hn a.length k 0 (by omega) hk
    simpa using this
  · rw [if_neg (by omega)]
    have : a ≠ b := fun h => e (by rw [h])
    simp [this]
theorem rd_range (a : List Int) (ha : ∀ y ∈ a, (Lit.int .u8 y).wf = true) (i : Nat) : 0 ≤ rd a (i : Int) ∧ rd a (i : Int) < 256 := by
  unfold rd
  rw [Int.toNat_natCast, List.getD_eq_getElem?_getD]
  by_cases h : i < a.length
  · rw [List.getElem?_eq_getElem h]; exact u8_ok (ha _ (List.getElem_mem h))
  · rw [List.getElem?_eq_none (by omega)]; decide
theorem xor_zero {x y : Nat} : x ^^^ y = 0 ↔ x = y := by
  constructor
  · intro h
    have : x ^^^ y ^^^ y = 0 ^^^ y := by rw [h]
    rwa [Nat.xor_assoc, Nat.xor_self, Nat.xor_zero, Nat.zero_xor] at this
  · rintro rfl; exact Nat.xor_self _
/-- digest.Same tells whether two lists of bytes are one. -/
theorem dsame_loop (a b : List Int) (ha : ∀ y ∈ a, (Lit.int .u8 y).wf = true) (hb : ∀ y ∈ b, (Lit.int .u8 y).wf = true) (hl : a.length = b.length) (hn : a.length < 9223372036854775807) : ∀ (d k i : Nat) (odd : Int), 0 ≤ odd → odd < 256 → i + d = a.length → d < k →
    digest_Same.l0 k b odd a (a.length : Int) (i : Int) = some (decide (odd = 0) && a.drop i == b.drop i) := by
  intro d
  induction d with
  | zero =>
    intro k i odd h0 h1 hi hk
    obtain ⟨k, rfl⟩ : ∃ m, k = m + 1 := ⟨k - 1, by omega⟩
    simp only [digest_Same.l0]
    rw [if_neg (by omega), List.drop_of_length_le (by omega), List.drop_of_length_le (by omega)]
    simp [Bool.beq_eq_decide_eq]
  | succ d ih =>
    intro k i odd h0 h1 hi hk
    obtain ⟨k, rfl⟩ : ∃ m, k = m + 1 := ⟨k - 1, by omega⟩
    simp only [digest_Same.l0]
    have ra := rd_range a ha i
    have rb := rd_range b hb i
    rw [if_pos (by omega), if_pos (by omega), if_pos (by omega), if_pos (by omega), wrap_nat i (by omega), u8_xor _ _ ra.1 ra.2 rb.1 rb.2]
    have hx : (rd a (i : Int)).toNat ^^^ (rd b (i : Int)).toNat < 2 ^ 8 := Nat.xor_lt_two_pow (by omega) (by omega)
    rw [u8_or odd _ h0 h1 (by omega) (by omega)]
    have ho : odd.toNat ||| ((((rd a (i : Int)).toNat ^^^ (rd b (i : Int)).toNat : Nat) : Int)).toNat < 2 ^ 8 := Nat.or_lt_two_pow (by omega) (by rw [Int.toNat_natCast]; exact hx)
    rw [ih k (i + 1) _ (by omega) (by omega) (by omega) (by omega), drop_rd a i (by omega), drop_rd b i (by omega), Int.toNat_natCast]
    congr 1
    have e1 : ((((odd.toNat ||| (rd a (i : Int)).toNat ^^^ (rd b (i : Int)).toNat) : Nat) : Int) = 0) ↔ odd = 0 ∧ rd a (i : Int) = rd b (i : Int) := by
      rw [Int.natCast_eq_zero, Nat.or_eq_zero_iff, xor_zero]; omega
    rw [Bool.eq_iff_iff]
    simp only [Bool.and_eq_true, decide_eq_true_eq, e1, beq_iff_eq, List.cons.injEq]
    exact and_assoc
theorem dsame (a b : List Int) (ha : ∀ y ∈ a, (Lit.int .u8 y).wf = true) (hb : ∀ y ∈ b, (Lit.int .u8 y).wf = true) (hn : a.length < 9223372036854775807) (k : Nat) (hk : a.length < k) : digest_Same.f k a b = some (a == b) := by
  unfold digest_Same.f
  by_cases e : a.length = b.length
  · rw [if_pos (by omega)]
    have := dsame_loop a b ha hb e hn a.length k 0 0 (by omega) (by omega) (by omega) hk
    simpa using this
  · rw [if_neg (by omega)]
    have : a ≠ b := fun h => e (by rw [h])
    simp [this]
theorem DigestSame : stelelaw01_DigestSame.Pure := by
  intro a b ha hb
  refine ⟨a.length + 1, ?_⟩
  unfold stelelaw01_DigestSame.f
  have h1 : a.length < 9223372036854775807 := by have := ha.1; omega
  rw [dsame a b ha.2 hb.2 h1 _ (by omega), rsame a b h1 _ (by omega), dsame a a ha.2 ha.2 h1 _ (by omega)]
  simp
end Go.Proofs.Ytpopampcfgpojaa.Pure
