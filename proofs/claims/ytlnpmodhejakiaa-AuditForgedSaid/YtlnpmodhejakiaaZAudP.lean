/- The audit in plain words: what its functions compute. -/
import Derived.Laws.BitsAllLaws
import Derived.Test.YtlnpmodhejakiaaZPVx5
import Derived.Test.YtlnpmodhejakiaaZAudA
import Derived.Test.YtlnpmodhejakiaaZCanP
namespace Go.Proofs.Ytlnpmodhejakiaa.AV
open Go.RowKit Go.Proofs.YtlnpmodhejakiaaW.PrintWords Go.Proofs.YtlnpmodhejakiaaW.PrintLast Go.Proofs.YtlnpmodhejakiaaW.PrintMore Go.Proofs.Ytlnpmodhejakiaa.Sha Go.Proofs.Ytlnpmodhejakiaa.D Go.Proofs.Ytlnpmodhejakiaa.PC Go.Proofs.Ytlnpmodhejakiaa.CP Go.Proofs.Ytlnpmodhejakiaa.PV
set_option linter.unusedVariables false
set_option linter.unusedSimpArgs false
def B255 (l : List Int) : Prop := ∀ y ∈ l, 0 ≤ y ∧ y ≤ 255
theorem B255.nil : B255 [] := fun _ h => by simp at h
theorem B255.app {a b : List Int} (ha : B255 a) (hb : B255 b) : B255 (a ++ b) := fun y h => (List.mem_append.1 h).elim (ha y) (hb y)
theorem B255.cons {a : Int} {b : List Int} (ha : 0 ≤ a ∧ a ≤ 255) (hb : B255 b) : B255 (a :: b) := fun y h => (List.mem_cons.1 h).elim (fun e => e ▸ ha) (hb y)
theorem wrap_nat (i : Nat) (h : i < 9223372036854775807) : wrap64 ((i : Int) + 1) = ((i + 1 : Nat) : Int) := by unfold wrap64; omega
theorem drop_rd (a : List Int) (i : Nat) (h : i < a.length) : a.drop i = rd a (i : Int) :: a.drop (i + 1) := by
  unfold rd
  rw [Int.toNat_natCast, List.getD_eq_getElem?_getD, List.getElem?_eq_getElem h, Option.getD_some]
  exact List.drop_eq_getElem_cons h
theorem rsame_loop (a b : List Int) (hl : a.length = b.length) (hn : a.length < 9223372036854775807) : ∀ (d k i : Nat), i + d = a.length → d < k → steleref01_Same.l0 k a b (i : Int) = some (a.drop i == b.drop i) := by
  intro d
  induction d with
  | zero =>
    intro k i hi hk
    obtain ⟨k, rfl⟩ : ∃ m, k = m + 1 := ⟨k - 1, by omega⟩
    simp only [steleref01_Same.l0]
    rw [if_neg (by omega), List.drop_of_length_le (by omega), List.drop_of_length_le (by omega)]; rfl
  | succ d ih =>
    intro k i hi hk
    obtain ⟨k, rfl⟩ : ∃ m, k = m + 1 := ⟨k - 1, by omega⟩
    simp only [steleref01_Same.l0]
    rw [if_pos (by omega), if_pos (by omega), if_pos (by omega), wrap_nat i (by omega), ih k (i + 1) (by omega) (by omega), drop_rd a i (by omega), drop_rd b i (by omega)]
    by_cases e : rd a (i : Int) = rd b (i : Int)
    · rw [if_pos e, e]; simp
    · rw [if_neg e]; simp [e]
theorem rsame (a b : List Int) (hn : a.length < 9223372036854775807) (k : Nat) (hk : a.length < k) : steleref01_Same.f k a b = some (a == b) := by
  unfold steleref01_Same.f
  by_cases e : a.length = b.length
  · rw [if_pos (by omega)]
    have := rsame_loop a b e hn a.length k 0 (by omega) hk
    simpa using this
  · rw [if_neg (by omega)]
    have : a ≠ b := fun h => e (by rw [h])
    simp [this]
theorem rd_range (a : List Int) (ha : B255 a) (i : Nat) : 0 ≤ rd a (i : Int) ∧ rd a (i : Int) < 256 := by
  unfold rd
  rw [Int.toNat_natCast, List.getD_eq_getElem?_getD]
  by_cases h : i < a.length
  · rw [List.getElem?_eq_getElem h]
    have := ha _ (List.getElem_mem h)
    simp only [Option.getD_some]
    omega
  · rw [List.getElem?_eq_none (by omega)]; decide
theorem xor_zero {x y : Nat} : x ^^^ y = 0 ↔ x = y := by
  constructor
  · intro h
    have : x ^^^ y ^^^ y = 0 ^^^ y := by rw [h]
    rwa [Nat.xor_assoc, Nat.xor_self, Nat.xor_zero, Nat.zero_xor] at this
  · rintro rfl; exact Nat.xor_self _
theorem dsame_loop (a b : List Int) (ha : B255 a) (hb : B255 b) (hl : a.length = b.length) (hn : a.length < 9223372036854775807) : ∀ (d k i : Nat) (odd : Int), 0 ≤ odd → odd < 256 → i + d = a.length → d < k →
    digest_Same.l0 k b odd a (a.length : Int) (i : Int) = some (decide (odd = 0) && a.drop i == b.drop i) := by
  intro d
  induction d with
  | zero =>
    intro k i odd h0 h1 hi hk
    obtain ⟨k, rfl⟩ : ∃ m, k = m + 1 := ⟨k - 1, by omega⟩
    simp only [digest_Same.l0]
    rw [if_neg (by omega), List.drop_of_length_le (by omega), List.drop_of_length_le (by omega)]
    simp [Bool.beq_eq_decide_eq]
  | succ d ih =>
    intro k i odd h0 h1 hi hk
    obtain ⟨k, rfl⟩ : ∃ m, k = m + 1 := ⟨k - 1, by omega⟩
    simp only [digest_Same.l0]
    have ra := rd_range a ha i
    have rb := rd_range b hb i
    rw [if_pos (by omega), if_pos (by omega), if_pos (by omega), if_pos (by omega), wrap_nat i (by omega), u8_xor _ _ ra.1 ra.2 rb.1 rb.2]
    have hx : (rd a (i : Int)).toNat ^^^ (rd b (i : Int)).toNat < 2 ^ 8 := Nat.xor_lt_two_pow (by omega) (by omega)
    rw [u8_or odd _ h0 h1 (by omega) (by omega)]
    have ho : odd.toNat ||| ((((rd a (i : Int)).toNat ^^^ (rd b (i : Int)).toNat : Nat) : Int)).toNat < 2 ^ 8 := Nat.or_lt_two_pow (by omega) (by rw [Int.toNat_natCast]; exact hx)
    rw [ih k (i + 1) _ (by omega) (by omega) (by omega) (by omega), drop_rd a i (by omega), drop_rd b i (by omega), Int.toNat_natCast]
    congr 1
    have e1 : ((((odd.toNat ||| (rd a (i : Int)).toNat ^^^ (rd b (i : Int)).toNat) : Nat) : Int) = 0) ↔ odd = 0 ∧ rd a (i : Int) = rd b (i : Int) := by
      rw [Int.natCast_eq_zero, Nat.or_eq_zero_iff, xor_zero]; omega
    rw [Bool.eq_iff_iff]
    simp only [Bool.and_eq_true, decide_eq_true_eq, e1, beq_iff_eq, List.cons.injEq]
    exact and_assoc
theorem dsame (a b : List Int) (ha : B255 a) (hb : B255 b) (hn : a.length < 9223372036854775807) (k : Nat) (hk : a.length < k) : digest_Same.f k a b = some (a == b) := by
  unfold digest_Same.f
  by_cases e : a.length = b.length
  · rw [if_pos (by omega)]
    have := dsame_loop a b ha hb e hn a.length k 0 0 (by omega) (by omega) (by omega) hk
    simpa using this
  · rw [if_neg (by omega)]
    have : a ≠ b := fun h => e (by rw [h])
    simp [this]
structure okX (x : S69) : Prop where
  s0 : 0 ≤ x.f0 ∧ x.f0 ≤ 18446744073709551615
  s1 : 0 ≤ x.f1 ∧ x.f1 ≤ 18446744073709551615
  s6 : 0 ≤ x.f6 ∧ x.f6 ≤ 18446744073709551615
  s3 : -9223372036854775808 ≤ x.f3 ∧ x.f3 ≤ 9223372036854775807
  s7 : -9223372036854775808 ≤ x.f7 ∧ x.f7 ≤ 9223372036854775807
  bulk : x.f2.size + x.f4.size + x.f5.size + x.f8.length + x.f9.length ≤ 1000000
  b8 : B255 x.f8
  b9 : B255 x.f9
theorem uintL_len (out : List Int) (n : Int) : (uintL out n).length = out.length + 9 := by unfold uintL; rw [List.length_append, List.length_cons, longL_len]
theorem bytesL_len (out b : List Int) : (bytesL out b).length = out.length + b.length + 5 := by unfold bytesL; rw [List.length_append, List.length_append, List.length_cons, longL_len]; omega
theorem textL_len (out : List Int) (s : ByteArray) : (textL out s).length = out.length + s.size + 5 := by unfold textL; rw [List.length_append, List.length_append, List.length_cons, longL_len, bytesOf_length]; omega
theorem bytesOf_bd (s : ByteArray) : B255 (bytesOf s) := by
  intro y hy
  unfold bytesOf at hy
  obtain ⟨c, _, rfl⟩ := List.mem_map.1 hy
  have := c.toNat_lt
  omega
theorem uintL_bd {out : List Int} (n : Int) (h : B255 out) : B255 (uintL out n) := h.app (B255.cons (by omega) (longL_bd n 8))
theorem bytesL_bd {out b : List Int} (h : B255 out) (hb : B255 b) : B255 (bytesL out b) := (h.app (B255.cons (by omega) (longL_bd _ 4))).app hb
theorem textL_bd {out : List Int} (s : ByteArray) (h : B255 out) : B255 (textL out s) := (h.app (B255.cons (by omega) (longL_bd _ 4))).app (bytesOf_bd s)
def pos (a : Int) : Int := mx a 0
theorem pos_wrap (a : Int) (h : a ≤ 9223372036854775807) : IntKind.u64.wrap (mx a 0) = pos a := by
  unfold pos mx
  rw [IntKind.wrap_u64]
  split <;> omega
def showP (x : S69) : List Int := bytesL (bytesL (uintL (uintL (textL (textL (uintL (textL (uintL (uintL [] x.f0) x.f1) x.f2) (pos x.f3)) x.f4) x.f5) x.f6) (pos x.f7)) x.f8) x.f9
theorem showP_len (x : S69) : (showP x).length = x.f2.size + x.f4.size + x.f5.size + x.f8.length + x.f9.length + 70 := by
  unfold showP
  simp only [bytesL_len, uintL_len, textL_len, List.length_nil]
  omega
theorem showP_bd (x : S69) (h : okX x) : B255 (showP x) := bytesL_bd (bytesL_bd (uintL_bd _ (uintL_bd _ (textL_bd _ (textL_bd _ (uintL_bd _ (textL_bd _ (uintL_bd _ (uintL_bd _ B255.nil)))))))) h.b8) h.b9
theorem a_show (x : S69) (h : okX x) (k : Nat) (hk : 9 ≤ k) : audit_Show.f k x.f0 x.f1 x.f2 x.f3 x.f4 x.f5 x.f6 x.f7 x.f8 x.f9 = some (showP x) := by
  have hb := h.bulk
  unfold audit_Show.f
  rw [c_uint k hk _ _ (by simp), Option.bind_some, c_uint k hk _ _ (by rw [uintL_len]; simp), Option.bind_some]
  rw [c_text k hk _ _ (by simp only [uintL_len, List.length_nil]; omega), Option.bind_some, pos_wrap _ h.s3.2]
  rw [c_uint k hk _ _ (by simp only [uintL_len, textL_len, List.length_nil]; omega), Option.bind_some]
  rw [c_text k hk _ _ (by simp only [uintL_len, textL_len, List.length_nil]; omega), Option.bind_some]
  rw [c_text k hk _ _ (by simp only [uintL_len, textL_len, List.length_nil]; omega), Option.bind_some]
  rw [c_uint k hk _ _ (by simp only [uintL_len, textL_len, List.length_nil]; omega), Option.bind_some, pos_wrap _ h.s7.2]
  rw [c_uint k hk _ _ (by simp only [uintL_len, textL_len, List.length_nil]; omega), Option.bind_some]
  rw [c_bytes k hk _ _ (by simp only [uintL_len, textL_len, List.length_nil]; omega), Option.bind_some]
  rw [c_bytes k hk _ _ (by simp only [uintL_len, textL_len, bytesL_len, List.length_nil]; omega), Option.bind_some]
  rfl
theorem r_text (out : List Int) (s : ByteArray) (h : out.length + s.size + 9 ≤ 140737488355000) : steleref02_Text.f out s = some (textL out s) := by unfold steleref02_Text.f; rw [if_pos h]
theorem r_show (x : S69) (h : okX x) (k : Nat) (hk : 9 ≤ k) : steleref14_Show.f k x.f0 x.f1 x.f2 x.f3 x.f4 x.f5 x.f6 x.f7 x.f8 x.f9 = some (showP x) := by
  have hb := h.bulk
  unfold steleref14_Show.f
  rw [r_uint k hk _ _ (by simp), Option.bind_some, r_uint k hk _ _ (by rw [uintL_len]; simp), Option.bind_some]
  rw [r_text _ _ (by simp only [uintL_len, List.length_nil]; omega), Option.bind_some, pos_wrap _ h.s3.2]
  rw [r_uint k hk _ _ (by simp only [uintL_len, textL_len, List.length_nil]; omega), Option.bind_some]
  rw [r_text _ _ (by simp only [uintL_len, textL_len, List.length_nil]; omega), Option.bind_some]
  rw [r_text _ _ (by simp only [uintL_len, textL_len, List.length_nil]; omega), Option.bind_some]
  rw [r_uint k hk _ _ (by simp only [uintL_len, textL_len, List.length_nil]; omega), Option.bind_some, pos_wrap _ h.s7.2]
  rw [r_uint k hk _ _ (by simp only [uintL_len, textL_len, List.length_nil]; omega), Option.bind_some]
  rw [r_bytes k hk _ _ (by simp only [uintL_len, textL_len, List.length_nil]; omega), Option.bind_some]
  rw [r_bytes k hk _ _ (by simp only [uintL_len, textL_len, bytesL_len, List.length_nil]; omega), Option.bind_some]
  rfl
def digP (x : S69) : List Int := sha256 (showP x)
theorem by4_bd' (x : W) : B255 (by4 x) := by
  intro y hy
  have := x.isLt
  unfold by4 at hy
  simp only [List.mem_cons, List.not_mem_nil, or_false] at hy
  rcases hy with rfl | rfl | rfl | rfl <;> omega
theorem sha256_bd' (l : List Int) : B255 (sha256 l) := by
  intro y hy
  change y ∈ sumB _ _ _ at hy
  unfold sumB at hy
  obtain ⟨x, _, hx⟩ := List.mem_flatMap.1 hy
  exact by4_bd' x y hx
theorem digP_len (x : S69) : (digP x).length = 32 := rfl
theorem a_digest (x : S69) (h : okX x) (k : Nat) (hk : 9 ≤ k) : audit_Digest.f k x.f0 x.f1 x.f2 x.f3 x.f4 x.f5 x.f6 x.f7 x.f8 x.f9 = some (digP x) := by
  unfold audit_Digest.f
  rw [a_show x h k hk, Option.bind_some]
  unfold digest_Sha256.f
  rw [if_pos ⟨by rw [showP_len]; have := h.bulk; omega, showP_bd x h⟩, Option.bind_some]
  rfl
theorem r_digest (x : S69) (h : okX x) (k : Nat) (hk : 9 ≤ k) : steleref14_Digest.f k x.f0 x.f1 x.f2 x.f3 x.f4 x.f5 x.f6 x.f7 x.f8 x.f9 = some (digP x) := by
  unfold steleref14_Digest.f
  rw [r_show x h k hk, Option.bind_some]
  unfold steleref01_Sha256.f
  rw [if_pos ⟨by rw [showP_len]; have := h.bulk; omega, showP_bd x h⟩, Option.bind_some]
  rfl
def sameP (x y : S69) : Bool := x.f0 == y.f0 && x.f1 == y.f1 && x.f2.toList == y.f2.toList && x.f3 == y.f3 && x.f4.toList == y.f4.toList && x.f5.toList == y.f5.toList && x.f6 == y.f6 && x.f7 == y.f7 && x.f8 == y.f8 && x.f9 == y.f9
theorem r_same (x y : S69) (hx : okX x) (k : Nat) (hk : 1000001 ≤ k) : steleref14_Same.f k x.f0 x.f1 x.f2 x.f3 x.f4 x.f5 x.f6 x.f7 x.f8 x.f9 y.f0 y.f1 y.f2 y.f3 y.f4 y.f5 y.f6 y.f7 y.f8 y.f9 = some (sameP x y) := by
  have hb := hx.bulk
  unfold steleref14_Same.f sameP
  by_cases c0 : x.f0 = y.f0
  · rw [if_pos c0]
    by_cases c1 : x.f1 = y.f1
    · rw [if_pos c1]
      by_cases c2 : x.f2.toList = y.f2.toList
      · rw [if_pos c2]
        by_cases c3 : x.f3 = y.f3
        · rw [if_pos c3]
          by_cases c4 : x.f4.toList = y.f4.toList
          · rw [if_pos c4]
            by_cases c5 : x.f5.toList = y.f5.toList
            · rw [if_pos c5]
              by_cases c6 : x.f6 = y.f6
              · rw [if_pos c6]
                by_cases c7 : x.f7 = y.f7
                · rw [if_pos c7, rsame _ _ (by omega) k (by omega), Option.bind_some, rsame _ _ (by omega) k (by omega), Option.bind_some]
                  rw [c0, c1, c2, c3, c4, c5, c6, c7]
                  by_cases c8 : x.f8 = y.f8
                  · rw [c8]; simp
                  · simp [c8]
                · rw [if_neg c7]; simp [c7]
              · rw [if_neg c6]; simp [c6]
            · rw [if_neg c5]; simp [c5]
          · rw [if_neg c4]; simp [c4]
        · rw [if_neg c3]; simp [c3]
      · rw [if_neg c2]; simp [c2]
    · rw [if_neg c1]; simp [c1]
  · rw [if_neg c0]; simp [c0]
theorem a_same (x y : S69) (hx : okX x) (hy : okX y) (k : Nat) (hk : 1000001 ≤ k) : audit_Same.f k x.f0 x.f1 x.f2 x.f3 x.f4 x.f5 x.f6 x.f7 x.f8 x.f9 y.f0 y.f1 y.f2 y.f3 y.f4 y.f5 y.f6 y.f7 y.f8 y.f9 = some (sameP x y) := by
  have hb := hx.bulk
  unfold audit_Same.f sameP
  rw [dsame _ _ hx.b8 hy.b8 (by omega) k (by omega), Option.bind_some]
  by_cases c8 : x.f8 = y.f8
  · rw [if_pos (by rw [c8]; exact beq_self_eq_true _), dsame _ _ hx.b9 hy.b9 (by omega) k (by omega), Option.bind_some]
    by_cases c9 : x.f9 = y.f9
    · rw [if_pos (by rw [c9]; exact beq_self_eq_true _), c8, c9]
      by_cases c0 : x.f0 = y.f0
      · rw [if_pos c0]
        by_cases c1 : x.f1 = y.f1
        · rw [if_pos c1]
          by_cases c2 : x.f2.toList = y.f2.toList
          · rw [if_pos c2]
            by_cases c3 : x.f3 = y.f3
            · rw [if_pos c3]
              by_cases c4 : x.f4.toList = y.f4.toList
              · rw [if_pos c4]
                by_cases c5 : x.f5.toList = y.f5.toList
                · rw [if_pos c5]
                  by_cases c6 : x.f6 = y.f6
                  · rw [if_pos c6, c0, c1, c2, c3, c4, c5, c6]; simp
                  · rw [if_neg c6]; simp [c6]
                · rw [if_neg c5]; simp [c5]
              · rw [if_neg c4]; simp [c4]
            · rw [if_neg c3]; simp [c3]
          · rw [if_neg c2]; simp [c2]
        · rw [if_neg c1]; simp [c1]
      · rw [if_neg c0]; simp [c0]
    · rw [if_neg (by simpa using c9)]; simp [c9]
  · rw [if_neg (by simpa using c8)]; simp [c8]
theorem toList_inj {a b : ByteArray} (h : a.toList = b.toList) : a = b := by
  rw [Lib.toList_data, Lib.toList_data] at h
  cases a; cases b
  simp only [ByteArray.mk.injEq]
  exact Array.toList_inj.1 h
theorem sameP_iff (x y : S69) : sameP x y = true ↔ x = y := by
  unfold sameP
  constructor
  · intro h
    simp only [Bool.and_eq_true, beq_iff_eq] at h
    obtain ⟨⟨⟨⟨⟨⟨⟨⟨⟨h0, h1⟩, h2⟩, h3⟩, h4⟩, h5⟩, h6⟩, h7⟩, h8⟩, h9⟩ := h
    cases x; cases y
    simp only [S69.mk.injEq] at *
    exact ⟨h0, h1, toList_inj h2, h3, toList_inj h4, toList_inj h5, h6, h7, h8, h9⟩
  · rintro rfl; simp
def wholeP (l : List Int) : Bool := l.length == 0 || l.length == 32
theorem a_whole (l : List Int) : audit_whole.f l = some (wholeP l) := by
  unfold audit_whole.f wholeP
  by_cases h : (l.length : Int) = 0
  · rw [if_pos h, show l.length = 0 by omega]; rfl
  · rw [if_neg h]
    congr 1
    rw [Bool.eq_iff_iff]
    simp only [beq_iff_eq, Bool.or_eq_true]
    omega
def rightP (x : S69) : Bool := (x.f0 != 0) && ((x.f0 == 1) == (x.f9.length == 0)) && wholeP x.f9 && wholeP x.f8 && decide (0 ≤ x.f3) && decide (x.f3 ≤ 19) && decide (0 ≤ x.f7) && decide (x.f7 ≤ 9999) && decide (x.f2.size ≤ 16) && decide (x.f4.size ≤ 16) && decide (x.f5.size ≤ 48)
theorem a_right (x : S69) (k : Nat) (hk : 1 ≤ k) : audit_right.f k x.f0 x.f1 x.f2 x.f3 x.f4 x.f5 x.f6 x.f7 x.f8 x.f9 = some (rightP x) := by
  obtain ⟨k, rfl⟩ : ∃ m, k = m + 1 := ⟨k - 1, by omega⟩
  have hj : ∀ q, audit_right.j0 (k + 1) q x.f0 x.f1 x.f2 x.f3 x.f4 x.f5 x.f6 x.f7 x.f8 x.f9 = some (!q && decide (0 ≤ x.f3) && decide (x.f3 ≤ 19) && decide (0 ≤ x.f7) && decide (x.f7 ≤ 9999) && decide (x.f2.size ≤ 16) && decide (x.f4.size ≤ 16) && decide (x.f5.size ≤ 48)) := by
    intro q
    cases q with
    | true => rfl
    | false =>
      rw [audit_right.j0, if_neg (by decide)]
      by_cases h1 : x.f3 < 0
      · rw [if_pos h1, decide_eq_false (show ¬ 0 ≤ x.f3 by omega)]; rfl
      · rw [if_neg h1, decide_eq_true (show 0 ≤ x.f3 by omega)]
        by_cases h2 : x.f3 > 19
        · rw [if_pos h2, decide_eq_false (show ¬ x.f3 ≤ 19 by omega)]; rfl
        · rw [if_neg h2, decide_eq_true (show x.f3 ≤ 19 by omega)]
          by_cases h3 : x.f7 < 0
          · rw [if_pos h3, decide_eq_false (show ¬ 0 ≤ x.f7 by omega)]; rfl
          · rw [if_neg h3, decide_eq_true (show 0 ≤ x.f7 by omega)]
            by_cases h4 : x.f7 > 9999
            · rw [if_pos h4, decide_eq_false (show ¬ x.f7 ≤ 9999 by omega)]; rfl
            · rw [if_neg h4, decide_eq_true (show x.f7 ≤ 9999 by omega)]
              by_cases h5 : (x.f2.size : Int) ≤ 16
              · rw [if_pos h5, decide_eq_true (show x.f2.size ≤ 16 by omega)]
                by_cases h6 : (x.f4.size : Int) ≤ 16
                · rw [if_pos h6, decide_eq_true (show x.f4.size ≤ 16 by omega)]
                  by_cases h7 : (x.f5.size : Int) ≤ 48
                  · rw [decide_eq_true h7, decide_eq_true (show x.f5.size ≤ 48 by omega)]; rfl
                  · rw [decide_eq_false h7, decide_eq_false (show ¬ x.f5.size ≤ 48 by omega)]; rfl
                · rw [if_neg h6, decide_eq_false (show ¬ x.f4.size ≤ 16 by omega)]; rfl
              · rw [if_neg h5, decide_eq_false (show ¬ x.f2.size ≤ 16 by omega)]; rfl
  unfold audit_right.f
  simp only [hj, a_whole, Option.bind_some]
  unfold rightP
  have e9 : ((x.f9.length : Int) == 0) = (x.f9.length == 0) := by rw [Bool.eq_iff_iff]; simp
  rw [e9]
  by_cases c0 : x.f0 = 0
  · rw [if_pos c0, c0]; rfl
  · rw [if_neg c0, show (x.f0 != 0) = true from bne_iff_ne.2 c0]
    cases ha : (x.f0 == 1) <;> cases hb : (x.f9.length == 0) <;> cases wholeP x.f9 <;> cases wholeP x.f8 <;> rfl
def rrightP (x : S69) : Bool := rrightF x.f0 x.f1 x.f2 x.f3 x.f4 x.f5 x.f6 x.f7 x.f8 x.f9
theorem right_eq (x : S69) (h : okX x) : rrightP x = rightP x := by
  have h0 := h.s0
  unfold rrightP rrightF rightP wholeP
  rw [Bool.eq_iff_iff]
  have e : ((x.f0 == 1) = (x.f9.length == 0)) ↔ (x.f0 = 1 ↔ x.f9.length = 0) := by rw [Bool.eq_iff_iff]; simp only [beq_iff_eq]
  simp only [Bool.and_eq_true, Bool.or_eq_true, decide_eq_true_eq, beq_iff_eq, bne_iff_ne, ne_eq, e]
  clear e
  generalize x.f0 = f0 at *
  generalize x.f8.length = l8 at *
  generalize x.f9.length = l9 at *
  generalize x.f2.size = l2 at *
  generalize x.f4.size = l4 at *
  generalize x.f5.size = l5 at *
  generalize x.f3 = f3 at *
  generalize x.f7 = f7 at *
  clear h
  omega
def lightP (l : List S69) : Bool := l.all (fun x => decide (x.f2.size + x.f4.size + x.f5.size + x.f8.length + x.f9.length ≤ 5000)) && decide (l.length ≤ 100)
theorem rdT (l : List S69) (i : Nat) (h : i < l.length) : rd_T69 l (i : Int) = l[i] := by
  show l.getD i z69 = _
  rw [List.getD_eq_getElem?_getD, List.getElem?_eq_getElem h]; rfl
def smallX (x : S69) : Prop := x.f2.size ≤ 140737488355328 ∧ x.f4.size ≤ 140737488355328 ∧ x.f5.size ≤ 140737488355328 ∧ x.f8.length ≤ 140737488355328 ∧ x.f9.length ≤ 140737488355328
theorem wadd (a b : Nat) (h : a + b ≤ 9223372036854775807) : wrap64 ((a : Int) + (b : Int)) = ((a + b : Nat) : Int) := by unfold wrap64; omega
theorem wadd5 (a b c d e : Nat) (h : a + b + c + d + e ≤ 9223372036854775807) : wrap64 ((wrap64 ((wrap64 ((wrap64 ((a : Int) + (b : Int))) + (c : Int))) + (d : Int))) + (e : Int)) = ((a + b + c + d + e : Nat) : Int) := by
  rw [wadd a b (by omega), wadd _ c (by omega), wadd _ d (by omega), wadd _ e h]
theorem light_go (l : List S69) (hl : l.length ≤ 140737488355328) (hs : ∀ y ∈ l, smallX y) : ∀ (d k i : Nat), i + d = l.length → d < k → stelelaw14_light.l0 k l (i : Int) = some ((l.drop i).all (fun x => decide (x.f2.size + x.f4.size + x.f5.size + x.f8.length + x.f9.length ≤ 5000)) && decide (l.length ≤ 100)) := by
  intro d
  induction d with
  | zero =>
    intro k i hi hk
    obtain ⟨k, rfl⟩ : ∃ m, k = m + 1 := ⟨k - 1, by omega⟩
    rw [stelelaw14_light.l0, if_neg (by omega), List.drop_of_length_le (by omega)]
    simp only [List.all_nil, Bool.true_and]
    congr 1
    apply decide_eq_decide.2
    omega
  | succ d ih =>
    intro k i hi hk
    obtain ⟨k, rfl⟩ : ∃ m, k = m + 1 := ⟨k - 1, by omega⟩
    have hlt : i < l.length := by omega
    rw [stelelaw14_light.l0, if_pos (by omega), if_pos (by omega), rdT l i hlt, wrap_nat i (by omega), ih k (i + 1) (by omega) (by omega)]
    obtain ⟨h2, h4, h5, h8, h9⟩ := hs _ (List.getElem_mem hlt)
    rw [List.drop_eq_getElem_cons hlt, List.all_cons]
    have e : wrap64 ((wrap64 ((wrap64 ((wrap64 (((l[i].f2).size : Int) + ((l[i].f4).size : Int))) + ((l[i].f5).size : Int))) + ((l[i].f8).length : Int))) + ((l[i].f9).length : Int)) = ((l[i].f2.size + l[i].f4.size + l[i].f5.size + l[i].f8.length + l[i].f9.length : Nat) : Int) := by
      exact wadd5 _ _ _ _ _ (by omega)
    rw [e]
    by_cases c : l[i].f2.size + l[i].f4.size + l[i].f5.size + l[i].f8.length + l[i].f9.length ≤ 5000
    · rw [if_neg (by omega), decide_eq_true c, Bool.true_and]
    · rw [if_pos (by omega), decide_eq_false c, Bool.false_and, Bool.false_and]
theorem a_light (l : List S69) (hl : l.length ≤ 140737488355328) (hs : ∀ y ∈ l, smallX y) (k : Nat) (hk : l.length < k) : stelelaw14_light.f k l = some (lightP l) := by
  unfold stelelaw14_light.f lightP
  exact light_go l hl hs l.length k 0 (by omega) hk
def verP : List S69 → Nat → List Int → List Int → Int
  | [], _, last, head => if last = head then 0 else 53
  | x :: l, i, last, head => if rightP x = true ∧ x.f0 = (i : Int) + 1 ∧ x.f9 = last then verP l (i + 1) (digP x) head else 53
theorem beq_if {α : Type} (a b : List Int) (x y : α) : (if (a == b) = true then x else y) = if a = b then x else y := by
  by_cases h : a = b
  · rw [if_pos h, if_pos (by rw [h]; exact beq_self_eq_true _)]
  · rw [if_neg h, if_neg (by simpa using h)]
theorem ver_go (l : List S69) (hl : l.length ≤ 1000) (hs : ∀ y ∈ l, okX y) (head : List Int) (hh : B255 head) : ∀ (d k i : Nat) (last : List Int), B255 last → last.length ≤ 32 → i + d = l.length → d + 1000001 < k → audit_Verify.l0 k head last l (l.length : Int) (i : Int) = some (verP (l.drop i) i last head) := by
  intro d
  induction d with
  | zero =>
    intro k i last hb h32 hi hk
    obtain ⟨k, rfl⟩ : ∃ m, k = m + 1 := ⟨k - 1, by omega⟩
    rw [audit_Verify.l0, if_neg (by omega), List.drop_of_length_le (by omega), dsame last head hb hh (by omega) k (by omega), Option.bind_some, beq_if]
    unfold verP
    split <;> rfl
  | succ d ih =>
    intro k i last hb h32 hi hk
    obtain ⟨k, rfl⟩ : ∃ m, k = m + 1 := ⟨k - 1, by omega⟩
    have hlt : i < l.length := by omega
    have hx := hs _ (List.getElem_mem hlt)
    rw [audit_Verify.l0, if_pos (by omega), if_pos (by omega), if_pos (by omega), rdT l i hlt, List.drop_eq_getElem_cons hlt]
    rw [a_right _ k (by omega), Option.bind_some]
    have ew : IntKind.u64.wrap ((IntKind.u64.wrap (i : Int)) + 1) = (i : Int) + 1 := by rw [IntKind.wrap_u64, IntKind.wrap_u64]; omega
    rw [ew]
    unfold verP
    cases hr : rightP l[i] with
    | false => rw [if_neg (by decide), if_neg (by simp)]
    | true =>
      rw [if_pos rfl]
      by_cases c1 : l[i].f0 = (i : Int) + 1
      · have hbk := hx.bulk
        rw [if_pos c1, dsame _ _ hx.b9 hb (by omega) k (by omega), Option.bind_some, beq_if]
        by_cases c2 : l[i].f9 = last
        · rw [if_pos c2, if_pos ⟨rfl, c1, c2⟩, a_digest _ hx k (by omega), Option.bind_some, wrap_nat i (by omega)]
          exact ih k (i + 1) _ (sha256_bd' _) (by rw [digP_len]; omega) (by omega) (by omega)
        · rw [if_neg c2, if_neg (fun h => c2 h.2.2)]
      · rw [if_neg c1, if_neg (fun h => c1 h.2.1)]
theorem a_verify (l : List S69) (hl : l.length ≤ 1000) (hs : ∀ y ∈ l, okX y) (head : List Int) (hh : B255 head) (k : Nat) (hk : l.length + 1000001 < k) : audit_Verify.f k l head = some (verP l 0 [] head) := by
  unfold audit_Verify.f
  exact ver_go l hl hs head hh l.length k 0 [] B255.nil (by simp) (by omega) hk
end Go.Proofs.Ytlnpmodhejakiaa.AV
