/- A part of a record in plain words: its bytes, and that they tell it (for CanonOne and CanonBack). -/
import Derived.Test.YtlnpmodhejakiaaCanP
import Derived.Test.YtlnpmodhejakiaaCanK
namespace Go.Proofs.Ytlnpmodhejakiaa.CP
open Go.RowKit Go.Proofs.YtlnpmodhejakiaaW.PrintWords Go.Proofs.YtlnpmodhejakiaaW.PrintLast Go.Proofs.YtlnpmodhejakiaaW.PrintMore Go.Proofs.Ytlnpmodhejakiaa.D Go.Proofs.Ytlnpmodhejakiaa.PC Go.Proofs.Ytlnpmodhejakiaa.PK
set_option linter.unusedVariables false
theorem byteAt_nat (N i : Nat) : byteAt (N : Int) i = ((N / 256 ^ i % 256 : Nat) : Int) := by
  unfold byteAt
  have e : (2 : Int) ^ (8 * i) = ((256 ^ i : Nat) : Int) := by
    rw [Int.pow_mul, Int.natCast_pow]; rfl
  rw [e]
  rfl
theorem longL_fold (N : Nat) : ∀ (m : Nat) (a : Int), (longL (N : Int) m).foldl (fun n x => n * 256 + x) a = a * ((256 ^ m : Nat) : Int) + ((N % 256 ^ m : Nat) : Int)
  | 0, a => by simp [longL, Nat.mod_one]
  | m + 1, a => by
    rw [longL, List.foldl_cons, longL_fold N m, byteAt_nat, Nat.pow_succ, Nat.mod_mul]
    generalize (256 ^ m : Nat) = p
    generalize N / p % 256 = x
    generalize N % p = y
    rw [Int.natCast_add, Int.natCast_mul, Int.natCast_mul, Int.add_mul, Int.mul_assoc, Int.mul_comm 256 (p : Int), Int.mul_comm (x : Int) (p : Int), show ((256 : Nat) : Int) = 256 from rfl]
    omega
theorem longL_num (N m : Nat) (h : N < 256 ^ m) : numBE (longL (N : Int) m) = (N : Int) := by
  unfold numBE
  rw [longL_fold, Nat.mod_eq_of_lt h]
  omega
theorem longL_inj {a b : Int} {m : Nat} (ha : 0 ≤ a ∧ a < ((256 ^ m : Nat) : Int)) (hb : 0 ≤ b ∧ b < ((256 ^ m : Nat) : Int)) (h : longL a m = longL b m) : a = b := by
  obtain ⟨A, rfl⟩ := Int.eq_ofNat_of_zero_le ha.1
  obtain ⟨B, rfl⟩ := Int.eq_ofNat_of_zero_le hb.1
  rw [← longL_num A m (by omega), ← longL_num B m (by omega), h]
theorem bytes_str (l : List Int) (h : ∀ x ∈ l, 0 ≤ x ∧ x ≤ 255) : bytesOf (strOfNums l) = l := by
  unfold bytesOf strOfNums
  simp only [List.map_map]
  conv => rhs; rw [← List.map_id l]
  apply List.map_congr_left
  intro x hx
  have := h x hx
  show ((UInt8.ofNat x.toNat).toNat : Int) = id x
  rw [UInt8.toNat_ofNat']
  show ((x.toNat % 256 : Nat) : Int) = x
  omega
theorem str_size (l : List Int) : (strOfNums l).size = l.length := by
  unfold strOfNums ByteArray.size
  simp
/-- the bytes of a part -/
def encP (kd n : Int) (b : List Int) : List Int :=
  if kd = 0 then 117 :: longL n 8
  else if kd = 1 then 98 :: (longL (b.length : Int) 4 ++ b)
  else if kd = 2 then 115 :: (longL (b.length : Int) 4 ++ b)
  else if kd = 3 then [if (Int.tmod n 2 == 1) = true then 116 else 102]
  else 108 :: longL (Int.tmod n 100) 4
/-- two parts are the same -/
def sameP (kd n : Int) (b : List Int) (kd' n' : Int) (b' : List Int) : Prop :=
  kd = kd' ∧ (if kd = 0 then n = n' else if kd = 3 then Int.tmod n 2 = Int.tmod n' 2 else if kd = 4 then Int.tmod n 100 = Int.tmod n' 100 else b = b')
instance (kd n : Int) (b : List Int) (kd' n' : Int) (b' : List Int) : Decidable (sameP kd n b kd' n' b') := by unfold sameP; exact inferInstance
def okP (kd n : Int) (b : List Int) : Prop := (0 ≤ kd ∧ kd ≤ 4) ∧ (0 ≤ n ∧ n ≤ 18446744073709551615) ∧ b.length ≤ 4294967295
theorem encP_ne (kd n : Int) (b : List Int) : encP kd n b ≠ [] := by
  unfold encP
  split
  · exact List.cons_ne_nil _ _
  · split
    · exact List.cons_ne_nil _ _
    · split
      · exact List.cons_ne_nil _ _
      · split <;> exact List.cons_ne_nil _ _
theorem encP_same {kd n : Int} {b : List Int} {kd' n' : Int} {b' : List Int} (hk : 0 ≤ kd ∧ kd ≤ 4) (h : sameP kd n b kd' n' b') : encP kd n b = encP kd' n' b' := by
  obtain ⟨rfl, h⟩ := h
  unfold encP
  by_cases k0 : kd = 0
  · rw [if_pos k0] at h; rw [if_pos k0, if_pos k0, h]
  · rw [if_neg k0] at h; rw [if_neg k0, if_neg k0]
    by_cases k1 : kd = 1
    · rw [if_neg (by omega), if_neg (by omega)] at h; rw [if_pos k1, if_pos k1, h]
    · rw [if_neg k1, if_neg k1]
      by_cases k2 : kd = 2
      · rw [if_neg (by omega), if_neg (by omega)] at h; rw [if_pos k2, if_pos k2, h]
      · rw [if_neg k2, if_neg k2]
        by_cases k3 : kd = 3
        · rw [if_pos k3] at h; rw [if_pos k3, if_pos k3, h]
        · rw [if_neg k3, if_pos (by omega)] at h; rw [if_neg k3, if_neg k3, h]
theorem app_inj {a b c d : List Int} (h : a ++ b = c ++ d) (hl : a.length = c.length) : a = c ∧ b = d := List.append_inj h hl
theorem tmod_lt (n m : Int) (h0 : 0 ≤ n) (hm : 0 < m) : 0 ≤ Int.tmod n m ∧ Int.tmod n m < m := by
  rw [Int.tmod_eq_emod_of_nonneg h0]
  exact ⟨Int.emod_nonneg _ (by omega), Int.emod_lt_of_pos _ hm⟩
theorem pow8 : ((256 ^ 8 : Nat) : Int) = 18446744073709551616 := by decide
theorem pow4 : ((256 ^ 4 : Nat) : Int) = 4294967296 := by decide
/-- by their bytes, parts are told apart from what comes behind them -/
theorem encP_inj {kd n : Int} {b : List Int} {kd' n' : Int} {b' : List Int} {r s : List Int} (h1 : okP kd n b) (h2 : okP kd' n' b') (h : encP kd n b ++ r = encP kd' n' b' ++ s) : sameP kd n b kd' n' b' ∧ r = s := by
  obtain ⟨hk, hn, hb⟩ := h1
  obtain ⟨hk', hn', hb'⟩ := h2
  have kinds : ∀ k : Int, 0 ≤ k ∧ k ≤ 4 → k = 0 ∨ k = 1 ∨ k = 2 ∨ k = 3 ∨ k = 4 := by intro k hk; omega
  have hl : ∀ (x y : Int), (longL x 4).length = (longL y 4).length := by intro x y; rw [longL_len, longL_len]
  have hh : ∀ q : Prop, [Decidable q] → ((if q then 116 else 102 : Int) = 116 ∨ (if q then 116 else 102 : Int) = 102) := by intro q _; split <;> simp
  have E0 : ∀ n b, encP 0 n b = 117 :: longL n 8 := fun _ _ => rfl
  have E1 : ∀ n b, encP 1 n b = 98 :: (longL (b.length : Int) 4 ++ b) := fun _ _ => rfl
  have E2 : ∀ n b, encP 2 n b = 115 :: (longL (b.length : Int) 4 ++ b) := fun _ _ => rfl
  have E3 : ∀ n b, encP 3 n b = [if (Int.tmod n 2 == 1) = true then 116 else 102] := fun _ _ => rfl
  have E4 : ∀ n b, encP 4 n b = 108 :: longL (Int.tmod n 100) 4 := fun _ _ => rfl
  have HD : ∀ k n b, (0 ≤ k ∧ k ≤ 4) → ∃ c t, encP k n b = c :: t ∧ ((k = 0 ∧ c = 117) ∨ (k = 1 ∧ c = 98) ∨ (k = 2 ∧ c = 115) ∨ (k = 3 ∧ (c = 116 ∨ c = 102)) ∨ (k = 4 ∧ c = 108)) := by
    intro k n b hk
    rcases kinds k hk with rfl | rfl | rfl | rfl | rfl
    · exact ⟨_, _, E0 _ _, by simp⟩
    · exact ⟨_, _, E1 _ _, by simp⟩
    · exact ⟨_, _, E2 _ _, by simp⟩
    · exact ⟨_, _, E3 _ _, by have := hh ((Int.tmod n 2 == 1) = true); simpa using this⟩
    · exact ⟨_, _, E4 _ _, by simp⟩
  have hkk : kd = kd' := by
    obtain ⟨c, t, e, hc⟩ := HD kd n b hk
    obtain ⟨c', t', e', hc'⟩ := HD kd' n' b' hk'
    rw [e, e', List.cons_append, List.cons_append] at h
    have := (List.cons.inj h).1
    omega
  subst hkk
  unfold sameP
  rcases kinds kd hk with rfl | rfl | rfl | rfl | rfl
  · rw [E0, E0, List.cons_append, List.cons_append] at h
    have h' := app_inj (List.cons.inj h).2 (by rw [longL_len, longL_len])
    exact ⟨⟨rfl, by rw [if_pos rfl]; exact longL_inj (by rw [pow8]; omega) (by rw [pow8]; omega) h'.1⟩, h'.2⟩
  · rw [E1, E1, List.cons_append, List.cons_append, List.append_assoc, List.append_assoc] at h
    have h' := app_inj (List.cons.inj h).2 (hl _ _)
    have hlen := longL_inj (by rw [pow4]; omega) (by rw [pow4]; omega) h'.1
    have h'' := app_inj h'.2 (by omega)
    exact ⟨⟨rfl, by rw [if_neg (by omega), if_neg (by omega), if_neg (by omega)]; exact h''.1⟩, h''.2⟩
  · rw [E2, E2, List.cons_append, List.cons_append, List.append_assoc, List.append_assoc] at h
    have h' := app_inj (List.cons.inj h).2 (hl _ _)
    have hlen := longL_inj (by rw [pow4]; omega) (by rw [pow4]; omega) h'.1
    have h'' := app_inj h'.2 (by omega)
    exact ⟨⟨rfl, by rw [if_neg (by omega), if_neg (by omega), if_neg (by omega)]; exact h''.1⟩, h''.2⟩
  · rw [E3, E3, List.cons_append, List.cons_append] at h
    obtain ⟨c1, c2⟩ := List.cons.inj h
    have a := tmod_lt n 2 hn.1 (by omega)
    have a' := tmod_lt n' 2 hn'.1 (by omega)
    refine ⟨⟨rfl, ?_⟩, by simpa using c2⟩
    rw [if_neg (by omega), if_pos rfl]
    by_cases q : Int.tmod n 2 = 1
    · by_cases q' : Int.tmod n' 2 = 1
      · omega
      · rw [if_pos (by rw [q]; rfl), if_neg (by simpa using q')] at c1; omega
    · by_cases q' : Int.tmod n' 2 = 1
      · rw [if_neg (by simpa using q), if_pos (by rw [q']; rfl)] at c1; omega
      · omega
  · rw [E4, E4, List.cons_append, List.cons_append] at h
    have h' := app_inj (List.cons.inj h).2 (hl _ _)
    have a := tmod_lt n 100 hn.1 (by omega)
    have a' := tmod_lt n' 100 hn'.1 (by omega)
    exact ⟨⟨rfl, by rw [if_neg (by omega), if_neg (by omega), if_pos rfl]; exact longL_inj (by rw [pow4]; omega) (by rw [pow4]; omega) h'.1⟩, h'.2⟩
theorem c_put (k : Nat) (hk : 9 ≤ k) (out : List Int) (kd n : Int) (b : List Int) (hkd : 0 ≤ kd ∧ kd ≤ 4) (hn : 0 ≤ n ∧ n ≤ 18446744073709551615) (hb : ∀ x ∈ b, 0 ≤ x ∧ x ≤ 255) (h : out.length + b.length + 9 ≤ 140737488355000) : stelelaw02_put.f k out kd n b = some (out ++ encP kd n b) := by
  unfold stelelaw02_put.f encP
  by_cases k0 : kd = 0
  · rw [if_pos k0, if_pos k0, c_uint k hk _ _ (by omega)]; rfl
  · rw [if_neg k0, if_neg k0]
    by_cases k1 : kd = 1
    · rw [if_pos k1, if_pos k1, c_bytes k hk _ _ h, Option.bind_some]; unfold bytesL; rw [List.append_assoc]; rfl
    · rw [if_neg k1, if_neg k1]
      by_cases k2 : kd = 2
      · rw [if_pos k2, if_pos k2, c_text k hk _ _ (by rw [str_size]; exact h), Option.bind_some]; unfold textL; rw [bytes_str b hb, str_size, List.append_assoc]; rfl
      · rw [if_neg k2, if_neg k2]
        by_cases k3 : kd = 3
        · rw [if_pos k3, if_pos k3, c_bool k hk _ _ (by omega), Option.bind_some]; rfl
        · rw [if_neg k3, if_neg k3]
          have a := tmod_lt n 100 hn.1 (by omega)
          rw [show wrap64 (Int.tmod n 100) = Int.tmod n 100 by unfold wrap64; omega, c_list k hk _ _ (by omega) (by omega), Option.bind_some]; unfold listL; rw [if_neg (by omega)]
end Go.Proofs.Ytlnpmodhejakiaa.CP
