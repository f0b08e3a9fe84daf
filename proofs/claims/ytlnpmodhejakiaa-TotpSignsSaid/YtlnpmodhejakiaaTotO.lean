/- The document's Unbase32 in the same words (over the print PTx3). -/
import Derived.Test.YtlnpmodhejakiaaPTx3
import Derived.Test.YtlnpmodhejakiaaTotN
namespace Go.Proofs.Ytlnpmodhejakiaa.T
open Go.RowKit Go.Proofs.YtlnpmodhejakiaaW.PrintWords Go.Proofs.YtlnpmodhejakiaaW.PrintLast Go.Proofs.YtlnpmodhejakiaaW.PrintMore Go.Proofs.Ytlnpmodhejakiaa.PT
set_option linter.unusedVariables false
theorem sign_k (c : Nat) (h : c < 256) : ∀ d, steleref07_sign.f (40 + d) (c : Int) = some (idx (c : Int)) := by
  intro d
  induction d with
  | zero => exact sign_f c h
  | succ d ih => exact steleref07_sign.mono _ _ _ ih
theorem bytes_get (s : ByteArray) (i : Nat) (h : i < (bytesOf s).length) : (bytesOf s)[i] = ((s.data.toList[i]'(by have := h; unfold bytesOf at this; rwa [List.length_map] at this)).toNat : Int) := List.getElem_map _
theorem bt_bytes (s : ByteArray) (i : Nat) (h : i < (bytesOf s).length) : bt s (i : Int) = (bytesOf s)[i] := by
  have hs : i < s.size := by rw [← bytesOf_length]; exact h
  have := bt_at s (i : Int) (by rw [Int.toNat_natCast]; exact hs)
  rw [← this, bytes_get s i h]
  rfl
theorem and1i (x : Int) (h : 0 ≤ x ∧ x ≤ 255) : Go.bits .and .i64 x 1 = x % 2 := by
  obtain ⟨m, rfl⟩ := Int.eq_ofNat_of_zero_le h.1
  unfold Go.bits
  show IntKind.i64.wrap ((BitVec.ofInt 64 (m : Int) &&& BitVec.ofInt 64 ((1 : Nat) : Int)).toNat : Int) = _
  rw [BitVec.toNat_and, BitVec.ofInt_natCast, BitVec.ofInt_natCast, BitVec.toNat_ofNat, BitVec.toNat_ofNat, Nat.mod_eq_of_lt (by omega), Nat.mod_eq_of_lt (by decide)]
  have := Nat.and_two_pow_sub_one_eq_mod m 1
  rw [show 2 ^ 1 - 1 = 1 from rfl] at this
  rw [this]
  have h2 : m % 2 < 2 := Nat.mod_lt _ (by decide)
  rw [IntWalk.i64_in _ (by omega)]
  omega
theorem bit5 (x j : Nat) (hx : x ≤ 255) (hj : j ≤ 7) : Go.bits .and .i64 (shr .i64 (x : Int) (IntKind.u64.wrap (j : Int))) 1 % 256 = ((x / 2 ^ j % 2 : Nat) : Int) := by
  have e : IntKind.u64.wrap (j : Int) = (j : Int) := by rw [IntKind.wrap_u64]; omega
  rw [e]
  unfold shr
  rw [show min ((j : Int)).toNat IntKind.i64.bits = j by show min _ 64 = _; omega]
  rw [show (x : Int) / 2 ^ j = ((x / 2 ^ j : Nat) : Int) by rw [show (2 : Int) ^ j = ((2 ^ j : Nat) : Int) by rw [Int.natCast_pow]; rfl]; rfl]
  have := Nat.div_le_self x (2 ^ j)
  obtain ⟨y, hy⟩ : ∃ y, x / 2 ^ j = y := ⟨_, rfl⟩
  rw [hy] at this ⊢
  rw [and1i _ (by omega)]
  omega
theorem ub1 (s : ByteArray) (i : Nat) (hi : i ≤ 1000000) (x : Nat) (hx : x ≤ 255) : ∀ (n k : Nat) (out : List Int), n ≤ 5 → out.length + n ≤ 1000000000 → steleref07_Unbase32.l1 (k + n + 1) s out (i : Int) (x : Int) ((n : Int) - 1) = steleref07_Unbase32.l0 k s (out ++ ci (bits n x)) ((i + 1 : Nat) : Int) := by
  intro n
  induction n with
  | zero =>
    intro k out _ _
    rw [steleref07_Unbase32.l1, if_neg (by omega)]
    rw [show wrap64 ((i : Int) + 1) = ((i + 1 : Nat) : Int) by unfold wrap64; omega]
    show _ = steleref07_Unbase32.l0 k s (out ++ []) _
    rw [List.append_nil]
  | succ n ih =>
    intro k out hn ho
    rw [show ((n + 1 : Nat) : Int) - 1 = (n : Int) by omega, show k + (n + 1) + 1 = (k + n + 1) + 1 by omega, steleref07_Unbase32.l1, if_pos (by omega), if_pos (wn0 n (by omega)), if_pos (by omega)]
    rw [bit5 x n hx (by omega), show wrap64 ((n : Int) - 1) = (n : Int) - 1 by unfold wrap64; omega, ih k _ (by omega) (by rw [List.length_append, List.length_singleton]; omega)]
    rw [List.append_assoc]
    rfl
theorem bytes_bd (s : ByteArray) (i : Nat) (h : i < (bytesOf s).length) : ∃ c : Nat, (bytesOf s)[i] = (c : Int) ∧ c < 256 := by
  rw [bytes_get s i h]
  exact ⟨_, rfl, UInt8.toNat_lt _⟩
theorem ub0 (s : ByteArray) (hs : s.size ≤ 20000) : ∀ (d i F : Nat) (out : List Int), s.size - i = d → i ≤ s.size → out.length ≤ 5 * i → 100 ≤ F →
    ((∃ c ∈ (bytesOf s).drop i, idx c < 0) → steleref07_Unbase32.l0 (F + 7 * d + 1) s out (i : Int) = some ([], 4)) ∧
    ((∀ c ∈ (bytesOf s).drop i, 0 ≤ idx c) → steleref07_Unbase32.l0 (F + 7 * d + 1) s out (i : Int) = steleref07_Unbase32.l2 F s (out ++ ci (B5 ((bytesOf s).drop i))) [] 0) := by
  have hbl := bytesOf_length s
  intro d
  induction d with
  | zero =>
    intro i F out hd hi ho hF
    rw [List.drop_of_length_le (by omega)]
    refine ⟨fun ⟨c, hc, _⟩ => (by cases hc), fun _ => ?_⟩
    rw [steleref07_Unbase32.l0, if_neg (by omega)]
    show _ = steleref07_Unbase32.l2 F s (out ++ []) [] 0
    rw [List.append_nil]
  | succ d ih =>
    intro i F out hd hi ho hF
    have hlt : i < (bytesOf s).length := by omega
    obtain ⟨c, hc, hc256⟩ := bytes_bd s i hlt
    rw [List.drop_eq_getElem_cons hlt, hc]
    have hstep : steleref07_Unbase32.l0 (F + 7 * (d + 1) + 1) s out (i : Int) = if idx (c : Int) < 0 then some ([], 4) else steleref07_Unbase32.l1 (F + 7 * d + 7) s out (i : Int) (idx (c : Int)) 4 := by
      rw [show F + 7 * (d + 1) + 1 = (F + 7 * d + 7) + 1 by omega, steleref07_Unbase32.l0, if_pos (by omega), if_pos (by omega), bt_bytes s i hlt, hc]
      have := sign_k c hc256 (F + 7 * d + 7 - 40)
      rw [show 40 + (F + 7 * d + 7 - 40) = F + 7 * d + 7 by omega] at this
      rw [this, Option.bind_some]
    rw [hstep]
    by_cases hn : idx (c : Int) < 0
    · rw [if_pos hn]
      exact ⟨fun _ => rfl, fun h => absurd (h _ (List.mem_cons_self ..)) (by omega)⟩
    · rw [if_neg hn]
      obtain ⟨x, hx⟩ := Int.eq_ofNat_of_zero_le (show 0 ≤ idx (c : Int) by omega)
      have hx32 := (idx_bd (c : Int)).2
      have h1 := ub1 s i (by omega) x (by omega) 5 (F + 7 * d + 1) out (Nat.le_refl _) (by omega)
      rw [show (((5 : Nat) : Int) - 1) = 4 from rfl, show F + 7 * d + 1 + 5 + 1 = F + 7 * d + 7 by omega] at h1
      obtain ⟨i1, i2⟩ := ih (i + 1) F (out ++ ci (bits 5 x)) (by omega) (by omega) (by rw [List.length_append, ci_len, bits_len]; omega) hF
      rw [hx, h1]
      refine ⟨?_, ?_⟩
      · rintro ⟨c', hc', hn'⟩
        rcases List.mem_cons.1 hc' with rfl | hc'
        · exact absurd hn' hn
        · exact i1 ⟨c', hc', hn'⟩
      · intro h
        rw [i2 (fun c' hc' => h c' (List.mem_cons_of_mem _ hc')), List.append_assoc, ← ci_app]
        unfold B5
        rw [List.flatMap_cons, hx]
        rfl
theorem ub3 (s : ByteArray) (D : List Nat) (hB : isB D) (hL : D.length ≤ 1000000000) (i : Nat) (hi : i + 8 ≤ D.length) (out : List Int) (ho : out.length ≤ 1000000000) : ∀ (n F : Nat), n ≤ 8 → steleref07_Unbase32.l3 (F + n + 1) s (ci D) out (i : Int) ((num ((D.drop i).take (8 - n)) : Nat) : Int) ((8 - n : Nat) : Int) = steleref07_Unbase32.l2 F s (ci D) (out ++ [((num ((D.drop i).take 8) : Nat) : Int)]) ((i + 8 : Nat) : Int) := by
  intro n
  induction n with
  | zero =>
    intro F _
    rw [steleref07_Unbase32.l3, if_neg (by omega), if_pos (by omega), show wrap64 ((i : Int) + 8) = ((i + 8 : Nat) : Int) by unfold wrap64; omega]
  | succ n ih =>
    intro F hn
    obtain ⟨j, hj⟩ : ∃ j, 8 - (n + 1) = j := ⟨_, rfl⟩
    have hj1 : 8 - n = j + 1 := by omega
    have w1 : wrap64 ((i : Int) + (j : Int)) = ((i + j : Nat) : Int) := by unfold wrap64; omega
    have w2 : wrap64 ((j : Int) + 1) = ((j + 1 : Nat) : Int) := by unfold wrap64; omega
    have hlen := ci_len D
    have a1 : (j : Int) < 8 := by omega
    have a2 : ((i + j : Nat) : Int) < ((ci D).length : Int) := by omega
    have hD8 : j < (D.drop i).length := by rw [List.length_drop]; omega
    have hjl : i + j < D.length := by omega
    have ht : (D.drop i).take (j + 1) = (D.drop i).take j ++ [D[i + j]] := by
      rw [List.take_succ_eq_append_getElem hD8, List.getElem_drop]
    have hb2 := isB_lt hB (i + j) hjl
    have hlt := num_lt ((D.drop i).take j) (fun x hx => hB x (List.mem_of_mem_drop (List.mem_of_mem_take hx)))
    have hp : 2 ^ ((D.drop i).take j).length ≤ 2 ^ 7 := Nat.pow_le_pow_right (by decide) (by rw [List.length_take]; omega)
    have hih := ih F (by omega)
    rw [hj1, ht, num_app] at hih
    rw [hj]
    obtain ⟨v, hv⟩ : ∃ v, num ((D.drop i).take j) = v := ⟨_, rfl⟩
    rw [hv] at hlt hih ⊢
    have hn1 : num [D[i + j]] = D[i + j] := by simp [num]
    rw [hn1] at hih
    obtain ⟨y, hy⟩ : ∃ y, D[i + j] = y := ⟨_, rfl⟩
    rw [hy] at hih hb2
    have hr : rd (ci D) ((i + j : Nat) : Int) = (y : Int) := by rw [rd_ci D (i + j) hjl, hy]
    have hsum : ((((v : Int) * 2) % 256) + (y : Int)) % 256 = ((v * 2 ^ [y].length + y : Nat) : Int) := by
      show ((((v : Int) * 2) % 256) + (y : Int)) % 256 = ((v * 2 + y : Nat) : Int)
      omega
    rw [show F + (n + 1) + 1 = (F + n + 1) + 1 from rfl, steleref07_Unbase32.l3, w1, w2, if_pos a1, if_pos (Int.natCast_nonneg _), if_pos a2, hr, hsum]
    exact hih
theorem ub2 (s : ByteArray) (D : List Nat) (hB : isB D) (hL : D.length ≤ 1000000) : ∀ (d i F : Nat) (out : List Int), (D.length - i) / 8 = d → i ≤ D.length → out.length ≤ i → steleref07_Unbase32.l2 (F + 10 * d + 1) s (ci D) out (i : Int) = (steleref07_Base32.f F (out ++ ci (vals 7 (D.drop i)).1)).bind fun t => if t.toList = s.toList then some (out ++ ci (vals 7 (D.drop i)).1, 0) else some ([], 4) := by
  intro d
  induction d with
  | zero =>
    intro i F out hd hi ho
    have hlen := ci_len D
    have h8 : ¬ i + 8 ≤ D.length := by omega
    rw [steleref07_Unbase32.l2, show wrap64 ((i : Int) + 8) = ((i + 8 : Nat) : Int) by unfold wrap64; omega, if_neg (by omega), vals_lt (g := 7) (by rw [List.length_drop]; omega)]
    show _ = (steleref07_Base32.f F (out ++ [])).bind fun t => if t.toList = s.toList then some (out ++ [], 0) else some ([], 4)
    rw [List.append_nil]
  | succ d ih =>
    intro i F out hd hi ho
    have hlen := ci_len D
    have h8 : i + 8 ≤ D.length := by omega
    have h1 := ub3 s D hB (by omega) i h8 out (by omega) 8 (F + 10 * d + 1) (Nat.le_refl _)
    have h2 := ih (i + 8) F (out ++ [((num ((D.drop i).take 8) : Nat) : Int)]) (by omega) (by omega) (by rw [List.length_append, List.length_singleton]; omega)
    have hv : (vals 7 (D.drop i)).1 = num ((D.drop i).take 8) :: (vals 7 (D.drop (i + 8))).1 := by
      rw [vals_ge (g := 7) (l := D.drop i) (by rw [List.length_drop]; omega), List.drop_drop]
    have a1 : ((i + 8 : Nat) : Int) ≤ ((ci D).length : Int) := by omega
    rw [show F + 10 * (d + 1) + 1 = (F + 10 * d + 1 + 8 + 1) + 1 by omega, steleref07_Unbase32.l2, show wrap64 ((i : Int) + 8) = ((i + 8 : Nat) : Int) by unfold wrap64; omega, if_pos a1]
    refine (show _ = _ from h1).trans ?_
    rw [h2, hv, List.append_assoc]
    rfl
theorem B5_len (l : List Int) : (B5 l).length = 5 * l.length := by
  unfold B5
  induction l with
  | nil => rfl
  | cons a l ih => rw [List.flatMap_cons, List.length_append, bits_len, ih, List.length_cons]; omega
theorem vals_count (g : Nat) : ∀ (n : Nat) (a : List Nat), a.length = n → (vals g a).1.length ≤ n := by
  intro n
  induction n using Nat.strongRecOn with
  | _ n ih =>
    intro a hn
    by_cases h : a.length < g + 1
    · rw [vals_lt h]; simp
    · rw [vals_ge h]
      have := ih (a.drop (g + 1)).length (by rw [List.length_drop]; omega) _ rfl
      rw [List.length_drop] at this
      simp only [List.length_cons]
      omega
theorem unrun_neg (l : List Int) (h : ∃ c ∈ l, idx c < 0) : ∀ s, l.foldl ustep s = none := by
  induction l with
  | nil => obtain ⟨c, hc, _⟩ := h; cases hc
  | cons a l ih =>
    intro s
    rw [List.foldl_cons]
    by_cases ha : idx a < 0
    · have : ustep s a = none := by
        unfold ustep
        cases s with
        | none => rfl
        | some s => rw [Option.bind_some, if_pos ha]
      rw [this, unrun_none]
    · obtain ⟨c, hc, hn⟩ := h
      rcases List.mem_cons.1 hc with rfl | hc
      · exact absurd hn ha
      · exact ih ⟨c, hc, hn⟩ _
theorem r_unb (s : ByteArray) (hs : s.size ≤ 20000) (k : Nat) (hk : 5000000 ≤ k) : steleref07_Unbase32.f k s = some (unb s) := by
  have hbl := bytesOf_length s
  unfold steleref07_Unbase32.f
  obtain ⟨F, hF⟩ : ∃ F, k = F + 7 * s.size + 1 := ⟨k - 7 * s.size - 1, by omega⟩
  obtain ⟨i1, i2⟩ := ub0 s hs s.size 0 F [] (by omega) (by omega) (by simp) (by omega)
  rw [List.drop_zero, show ((0 : Nat) : Int) = 0 from rfl] at i1 i2
  rw [hF]
  by_cases hneg : ∃ c ∈ bytesOf s, idx c < 0
  · rw [i1 hneg]
    unfold unb
    rw [show unrun (bytesOf s) = none from unrun_neg _ hneg _]
  · have hpos : ∀ c ∈ bytesOf s, 0 ≤ idx c := fun c hc => Int.not_lt.1 (fun h => hneg ⟨c, hc, h⟩)
    rw [i2 hpos, List.nil_append]
    obtain ⟨b, r1, r2⟩ := unrun_vals (bytesOf s) hpos (bytesOf s).length (Nat.le_refl _)
    rw [List.take_length] at r1
    have hB5 := B5_len (bytesOf s)
    obtain ⟨G, hG⟩ : ∃ G, F = G + 10 * ((B5 (bytesOf s)).length / 8) + 1 := ⟨F - 10 * ((B5 (bytesOf s)).length / 8) - 1, by omega⟩
    have h2 := ub2 s (B5 (bytesOf s)) (B5_isB _) (by omega) ((B5 (bytesOf s)).length / 8) 0 G [] (by simp) (by omega) (by simp)
    rw [List.drop_zero, List.nil_append, show ((0 : Nat) : Int) = 0 from rfl] at h2
    rw [hG, h2]
    have hcnt := vals_count 7 _ (B5 (bytesOf s)) rfl
    obtain ⟨_, hv⟩ := vals_back 7 _ (B5 (bytesOf s)) rfl (B5_isB _)
    unfold unb
    rw [r1]
    simp only
    obtain ⟨V, hV⟩ : ∃ V, (vals 7 (B5 (bytesOf s))).1 = V := ⟨_, rfl⟩
    rw [hV] at hcnt hv ⊢
    have hcb : ∀ x ∈ ci V, 0 ≤ x ∧ x ≤ 255 := by
      intro x hx
      obtain ⟨v, hv', rfl⟩ := List.mem_map.1 hx
      have : v < 256 := hv v hv'
      omega
    rw [r_b32 (ci V) (by rw [ci_len]; omega) hcb G (by omega), Option.bind_some]
    show _ = some (if (⟨(b32 (ci V)).toArray⟩ : ByteArray) = s then (ci V, 0) else ([], 4))
    by_cases e : (⟨(b32 (ci V)).toArray⟩ : ByteArray) = s
    · rw [if_pos e, if_pos (by rw [e])]
    · rw [if_neg e, if_neg (fun h => e (by rw [ByteArray.toList_eq, ByteArray.toList_eq] at h; exact ByteArray.ext (Array.ext' h)))]
end Go.Proofs.Ytlnpmodhejakiaa.T
