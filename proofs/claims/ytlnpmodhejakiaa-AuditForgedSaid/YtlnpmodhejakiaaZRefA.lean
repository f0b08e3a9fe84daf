/- steleref01: left, right, words, padded, bytes, k256: what they answer, in plain words. -/
import Derived.Test.YtlnpmodhejakiaaZDigJ
import Derived.Test.YtlnpmodhejakiaaZPGx3
import Derived.Test.YtlnpmodhejakiaaZPGx2
import Derived.Test.YtlnpmodhejakiaaZPGx1
namespace Go.Proofs.Ytlnpmodhejakiaa.D
open Go.RowKit Go.Proofs.YtlnpmodhejakiaaW.PrintWords Go.Proofs.YtlnpmodhejakiaaW.PrintLast Go.Proofs.YtlnpmodhejakiaaW.PrintMore Go.Proofs.Ytlnpmodhejakiaa.Sha Go.Proofs.Ytlnpmodhejakiaa.PG
set_option linter.unusedVariables false
set_option linter.unusedSimpArgs false
theorem left_any (X : W) (s : Nat) (h1 : 1 ≤ s) (h2 : s ≤ 31) (w : World) :
    Calls Try.prog 123 #[.int .u32 (n32 X), .int .i64 (s : Int)] w fun e w' => e = .returned (.int .u32 (n32 (rl X s))) ∧ w' = w := by
  obtain ⟨x, hx⟩ : ∃ x, n32 X = x := ⟨_, rfl⟩
  rw [hx]
  have HX := Aside0.mk hx
  clear hx
  have b1 : (1 : Int) ≤ (s : Int) := by omega
  have b2 : (s : Int) ≤ 31 := by omega
  go_enter Try.func123, Try.ntmps123
  go_wp2
  go_ret
  refine ⟨?_, rfl⟩
  have e1 : x * 2 ^ s % 4294967296 = n32 (X <<< s) := by
    rw [← n32_shl, HX.out, IntKind.wrap_u32]; simp
  have e2 : x / 2 ^ (32 - s) = n32 (X >>> (32 - s)) := by
    rw [← n32_shr, HX.out]; simp
  show Ending.returned (Value.int .u32 (bits .or .u32 (x * 2 ^ s % 4294967296) (x / 2 ^ (32 - s)))) = _
  rw [e1, e2, n32_or]
  rfl
theorem left_25 (X : W) (w : World) : Calls Try.prog 123 #[.int .u32 (n32 X), .int .i64 25] w fun e w' => e = .returned (.int .u32 (n32 (rl X 25))) ∧ w' = w := left_any X 25 (by omega) (by omega) w
theorem left_14 (X : W) (w : World) : Calls Try.prog 123 #[.int .u32 (n32 X), .int .i64 14] w fun e w' => e = .returned (.int .u32 (n32 (rl X 14))) ∧ w' = w := left_any X 14 (by omega) (by omega) w
theorem left_15 (X : W) (w : World) : Calls Try.prog 123 #[.int .u32 (n32 X), .int .i64 15] w fun e w' => e = .returned (.int .u32 (n32 (rl X 15))) ∧ w' = w := left_any X 15 (by omega) (by omega) w
theorem left_13 (X : W) (w : World) : Calls Try.prog 123 #[.int .u32 (n32 X), .int .i64 13] w fun e w' => e = .returned (.int .u32 (n32 (rl X 13))) ∧ w' = w := left_any X 13 (by omega) (by omega) w
theorem left_26 (X : W) (w : World) : Calls Try.prog 123 #[.int .u32 (n32 X), .int .i64 26] w fun e w' => e = .returned (.int .u32 (n32 (rl X 26))) ∧ w' = w := left_any X 26 (by omega) (by omega) w
theorem left_21 (X : W) (w : World) : Calls Try.prog 123 #[.int .u32 (n32 X), .int .i64 21] w fun e w' => e = .returned (.int .u32 (n32 (rl X 21))) ∧ w' = w := left_any X 21 (by omega) (by omega) w
theorem left_7 (X : W) (w : World) : Calls Try.prog 123 #[.int .u32 (n32 X), .int .i64 7] w fun e w' => e = .returned (.int .u32 (n32 (rl X 7))) ∧ w' = w := left_any X 7 (by omega) (by omega) w
theorem left_30 (X : W) (w : World) : Calls Try.prog 123 #[.int .u32 (n32 X), .int .i64 30] w fun e w' => e = .returned (.int .u32 (n32 (rl X 30))) ∧ w' = w := left_any X 30 (by omega) (by omega) w
theorem left_19 (X : W) (w : World) : Calls Try.prog 123 #[.int .u32 (n32 X), .int .i64 19] w fun e w' => e = .returned (.int .u32 (n32 (rl X 19))) ∧ w' = w := left_any X 19 (by omega) (by omega) w
theorem left_10 (X : W) (w : World) : Calls Try.prog 123 #[.int .u32 (n32 X), .int .i64 10] w fun e w' => e = .returned (.int .u32 (n32 (rl X 10))) ∧ w' = w := left_any X 10 (by omega) (by omega) w
theorem right_7 (X : W) (w : World) : Calls Try.prog 127 #[.int .u32 (n32 X), .int .i64 7] w fun e w' => e = .returned (.int .u32 (n32 (rl X 25))) ∧ w' = w := by
  obtain ⟨x, hx⟩ : ∃ x, n32 X = x := ⟨_, rfl⟩
  have HX := left_25 X w
  rw [hx] at HX ⊢
  clear hx
  go_enter Try.func127, Try.ntmps127
  go_wp2_with (go_at_call 123; refine HX.mono ?_; rintro e w' ⟨rfl, rfl⟩)
  go_ret
  exact ⟨rfl, rfl⟩
theorem right_18 (X : W) (w : World) : Calls Try.prog 127 #[.int .u32 (n32 X), .int .i64 18] w fun e w' => e = .returned (.int .u32 (n32 (rl X 14))) ∧ w' = w := by
  obtain ⟨x, hx⟩ : ∃ x, n32 X = x := ⟨_, rfl⟩
  have HX := left_14 X w
  rw [hx] at HX ⊢
  clear hx
  go_enter Try.func127, Try.ntmps127
  go_wp2_with (go_at_call 123; refine HX.mono ?_; rintro e w' ⟨rfl, rfl⟩)
  go_ret
  exact ⟨rfl, rfl⟩
theorem right_17 (X : W) (w : World) : Calls Try.prog 127 #[.int .u32 (n32 X), .int .i64 17] w fun e w' => e = .returned (.int .u32 (n32 (rl X 15))) ∧ w' = w := by
  obtain ⟨x, hx⟩ : ∃ x, n32 X = x := ⟨_, rfl⟩
  have HX := left_15 X w
  rw [hx] at HX ⊢
  clear hx
  go_enter Try.func127, Try.ntmps127
  go_wp2_with (go_at_call 123; refine HX.mono ?_; rintro e w' ⟨rfl, rfl⟩)
  go_ret
  exact ⟨rfl, rfl⟩
theorem right_19 (X : W) (w : World) : Calls Try.prog 127 #[.int .u32 (n32 X), .int .i64 19] w fun e w' => e = .returned (.int .u32 (n32 (rl X 13))) ∧ w' = w := by
  obtain ⟨x, hx⟩ : ∃ x, n32 X = x := ⟨_, rfl⟩
  have HX := left_13 X w
  rw [hx] at HX ⊢
  clear hx
  go_enter Try.func127, Try.ntmps127
  go_wp2_with (go_at_call 123; refine HX.mono ?_; rintro e w' ⟨rfl, rfl⟩)
  go_ret
  exact ⟨rfl, rfl⟩
theorem right_6 (X : W) (w : World) : Calls Try.prog 127 #[.int .u32 (n32 X), .int .i64 6] w fun e w' => e = .returned (.int .u32 (n32 (rl X 26))) ∧ w' = w := by
  obtain ⟨x, hx⟩ : ∃ x, n32 X = x := ⟨_, rfl⟩
  have HX := left_26 X w
  rw [hx] at HX ⊢
  clear hx
  go_enter Try.func127, Try.ntmps127
  go_wp2_with (go_at_call 123; refine HX.mono ?_; rintro e w' ⟨rfl, rfl⟩)
  go_ret
  exact ⟨rfl, rfl⟩
theorem right_11 (X : W) (w : World) : Calls Try.prog 127 #[.int .u32 (n32 X), .int .i64 11] w fun e w' => e = .returned (.int .u32 (n32 (rl X 21))) ∧ w' = w := by
  obtain ⟨x, hx⟩ : ∃ x, n32 X = x := ⟨_, rfl⟩
  have HX := left_21 X w
  rw [hx] at HX ⊢
  clear hx
  go_enter Try.func127, Try.ntmps127
  go_wp2_with (go_at_call 123; refine HX.mono ?_; rintro e w' ⟨rfl, rfl⟩)
  go_ret
  exact ⟨rfl, rfl⟩
theorem right_25 (X : W) (w : World) : Calls Try.prog 127 #[.int .u32 (n32 X), .int .i64 25] w fun e w' => e = .returned (.int .u32 (n32 (rl X 7))) ∧ w' = w := by
  obtain ⟨x, hx⟩ : ∃ x, n32 X = x := ⟨_, rfl⟩
  have HX := left_7 X w
  rw [hx] at HX ⊢
  clear hx
  go_enter Try.func127, Try.ntmps127
  go_wp2_with (go_at_call 123; refine HX.mono ?_; rintro e w' ⟨rfl, rfl⟩)
  go_ret
  exact ⟨rfl, rfl⟩
theorem right_2 (X : W) (w : World) : Calls Try.prog 127 #[.int .u32 (n32 X), .int .i64 2] w fun e w' => e = .returned (.int .u32 (n32 (rl X 30))) ∧ w' = w := by
  obtain ⟨x, hx⟩ : ∃ x, n32 X = x := ⟨_, rfl⟩
  have HX := left_30 X w
  rw [hx] at HX ⊢
  clear hx
  go_enter Try.func127, Try.ntmps127
  go_wp2_with (go_at_call 123; refine HX.mono ?_; rintro e w' ⟨rfl, rfl⟩)
  go_ret
  exact ⟨rfl, rfl⟩
theorem right_13 (X : W) (w : World) : Calls Try.prog 127 #[.int .u32 (n32 X), .int .i64 13] w fun e w' => e = .returned (.int .u32 (n32 (rl X 19))) ∧ w' = w := by
  obtain ⟨x, hx⟩ : ∃ x, n32 X = x := ⟨_, rfl⟩
  have HX := left_19 X w
  rw [hx] at HX ⊢
  clear hx
  go_enter Try.func127, Try.ntmps127
  go_wp2_with (go_at_call 123; refine HX.mono ?_; rintro e w' ⟨rfl, rfl⟩)
  go_ret
  exact ⟨rfl, rfl⟩
theorem right_22 (X : W) (w : World) : Calls Try.prog 127 #[.int .u32 (n32 X), .int .i64 22] w fun e w' => e = .returned (.int .u32 (n32 (rl X 10))) ∧ w' = w := by
  obtain ⟨x, hx⟩ : ∃ x, n32 X = x := ⟨_, rfl⟩
  have HX := left_10 X w
  rw [hx] at HX ⊢
  clear hx
  go_enter Try.func127, Try.ntmps127
  go_wp2_with (go_at_call 123; refine HX.mono ?_; rintro e w' ⟨rfl, rfl⟩)
  go_ret
  exact ⟨rfl, rfl⟩
def nW (l : List W) : List Int := l.map n32
theorem nW_len (l : List W) : (nW l).length = l.length := by simp [nW]
theorem byte_rd (bl : List Int) (hb : ∀ x ∈ bl, 0 ≤ x ∧ x ≤ 255) (i : Nat) (h : i < bl.length) : 0 ≤ bl.getD i 0 ∧ bl.getD i 0 ≤ 255 := hb _ (by rw [List.getD_eq_getElem?_getD, List.getElem?_eq_getElem h]; exact List.getElem_mem _)
theorem word_val (bl : List Int) (hb : ∀ x ∈ bl, 0 ≤ x ∧ x ≤ 255) (hl : bl.length = 64) (i : Nat) (hi : i < 16) :
    Go.bits .or .u32 (Go.bits .or .u32 (Go.bits .or .u32 (((bl.getD (4 * i) 0 % 4294967296) * 16777216) % 4294967296) (((bl.getD (4 * i + 1) 0 % 4294967296) * 65536) % 4294967296)) (((bl.getD (4 * i + 2) 0 % 4294967296) * 256) % 4294967296)) (bl.getD (4 * i + 3) 0 % 4294967296) = n32 (wd bl i) := by
  have h0 := byte_rd bl hb (4 * i) (by omega)
  have h1 := byte_rd bl hb (4 * i + 1) (by omega)
  have h2 := byte_rd bl hb (4 * i + 2) (by omega)
  have h3 := byte_rd bl hb (4 * i + 3) (by omega)
  unfold wd
  rw [n32_of _ (by omega) (by omega)]
  rw [← or_bytes _ _ _ _ h0 h1 h2 h3]
  congr 1
  · congr 1
    · congr 1 <;> omega
    · omega
  · omega
theorem words_l0 (bl : List Int) (hb : ∀ x ∈ bl, 0 ≤ x ∧ x ≤ 255) (hl : bl.length = 64) (nx : List W → Nat → W) (hnx : ∀ i, i < 16 → nx (sched nx i) i = wd bl i) :
    ∀ (d i k : Nat), 16 - i = d → i ≤ 16 → d < k → steleref01_words.l0 k bl (nW (sched nx i)) ((4 * i : Nat) : Int) = some (nW (sched nx 16)) := by
  intro d
  induction d with
  | zero =>
    intro i k hd hi hk
    obtain ⟨k, rfl⟩ : ∃ m, k = m + 1 := ⟨k - 1, by omega⟩
    obtain rfl : i = 16 := by omega
    simp only [steleref01_words.l0]
    rw [if_neg (by omega)]
  | succ d ih =>
    intro i k hd hi hk
    obtain ⟨k, rfl⟩ : ∃ m, k = m + 1 := ⟨k - 1, by omega⟩
    have e1 : wrap64 (((4 * i : Nat) : Int) + 1) = ((4 * i + 1 : Nat) : Int) := by unfold wrap64; omega
    have e2 : wrap64 (((4 * i : Nat) : Int) + 2) = ((4 * i + 2 : Nat) : Int) := by unfold wrap64; omega
    have e3 : wrap64 (((4 * i : Nat) : Int) + 3) = ((4 * i + 3 : Nat) : Int) := by unfold wrap64; omega
    have e4 : wrap64 (((4 * i : Nat) : Int) + 4) = ((4 * (i + 1) : Nat) : Int) := by unfold wrap64; omega
    have hr : ∀ j : Nat, rd bl (j : Int) = bl.getD j 0 := fun j => rfl
    have hs := ih (i + 1) k (by omega) (by omega) (by omega)
    have hlen : (nW (sched nx i)).length = i := by rw [nW_len, sched_len]
    simp only [steleref01_words.l0]
    rw [e1, e2, e3, e4, hr, hr, hr, hr, word_val bl hb hl i (by omega)]
    rw [if_pos (by omega), if_pos (by omega), if_pos (by omega), if_pos (by omega), if_pos (by omega), if_pos (by omega), if_pos (by omega), if_pos (by omega), if_pos (by omega), if_pos (by omega)]
    rw [← hs]
    congr 1
    rw [sched, ← hnx i (by omega)]
    simp [nW]
theorem words_eq (bl : List Int) (hb : ∀ x ∈ bl, 0 ≤ x ∧ x ≤ 255) (hl : bl.length = 64) (nx : List W → Nat → W) (hnx : ∀ i, i < 16 → nx (sched nx i) i = wd bl i) (k : Nat) (hk : 17 ≤ k) : steleref01_words.f k bl = some (nW (sched nx 16)) :=
  words_l0 bl hb hl nx hnx (16 - 0) 0 k rfl (by omega) (by omega)
theorem bytes_l0 (l : List W) (hl : l.length ≤ 8) : ∀ (d i k : Nat), l.length - i = d → i ≤ l.length → d < k → steleref01_bytes.l0 k (nW l) ((l.take i).flatMap by4) i = some (l.flatMap by4) := by
  intro d
  induction d with
  | zero =>
    intro i k hd hi hk
    obtain ⟨k, rfl⟩ : ∃ m, k = m + 1 := ⟨k - 1, by omega⟩
    obtain rfl : i = l.length := by omega
    simp only [steleref01_bytes.l0]
    rw [nW_len, if_neg (by omega), List.take_length]
  | succ d ih =>
    intro i k hd hi hk
    obtain ⟨k, rfl⟩ : ∃ m, k = m + 1 := ⟨k - 1, by omega⟩
    have hs := ih (i + 1) k (by omega) (by omega) (by omega)
    have e : wrap64 ((i : Int) + 1) = ((i + 1 : Nat) : Int) := by unfold wrap64; omega
    have hr : rd (nW l) (i : Int) = n32 (l.getD i 0) := by
      simp [rd, nW, List.getD_eq_getElem?_getD, List.getElem?_eq_getElem (show i < l.length by omega)]
    have hlen : ((l.take i).flatMap by4).length ≤ 32 := by rw [flat_len, List.length_take]; omega
    simp only [steleref01_bytes.l0]
    rw [nW_len, if_pos (by omega), if_pos (by omega), Option.bind_some, hr, if_pos (show ((l.take i).flatMap by4).length + [n32 (l.getD i 0) / 16777216 % 256, n32 (l.getD i 0) / 65536 % 256, n32 (l.getD i 0) / 256 % 256, n32 (l.getD i 0) % 256].length < 140737488355328 by simp only [List.length_cons, List.length_nil]; omega), e, ← hs, flat_take l i (by omega), by4_eq]
theorem bytes_eq (l : List W) (hl : l.length ≤ 8) (k : Nat) (hk : 9 ≤ k) : steleref01_bytes.f k (nW l) = some (l.flatMap by4) :=
  bytes_l0 l hl (l.length - 0) 0 k rfl (by omega) (by omega)
theorem shr_val (n t : Nat) (ht : t < 8) (hn : n ≤ 1152921504606846976) : (shr .u64 ((n : Int) * 8) (IntKind.u64.wrap (wrap64 (8 * (7 - (t : Int)))))) % 256 = (lenB n).getD t 0 := by
  have e : IntKind.u64.wrap (wrap64 (8 * (7 - (t : Int)))) = 56 - 8 * (t : Int) := by
    have : wrap64 (8 * (7 - (t : Int))) = 56 - 8 * (t : Int) := by unfold wrap64; omega
    rw [this, IntKind.wrap_u64]; omega
  rw [e]
  unfold shr
  rw [show min (56 - 8 * (t : Int)).toNat IntKind.u64.bits = (56 - 8 * (t : Int)).toNat by show min _ 64 = _; omega]
  exact lenB_val n t _ rfl ht
theorem padded_l1 (n : Nat) (hn : n ≤ 1152921504606846976) (base : List Int) (hb : base.length ≤ 140737488355000) : ∀ (d t k : Nat), 8 - t = d → t ≤ 8 → d < k →
    steleref01_padded.l1 k (base ++ (lenB n).take t) ((n : Int) * 8) (7 - (t : Int)) = some (base ++ lenB n) := by
  intro d
  induction d with
  | zero =>
    intro t k hd hi hk
    obtain ⟨k, rfl⟩ : ∃ m, k = m + 1 := ⟨k - 1, by omega⟩
    obtain rfl : t = 8 := by omega
    simp only [steleref01_padded.l1]
    rw [if_neg (by omega), List.take_of_length_le (by rw [lenB_len]; omega)]
  | succ d ih =>
    intro t k hd hi hk
    obtain ⟨k, rfl⟩ : ∃ m, k = m + 1 := ⟨k - 1, by omega⟩
    have hs := ih (t + 1) k (by omega) (by omega) (by omega)
    have e : wrap64 (7 - (t : Int) - 1) = 7 - ((t + 1 : Nat) : Int) := by unfold wrap64; omega
    have hlen : (base ++ (lenB n).take t).length < 140737488355328 := by rw [List.length_append, List.length_take, lenB_len]; omega
    have hw : 0 ≤ IntKind.u64.wrap (wrap64 (8 * (7 - (t : Int)))) := by rw [IntKind.wrap_u64]; omega
    simp only [steleref01_padded.l1]
    rw [if_pos (by omega), if_pos hw, if_pos hlen, shr_val n t (by omega) hn, e, ← hs, List.take_succ_eq_append_getElem (by rw [lenB_len]; omega), List.append_assoc]
    rw [List.getD_eq_getElem?_getD, List.getElem?_eq_getElem (by rw [lenB_len]; omega)]
    rfl
theorem padded_l0 (l : List Int) (hl : l.length ≤ 140737488350000) : ∀ (d i k : Nat), zeros (l.length + 1) - i = d → i ≤ zeros (l.length + 1) → d + 10 < k →
    steleref01_padded.l0 k l (l ++ [128] ++ List.replicate i 0) = some (l ++ pad l.length) := by
  intro d
  have hz : zeros (l.length + 1) < 64 := by unfold zeros; omega
  induction d with
  | zero =>
    intro i k hd hi hk
    obtain ⟨k, rfl⟩ : ∃ m, k = m + 1 := ⟨k - 1, by omega⟩
    have hi' : i = zeros (l.length + 1) := by omega
    have h56 := (zeros_end (l.length + 1) i hi).2 hi'
    simp only [steleref01_padded.l0]
    rw [if_pos (by simp only [List.length_append, List.length_replicate, List.length_singleton]; omega)]
    have hx : IntKind.u64.wrap (IntKind.u64.wrap (l.length : Int) * 8) = (l.length : Int) * 8 := by rw [IntKind.wrap_u64, IntKind.wrap_u64]; omega
    have := padded_l1 l.length (by omega) (l ++ [128] ++ List.replicate i 0) (by simp; omega) (8 - 0) 0 k rfl (by omega) (by omega)
    rw [List.take_zero, List.append_nil] at this
    rw [hx]
    refine this.trans ?_
    unfold pad
    rw [hi']
    simp
  | succ d ih =>
    intro i k hd hi hk
    obtain ⟨k, rfl⟩ : ∃ m, k = m + 1 := ⟨k - 1, by omega⟩
    have hs := ih (i + 1) k (by omega) (by omega) (by omega)
    have h56 : ¬ (l.length + 1 + i) % 64 = 56 := fun h => by have := (zeros_end (l.length + 1) i hi).1 h; omega
    simp only [steleref01_padded.l0]
    rw [if_neg (by simp only [List.length_append, List.length_replicate, List.length_singleton]; omega), if_pos (by simp; omega), ← hs, List.replicate_succ', List.append_assoc]
theorem padded_eq (l : List Int) (hl : l.length ≤ 140737488350000) (k : Nat) (hk : 80 ≤ k) : steleref01_padded.f k l = some (l ++ pad l.length) := by
  unfold steleref01_padded.f
  rw [Option.bind_some, if_pos (by simp; omega), Option.bind_some, if_pos (by simp; omega)]
  have hz : zeros (l.length + 1) < 64 := by unfold zeros; omega
  have := padded_l0 l hl (zeros (l.length + 1) - 0) 0 k rfl (by omega) (by omega)
  rw [List.replicate_zero, List.append_nil] at this
  rw [List.nil_append]
  exact this
theorem k256_eq : steleref01_k256.f = some (nW k256) := by decide +kernel
theorem blocks_succ (comp : V8 → List Int → V8) : ∀ (m : Nat) (h : V8) (l : List Int), blocks comp h (m + 1) l = comp (blocks comp h m l) ((l.drop (64 * m)).take 64)
  | 0, h, l => by simp [blocks]
  | m + 1, h, l => by
    rw [show blocks comp h (m + 1 + 1) l = blocks comp (comp h (l.take 64)) (m + 1) (l.drop 64) from rfl, blocks_succ comp m, List.drop_drop]
    rw [show blocks comp h (m + 1) l = blocks comp (comp h (l.take 64)) m (l.drop 64) from rfl]
    congr 2
    congr 1
    omega
def nblk (l : List Int) : Nat := (l.length + (pad l.length).length) / 64
theorem nblk_len (l : List Int) : (l ++ pad l.length).length = 64 * nblk l := by
  have := pad_whole l.length
  rw [List.length_append]
  unfold nblk
  omega
theorem sha256_blocks (l : List Int) : sha256 l = (blocks comp256 start256.h (nblk l) (l ++ pad l.length)).l.flatMap by4 := by
  unfold sha256 sumB
  rw [show (add comp256 start256 l).n = l.length by rw [add_n]; show 0 + l.length = _; omega, ← add_append]
  rw [show start256 = ⟨start256.h, start256.block, 64 * 0⟩ from rfl, add_blocks comp256 (nblk l) start256.h start256.block 0 (l ++ pad l.length) rfl (nblk_len l)]
  rfl
end Go.Proofs.Ytlnpmodhejakiaa.D
