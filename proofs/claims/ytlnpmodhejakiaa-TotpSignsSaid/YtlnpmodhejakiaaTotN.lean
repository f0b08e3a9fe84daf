/- The document's base 32 in the same words (over the print PTx2). -/
import Derived.Test.YtlnpmodhejakiaaPTx2
import Derived.Test.YtlnpmodhejakiaaTotM
namespace Go.Proofs.Ytlnpmodhejakiaa.T
open Go.RowKit Go.Proofs.YtlnpmodhejakiaaW.PrintWords Go.Proofs.YtlnpmodhejakiaaW.PrintLast Go.Proofs.YtlnpmodhejakiaaW.PrintMore Go.Proofs.Ytlnpmodhejakiaa.PT
set_option linter.unusedVariables false
def ci (l : List Nat) : List Int := l.map (fun v : Nat => (v : Int))
theorem ci_app (a b : List Nat) : ci (a ++ b) = ci a ++ ci b := List.map_append
theorem ci_len (a : List Nat) : (ci a).length = a.length := List.length_map _
theorem and1 (x : Int) (h : 0 ≤ x ∧ x ≤ 255) : Go.bits .and .u8 x 1 = x % 2 := by
  obtain ⟨m, rfl⟩ := Int.eq_ofNat_of_zero_le h.1
  unfold Go.bits
  show IntKind.u8.wrap ((BitVec.ofInt 8 (m : Int) &&& BitVec.ofInt 8 ((1 : Nat) : Int)).toNat : Int) = _
  rw [BitVec.toNat_and, BitVec.ofInt_natCast, BitVec.ofInt_natCast, BitVec.toNat_ofNat, BitVec.toNat_ofNat, Nat.mod_eq_of_lt (by omega), Nat.mod_eq_of_lt (by decide)]
  have := Nat.and_two_pow_sub_one_eq_mod m 1
  rw [show 2 ^ 1 - 1 = 1 from rfl] at this
  rw [this, IntKind.wrap_u8]
  omega
theorem bit8 (x j : Nat) (hx : x ≤ 255) (hj : j ≤ 7) : Go.bits .and .u8 (shr .u8 (x : Int) (IntKind.u64.wrap (j : Int))) 1 = ((x / 2 ^ j % 2 : Nat) : Int) := by
  have e : IntKind.u64.wrap (j : Int) = (j : Int) := by rw [IntKind.wrap_u64]; omega
  rw [e]
  unfold shr
  rw [show min ((j : Int)).toNat IntKind.u8.bits = j by show min _ 8 = _; omega]
  rw [show (x : Int) / 2 ^ j = ((x / 2 ^ j : Nat) : Int) by rw [show (2 : Int) ^ j = ((2 ^ j : Nat) : Int) by rw [Int.natCast_pow]; rfl]; rfl]
  have := Nat.div_le_self x (2 ^ j)
  obtain ⟨y, hy⟩ : ∃ y, x / 2 ^ j = y := ⟨_, rfl⟩
  rw [hy] at this ⊢
  rw [and1 _ (by omega)]
  rfl
theorem rd_in (l : List Int) (i : Nat) (h : i < l.length) : rd l (i : Int) = l[i] := by
  show l.getD i 0 = _
  rw [List.getD_eq_getElem?_getD, List.getElem?_eq_getElem h]; rfl
theorem wn0 (n : Nat) (h : n ≤ 100) : 0 ≤ IntKind.u64.wrap (n : Int) := by rw [IntKind.wrap_u64]; omega
theorem bits1 (x0 : List Int) (i : Nat) (hi : i < x0.length) (hL : x0.length ≤ 1000000) (x : Nat) (hx : x0[i] = (x : Int)) (hx8 : x ≤ 255) : ∀ (n k : Nat) (out : List Int), n ≤ 8 → out.length + n ≤ 1000000000 → steleref07_bits.l1 (k + n + 1) x0 out (i : Int) ((n : Int) - 1) = steleref07_bits.l0 k x0 (out ++ ci (bits n x)) ((i + 1 : Nat) : Int) := by
  intro n
  induction n with
  | zero =>
    intro k out _ _
    rw [steleref07_bits.l1, if_neg (by omega)]
    rw [show wrap64 ((i : Int) + 1) = ((i + 1 : Nat) : Int) by unfold wrap64; omega]
    show _ = steleref07_bits.l0 k x0 (out ++ []) _
    rw [List.append_nil]
  | succ n ih =>
    intro k out hn ho
    rw [show ((n + 1 : Nat) : Int) - 1 = (n : Int) by omega, show k + (n + 1) + 1 = (k + n + 1) + 1 by omega, steleref07_bits.l1, if_pos (by omega), if_pos (by omega), if_pos (by omega), if_pos (wn0 n (by omega)), if_pos (by omega)]
    rw [rd_in _ _ hi, hx, bit8 x n hx8 (by omega), show wrap64 ((n : Int) - 1) = (n : Int) - 1 by unfold wrap64; omega, ih k _ (by omega) (by rw [List.length_append, List.length_singleton]; omega)]
    rw [List.append_assoc]
    rfl
theorem bits0 (x0 : List Int) (hL : x0.length ≤ 1000000) (hb : ∀ x ∈ x0, 0 ≤ x ∧ x ≤ 255) : ∀ (d i k : Nat) (out : List Int), x0.length - i = d → i ≤ x0.length → out.length ≤ 8 * i → steleref07_bits.l0 (k + 10 * d + 1) x0 out (i : Int) = some (out ++ ci (B8 (x0.drop i))) := by
  intro d
  induction d with
  | zero =>
    intro i k out hd hi _
    rw [steleref07_bits.l0, if_neg (by omega), List.drop_of_length_le (by omega)]
    show some out = some (out ++ [])
    rw [List.append_nil]
  | succ d ih =>
    intro i k out hd hi ho
    have hlt : i < x0.length := by omega
    have hx := hb x0[i] (List.getElem_mem _)
    obtain ⟨x, hxe⟩ := Int.eq_ofNat_of_zero_le hx.1
    rw [show k + 10 * (d + 1) + 1 = ((k + 10 * d + 1) + 8 + 1) + 1 by omega, steleref07_bits.l0, if_pos (by omega)]
    have := bits1 x0 i hlt hL x hxe (by omega) 8 (k + 10 * d + 1) out (Nat.le_refl _) (by omega)
    rw [show (((8 : Nat) : Int) - 1) = 7 from rfl] at this
    rw [this, ih (i + 1) k _ (by omega) (by omega) (by rw [List.length_append, ci_len, bits_len]; omega), List.append_assoc, ← ci_app]
    congr 3
    rw [List.drop_eq_getElem_cons hlt]
    unfold B8
    rw [List.flatMap_cons, hxe]
    rfl
theorem bits_f (l : List Int) (hL : l.length ≤ 1000000) (hb : ∀ x ∈ l, 0 ≤ x ∧ x ≤ 255) (k : Nat) : steleref07_bits.f (k + 10 * l.length + 1) l = some (ci (B8 l)) := by
  unfold steleref07_bits.f
  have := bits0 l hL hb l.length 0 k [] (by omega) (by omega) (by simp)
  rw [show ((0 : Nat) : Int) = 0 from rfl] at this
  rw [this, List.drop_zero]
  rfl
theorem pad0 : ∀ (z k : Nat) (x3 : List Int), z < 5 → (x3.length + z) % 5 = 0 → x3.length + z ≤ 1000000000 → steleref07_Base32.l0 (k + z + 1) x3 = steleref07_Base32.l1 k (x3 ++ List.replicate z 0) [] 0 := by
  intro z
  induction z with
  | zero =>
    intro k x3 _ h hl
    rw [steleref07_Base32.l0, if_pos (by omega)]
    show _ = steleref07_Base32.l1 k (x3 ++ []) [] 0
    rw [List.append_nil]
  | succ z ih =>
    intro k x3 hz h hl
    rw [show k + (z + 1) + 1 = (k + z + 1) + 1 by omega, steleref07_Base32.l0, if_neg (by omega), if_pos (by omega)]
    rw [ih k _ (by omega) (by rw [List.length_append, List.length_singleton]; omega) (by rw [List.length_append, List.length_singleton]; omega), List.append_assoc]
    rfl
theorem sign_f (c : Nat) (h : c < 256) : steleref07_sign.f 40 (c : Int) = some (idx (c : Int)) := by
  have key : ∀ c : Nat, c < 256 → steleref07_sign.f 40 (c : Int) = some (idx (c : Int)) := by decide +kernel
  exact key c h
theorem isB_lt {l : List Nat} (h : isB l) (i : Nat) (hi : i < l.length) : l[i] < 2 := h _ (List.getElem_mem _)
theorem five (l : List Nat) (h : l.length = 5) : num l = l[0] * 16 + l[1] * 8 + l[2] * 4 + l[3] * 2 + l[4] := by
  match l, h with
  | [a, b, c, d, e], _ => simp [num]; omega
theorem ci_get (l : List Nat) (i : Nat) (h : i < l.length) : (ci l)[i]'(by rw [ci_len]; exact h) = (l[i] : Int) := by
  unfold ci; rw [List.getElem_map]
theorem rd_ci (l : List Nat) (i : Nat) (h : i < l.length) : rd (ci l) (i : Int) = (l[i] : Int) := by
  rw [rd_in _ _ (by rw [ci_len]; exact h), ci_get l i h]
def sgI (v : Nat) : Int := ((sg (v : Int)).toNat : Int)
/-- one group of five -/
theorem grp5 (l : List Nat) (hB : isB l) (i : Nat) (h : i + 5 ≤ l.length) : num ((l.drop i).take 5) < 32 ∧ ((((((((((((rd (ci l) (i : Int)) * 16) % 256) + (((rd (ci l) ((i + 1 : Nat) : Int)) * 8) % 256)) % 256) + (((rd (ci l) ((i + 2 : Nat) : Int)) * 4) % 256)) % 256) + (((rd (ci l) ((i + 3 : Nat) : Int)) * 2) % 256)) % 256) + (rd (ci l) ((i + 4 : Nat) : Int))) % 256) = ((num ((l.drop i).take 5) : Nat) : Int)) := by
  have hl : ((l.drop i).take 5).length = 5 := by rw [List.length_take, List.length_drop]; omega
  have hlt := num_lt ((l.drop i).take 5) (fun x hx => hB x (List.mem_of_mem_drop (List.mem_of_mem_take hx)))
  rw [hl] at hlt
  refine ⟨hlt, ?_⟩
  rw [five _ hl, rd_ci l i (by omega), rd_ci l (i + 1) (by omega), rd_ci l (i + 2) (by omega), rd_ci l (i + 3) (by omega), rd_ci l (i + 4) (by omega)]
  have g0 : ((l.drop i).take 5)[0] = l[i]'(by omega) := by rw [List.getElem_take, List.getElem_drop]; rfl
  have g1 : ((l.drop i).take 5)[1] = l[i + 1]'(by omega) := by rw [List.getElem_take, List.getElem_drop]
  have g2 : ((l.drop i).take 5)[2] = l[i + 2]'(by omega) := by rw [List.getElem_take, List.getElem_drop]
  have g3 : ((l.drop i).take 5)[3] = l[i + 3]'(by omega) := by rw [List.getElem_take, List.getElem_drop]
  have g4 : ((l.drop i).take 5)[4] = l[i + 4]'(by omega) := by rw [List.getElem_take, List.getElem_drop]
  rw [g0, g1, g2, g3, g4]
  have b0 := isB_lt hB i (by omega)
  have b1 := isB_lt hB (i + 1) (by omega)
  have b2 := isB_lt hB (i + 2) (by omega)
  have b3 := isB_lt hB (i + 3) (by omega)
  have b4 := isB_lt hB (i + 4) (by omega)
  omega
theorem row_bt (v : Nat) (h : v < 32) : bt (⟨#[65, 66, 67, 68, 69, 70, 71, 72, 73, 74, 75, 76, 77, 78, 79, 80, 81, 82, 83, 84, 85, 86, 87, 88, 89, 90, 50, 51, 52, 53, 54, 55]⟩ : ByteArray) (v : Int) = sgI v := sg_at (v : Int) (Int.natCast_nonneg _) (Int.ofNat_lt.2 h)
theorem rows5 (D : List Nat) (hB : isB D) (hL : D.length ≤ 1000000000) : ∀ (d i k : Nat) (out : List Int), D.length = i + 5 * d → out.length ≤ i → steleref07_Base32.l1 (k + d + 1) (ci D) out (i : Int) = some (strOfNums (out ++ (vals 4 (D.drop i)).1.map sgI)) := by
  intro d
  induction d with
  | zero =>
    intro i k out hd ho
    rw [steleref07_Base32.l1, if_neg (by rw [ci_len]; omega), List.drop_of_length_le (by omega), vals_lt (by decide)]
    show _ = some (strOfNums (out ++ []))
    rw [List.append_nil]
  | succ d ih =>
    intro i k out hd ho
    have hlen := ci_len D
    have a1 : (i : Int) < ((ci D).length : Int) := by omega
    have a2 : (0 : Int) ≤ (i : Int) := by omega
    have b1 : ((i + 1 : Nat) : Int) < ((ci D).length : Int) := by omega
    have b2 : ((i + 2 : Nat) : Int) < ((ci D).length : Int) := by omega
    have b3 : ((i + 3 : Nat) : Int) < ((ci D).length : Int) := by omega
    have b4 : ((i + 4 : Nat) : Int) < ((ci D).length : Int) := by omega
    have o1 : out.length < 140737488355328 := by omega
    have w1 : wrap64 ((i : Int) + 1) = ((i + 1 : Nat) : Int) := by unfold wrap64; omega
    have w2 : wrap64 ((i : Int) + 2) = ((i + 2 : Nat) : Int) := by unfold wrap64; omega
    have w3 : wrap64 ((i : Int) + 3) = ((i + 3 : Nat) : Int) := by unfold wrap64; omega
    have w4 : wrap64 ((i : Int) + 4) = ((i + 4 : Nat) : Int) := by unfold wrap64; omega
    have w5 : wrap64 ((i : Int) + 5) = ((i + 5 : Nat) : Int) := by unfold wrap64; omega
    have hd5 : D.length = i + 5 + 5 * d := by omega
    have hol : (out ++ [sgI (num ((D.drop i).take 5))]).length ≤ i + 5 := by rw [List.length_append, List.length_singleton]; omega
    have hv : vals 4 (D.drop i) = (num ((D.drop i).take 5) :: (vals 4 (D.drop (i + 5))).1, (vals 4 (D.drop (i + 5))).2) := by
      rw [vals_ge (g := 4) (l := D.drop i) (by rw [List.length_drop]; omega), List.drop_drop]
    have hi5 : i + 5 ≤ D.length := by omega
    have hih := ih (i + 5) k _ hd5 hol
    clear ih hd hL ho hlen
    obtain ⟨h32, hg⟩ := grp5 D hB i hi5
    obtain ⟨v, hve⟩ : ∃ v, num ((D.drop i).take 5) = v := ⟨_, rfl⟩
    rw [hve] at h32 hg hv hih
    have hbt := row_bt v h32
    have v0 : (0 : Int) ≤ (v : Int) := Int.natCast_nonneg _
    have v1 : (v : Int) < 32 := Int.ofNat_lt.2 h32
    rw [show k + (d + 1) + 1 = (k + d + 1) + 1 from rfl, steleref07_Base32.l1, w1, w2, w3, w4, w5, hg]
    rw [if_pos a1, if_pos a2, if_pos (Int.natCast_nonneg _), if_pos b1, if_pos (Int.natCast_nonneg _), if_pos b2, if_pos (Int.natCast_nonneg _), if_pos b3, if_pos (Int.natCast_nonneg _), if_pos b4, if_pos v0, if_pos v1, if_pos o1, hbt, hih, hv, List.append_assoc]
    rfl
theorem str_map (l : List UInt8) : strOfNums (l.map fun b => (b.toNat : Int)) = ⟨l.toArray⟩ := by
  unfold strOfNums
  rw [List.map_map]
  congr 2
  conv => rhs; rw [← List.map_id l]
  apply List.map_congr_left
  intro b _
  show UInt8.ofNat ((b.toNat : Int)).toNat = b
  rw [Int.toNat_natCast]
  exact UInt8.ofNat_toNat
theorem B8_len (l : List Int) : (B8 l).length = 8 * l.length := by
  unfold B8
  induction l with
  | nil => rfl
  | cons a l ih => rw [List.flatMap_cons, List.length_append, bits_len, ih, List.length_cons]; omega
theorem r_b32 (l : List Int) (hL : l.length ≤ 100000) (hb : ∀ x ∈ l, 0 ≤ x ∧ x ≤ 255) (k : Nat) (hk : 2000000 ≤ k) : steleref07_Base32.f k l = some ⟨(b32 l).toArray⟩ := by
  obtain ⟨j, rfl⟩ : ∃ j, k = j + 10 * l.length + 1 := ⟨k - 10 * l.length - 1, by omega⟩
  unfold steleref07_Base32.f
  rw [bits_f l (by omega) hb j, Option.bind_some]
  obtain ⟨h1, h2⟩ := b32_vals l hb
  have hZ := Z_len l
  have hB := B8_len l
  have hD : isB (B8 l ++ Z l) := isB_app (B8_isB l) (Z_isB l)
  have hmod : (B8 l ++ Z l).length % 5 = 0 := by
    obtain ⟨v1, _⟩ := vals_back 4 _ (B8 l ++ Z l) rfl hD
    rw [h2, List.append_nil] at v1
    rw [← v1]
    have : ∀ V : List Nat, (V.flatMap (bits (4 + 1))).length = 5 * V.length := by
      intro V
      induction V with
      | nil => rfl
      | cons a V ih => rw [List.flatMap_cons, List.length_append, bits_len, ih, List.length_cons]; omega
    rw [this]
    omega
  have hzr : ci (Z l) = List.replicate (Z l).length 0 := by
    unfold ci Z
    split
    · rfl
    · rw [List.map_replicate, List.length_replicate]; rfl
  have hlen : (B8 l ++ Z l).length = 8 * l.length + (Z l).length := by rw [List.length_append, hB]
  obtain ⟨d, hd⟩ : ∃ d, (B8 l ++ Z l).length = 5 * d := ⟨(B8 l ++ Z l).length / 5, by omega⟩
  obtain ⟨m, hm⟩ : ∃ m, j + 10 * l.length + 1 = (m + d + 1) + (Z l).length + 1 := ⟨j + 10 * l.length - d - 1 - (Z l).length, by omega⟩
  rw [hm, pad0 (Z l).length (m + d + 1) (ci (B8 l)) hZ (by rw [ci_len, hB]; omega) (by rw [ci_len, hB]; omega), ← hzr, ← ci_app]
  have := rows5 (B8 l ++ Z l) hD (by omega) d 0 m [] (by omega) (by simp)
  rw [show ((0 : Nat) : Int) = 0 from rfl] at this
  rw [this, List.drop_zero, List.nil_append, h1, ← str_map, List.map_map]
  rfl
end Go.Proofs.Ytlnpmodhejakiaa.T
