/- Plain laws on the printed Unhex and Hex, the program's and the document's. -/
import Derived.Test.YtpopampcfgpojaaPHx3
import Derived.Laws.BitsAllLaws
namespace Go.Proofs.Ytpopampcfgpojaa.HexL
open Go.RowKit Go.Proofs.YtpopampcfgpojaaW.PrintWords Go.Proofs.YtpopampcfgpojaaW.PrintLast Go.Proofs.YtpopampcfgpojaaW.PrintMore Go.Proofs.Ytpopampcfgpojaa.PH Go.Proofs.Ytpopampcfgpojaa.PG
set_option linter.unusedVariables false
set_option linter.unusedSimpArgs false

theorem u8_ok {n : Int} (h : (Lit.int .u8 n).wf = true) : 0 ≤ n ∧ n < 256 := by have := h; simp [Lit.wf, IntKind.min, IntKind.max, IntKind.signed, IntKind.bits] at this; omega
theorem wrap_nat (i : Nat) (h : i < 9223372036854775807) : wrap64 ((i : Int) + 1) = ((i + 1 : Nat) : Int) := by unfold wrap64; omega
theorem drop_rd (a : List Int) (i : Nat) (h : i < a.length) : a.drop i = rd a (i : Int) :: a.drop (i + 1) := by
  unfold rd
  rw [Int.toNat_natCast, List.getD_eq_getElem?_getD, List.getElem?_eq_getElem h, Option.getD_some]
  exact List.drop_eq_getElem_cons h
/-- steleref01.Same tells whether two lists of bytes are one. -/
theorem rsame_loop (a b : List Int) (hl : a.length = b.length) (hn : a.length < 9223372036854775807) : ∀ (d k i : Nat), i + d = a.length → d < k → steleref01_Same.l0 k a b (i : Int) = some (a.drop i == b.drop i) := by
  intro d
  induction d with
  | zero =>
    intro k i hi hk
    obtain ⟨k, rfl⟩ : ∃ m, k = m + 1 := ⟨k - 1, by omega⟩
    simp only [steleref01_Same.l0]
    rw [if_neg (by omega), List.drop_of_length_le (by omega), List.drop_of_length_le (by omega)]; rfl
  | succ d ih =>
    intro k i hi hk
    obtain ⟨k, rfl⟩ : ∃ m, k = m + 1 := ⟨k - 1, by omega⟩
    simp only [steleref01_Same.l0]
    rw [if_pos (by omega), if_pos (by omega), if_pos (by omega), wrap_nat i (by omega), ih k (i + 1) (by omega) (by omega), drop_rd a i (by omega), drop_rd b i (by omega)]
    by_cases e : rd a (i : Int) = rd b (i : Int)
    · rw [if_pos e, e]; simp
    · rw [if_neg e]; simp [e]
theorem rsame (a b : List Int) (hn : a.length < 9223372036854775807) (k : Nat) (hk : a.length < k) : steleref01_Same.f k a b = some (a == b) := by
  unfold steleref01_Same.f
  by_cases e : a.length = b.length
  · rw [if_pos (by omega)]
    have := rsame_loop a b e hn a.length k 0 (by omega) hk
    simpa using this
  · rw [if_neg (by omega)]
    have : a ≠ b := fun h => e (by rw [h])
    simp [this]
theorem wrap_id {n : Int} (h0 : -9223372036854775808 ≤ n) (h1 : n ≤ 9223372036854775807) : wrap64 n = n := by unfold wrap64; omega
/-- the value of a digit; 16: it is none -/
def dv (c : Int) : Int := if 48 ≤ c ∧ c ≤ 57 then c - 48 else if 97 ≤ c ∧ c ≤ 102 then c - 87 else 16
theorem dv_bd (c : Int) : 0 ≤ dv c ∧ dv c ≤ 16 := by unfold dv; split <;> (try split) <;> omega
theorem idx_all : ∀ c : Fin 256, Lib.indexByte digs.data.toList c.val.toUInt8 = if dv (c.val : Int) < 16 then dv (c.val : Int) else -1 := by decide +kernel
theorem idx (c : Int) (h0 : 0 ≤ c) (h1 : c ≤ 255) : Lib.indexByte digs.data.toList c.toNat.toUInt8 = if dv c < 16 then dv c else -1 := by
  have := idx_all ⟨c.toNat, by omega⟩
  have e : ((c.toNat : Nat) : Int) = c := by omega
  simpa only [e] using this
theorem ixf (c : Int) (h0 : 0 ≤ c) (h1 : c ≤ 255) : strings_IndexByte.f (⟨#[48, 49, 50, 51, 52, 53, 54, 55, 56, 57, 97, 98, 99, 100, 101, 102]⟩ : ByteArray) c = some (if dv c < 16 then dv c else -1) := by
  unfold strings_IndexByte.f
  exact congrArg some (idx c h0 h1)
theorem rdigit (c : Int) (h0 : 0 ≤ c) (h1 : c ≤ 255) (k : Nat) (hk : 1 < k) : steleref01_digit.f k c = some (dv c) := by
  obtain ⟨k, rfl⟩ : ∃ m, k = m + 1 := ⟨k - 1, by omega⟩
  unfold steleref01_digit.f dv
  by_cases a : c ≥ 48
  · rw [if_pos a]
    by_cases b : c ≤ 57
    · rw [decide_eq_true b]
      simp only [steleref01_digit.j0, if_true]
      rw [if_pos ⟨a, b⟩]
      congr 1; omega
    · rw [decide_eq_false b]
      simp only [steleref01_digit.j0, Bool.false_eq_true, if_false]
      rw [if_neg (by omega : ¬ (48 ≤ c ∧ c ≤ 57))]
      by_cases d : c ≥ 97
      · rw [if_pos d]
        by_cases e : c ≤ 102
        · rw [if_pos e, if_pos ⟨d, e⟩]; congr 1; omega
        · rw [if_neg e, if_neg (by omega)]
      · rw [if_neg d, if_neg (by omega)]
  · rw [if_neg a]
    simp only [steleref01_digit.j0, Bool.false_eq_true, if_false]
    rw [if_neg (by omega), if_neg (by omega), if_neg (by omega)]
theorem or_all : ∀ a b : Fin 16, Go.bits .or .i64 ((a.val : Int) * 16) (b.val : Int) = (a.val : Int) * 16 + (b.val : Int) := by decide +kernel
theorem or_eq (a b : Int) (a0 : 0 ≤ a) (a1 : a < 16) (b0 : 0 ≤ b) (b1 : b < 16) : Go.bits .or .i64 (a * 16) b = a * 16 + b := by
  have := or_all ⟨a.toNat, by omega⟩ ⟨b.toNat, by omega⟩
  have e : ((a.toNat : Nat) : Int) = a := by omega
  have f : ((b.toNat : Nat) : Int) = b := by omega
  simpa only [e, f] using this
/-- what Unhex reads of n pairs from place i on -/
def U (s : ByteArray) : Nat → Nat → List Int → List Int × Int
  | 0, _, acc => (acc, 0)
  | n + 1, i, acc => if dv (bt s (i : Int)) > 15 ∨ dv (bt s ((i + 1 : Nat) : Int)) > 15 then ([], 4) else U s n (i + 2) (acc ++ [dv (bt s (i : Int)) * 16 + dv (bt s ((i + 1 : Nat) : Int))])
theorem unhex_loop (s : ByteArray) (hs : s.size ≤ 140737488351232) : ∀ (n k i : Nat) (acc : List Int), i + 2 * n = s.size → n < k → acc.length + n ≤ 140737488351232 → digest_Unhex.l0 k s acc (i : Int) = some (U s n i acc) := by
  intro n
  induction n with
  | zero =>
    intro k i acc h hk hl
    obtain ⟨k, rfl⟩ : ∃ m, k = m + 1 := ⟨k - 1, by omega⟩
    simp only [digest_Unhex.l0, U]
    rw [if_neg (by omega)]
  | succ n ih =>
    intro k i acc h hk hl
    obtain ⟨k, rfl⟩ : ∃ m, k = m + 1 := ⟨k - 1, by omega⟩
    have ba := bt_range s (i : Int)
    have bb := bt_range s ((i + 1 : Nat) : Int)
    simp only [digest_Unhex.l0, U]
    have e1 : wrap64 ((i : Int) + 1) = ((i + 1 : Nat) : Int) := by rw [wrap_id (by omega) (by omega)]; omega
    have e2 : wrap64 ((i : Int) + 2) = ((i + 2 : Nat) : Int) := by rw [wrap_id (by omega) (by omega)]; omega
    rw [e1, e2, if_pos (by omega), if_pos (by omega), ixf _ ba.1 ba.2, ixf _ bb.1 bb.2]
    simp only [Option.bind_some]
    rw [if_pos (by omega), if_pos (by omega)]
    have da := dv_bd (bt s (i : Int))
    have db := dv_bd (bt s ((i + 1 : Nat) : Int))
    by_cases ca : dv (bt s (i : Int)) < 16
    · rw [if_pos ca, if_neg (by omega)]
      by_cases cb : dv (bt s ((i + 1 : Nat) : Int)) < 16
      · rw [if_pos cb, if_neg (by omega), if_pos (by omega), if_neg (by omega), wrap_id (by omega) (by omega), or_eq _ _ da.1 ca db.1 cb]
        rw [Int.emod_eq_of_lt (by omega) (by omega)]
        exact ih k (i + 2) _ (by omega) (by omega) (by simp; omega)
      · rw [if_neg cb, if_pos (by omega), if_pos (by omega)]
    · rw [if_neg ca, if_pos (by omega), if_pos (by omega)]
theorem unhex_eq (s : ByteArray) (hs : s.size ≤ 140737488351232) (k : Nat) (hk : s.size < k) : digest_Unhex.f k s = some (if s.size % 2 = 0 then U s (s.size / 2) 0 [] else ([], 4)) := by
  unfold digest_Unhex.f
  by_cases c : s.size % 2 = 0
  · rw [if_pos (by omega), if_pos c]
    have := unhex_loop s hs (s.size / 2) k 0 [] (by omega) (by omega) (by simp; omega)
    rw [Int.natCast_zero] at this
    exact this
  · rw [if_neg (by omega), if_neg c]
theorem runhex_loop (s : ByteArray) (hs : s.size ≤ 140737488351232) : ∀ (n k i : Nat) (acc : List Int), i + 2 * n = s.size → 2 * n + 5 < k → acc.length + n ≤ 140737488351232 → steleref01_Unhex.l0 k s acc (i : Int) = some (U s n i acc) := by
  intro n
  induction n with
  | zero =>
    intro k i acc h hk hl
    obtain ⟨k, rfl⟩ : ∃ m, k = m + 1 := ⟨k - 1, by omega⟩
    simp only [steleref01_Unhex.l0, U]
    rw [if_neg (by omega)]
  | succ n ih =>
    intro k i acc h hk hl
    obtain ⟨k, rfl⟩ : ∃ m, k = m + 2 := ⟨k - 2, by omega⟩
    have ba := bt_range s (i : Int)
    have bb := bt_range s ((i + 1 : Nat) : Int)
    have e1 : wrap64 ((i : Int) + 1) = ((i + 1 : Nat) : Int) := by rw [wrap_id (by omega) (by omega)]; omega
    have e2 : wrap64 ((i : Int) + 2) = ((i + 2 : Nat) : Int) := by rw [wrap_id (by omega) (by omega)]; omega
    have da := dv_bd (bt s (i : Int))
    have db := dv_bd (bt s ((i + 1 : Nat) : Int))
    show steleref01_Unhex.l0 (k + 1 + 1) s acc (i : Int) = _
    simp only [steleref01_Unhex.l0, U]
    rw [e1, if_pos (by omega), if_pos (by omega), rdigit _ ba.1 ba.2 _ (by omega), rdigit _ bb.1 bb.2 _ (by omega)]
    simp only [Option.bind_some]
    by_cases ca : dv (bt s (i : Int)) > 15
    · rw [if_pos ca, if_pos (.inl ca)]
      simp only [steleref01_Unhex.j1, if_true]
    · rw [if_neg ca, if_pos (by omega), if_pos (by omega)]
      by_cases cb : dv (bt s ((i + 1 : Nat) : Int)) > 15
      · rw [decide_eq_true cb, if_pos (.inr cb)]
        simp only [steleref01_Unhex.j1, if_true]
      · rw [decide_eq_false cb, if_neg (by omega)]
        simp only [steleref01_Unhex.j1, Bool.false_eq_true, if_false]
        rw [e1, e2, if_pos (by omega), if_pos (by omega), rdigit _ ba.1 ba.2 _ (by omega), rdigit _ bb.1 bb.2 _ (by omega)]
        simp only [Option.bind_some]
        rw [if_pos (by omega), if_pos (by omega), if_pos (by omega), wrap_id (n := dv (bt s (i : Int)) * 16) (by omega) (by omega), wrap_id (by omega) (by omega), Int.emod_eq_of_lt (by omega) (by omega)]
        exact ih k (i + 2) _ (by omega) (by omega) (by simp; omega)
theorem runhex_eq (s : ByteArray) (hs : s.size ≤ 140737488351232) (k : Nat) (hk : s.size + 5 < k) : steleref01_Unhex.f k s = some (if s.size % 2 = 0 then U s (s.size / 2) 0 [] else ([], 4)) := by
  unfold steleref01_Unhex.f
  by_cases c : s.size % 2 = 0
  · rw [if_pos (by omega), if_pos c]
    have := runhex_loop s hs (s.size / 2) k 0 [] (by omega) (by omega) (by simp; omega)
    rw [Int.natCast_zero] at this
    exact this
  · rw [if_neg (by omega), if_neg c]
def num (l : List UInt8) : List Int := l.map fun c => (c.toNat : Int)
theorem son (l : List UInt8) : strOfNums (num l) = ⟨l.toArray⟩ := by
  unfold strOfNums num
  rw [List.map_map]
  have : ((fun n : Int => UInt8.ofNat n.toNat) ∘ fun c : UInt8 => (c.toNat : Int)) = id := by funext c; simp
  rw [this, List.map_id]
theorem rhex_loop (l : List Int) (hl : l.length ≤ 1048576) (hb : ∀ x ∈ l, 0 ≤ x ∧ x ≤ 255) : ∀ (d k i : Nat) (acc : List UInt8), i + d = l.length → d < k → acc.length = 2 * i →
    steleref01_Hex.l0 k l digs (num acc) (i : Int) = some ⟨(acc ++ hexL (l.drop i)).toArray⟩ := by
  intro d
  induction d with
  | zero =>
    intro k i acc h hk ha
    obtain ⟨k, rfl⟩ : ∃ m, k = m + 1 := ⟨k - 1, by omega⟩
    simp only [steleref01_Hex.l0]
    rw [if_neg (by omega), son, List.drop_of_length_le (by omega)]
    simp [hexL]
  | succ d ih =>
    intro k i acc h hk ha
    obtain ⟨k, rfl⟩ : ∃ m, k = m + 1 := ⟨k - 1, by omega⟩
    simp only [steleref01_Hex.l0]
    have hi : i < l.length := by omega
    have hx : 0 ≤ rd l (i : Int) ∧ rd l (i : Int) ≤ 255 := by
      unfold rd
      rw [Int.toNat_natCast, List.getD_eq_getElem?_getD, List.getElem?_eq_getElem hi, Option.getD_some]
      exact hb _ (List.getElem_mem _)
    have hsz : (digs.size : Int) = 16 := rfl
    rw [drop_rd l i hi]
    generalize rd l (i : Int) = x at hx ⊢
    have e1 : Int.tdiv x 16 % 256 = x / 16 := by rw [Int.tdiv_eq_ediv_of_nonneg hx.1]; omega
    have e2 : Int.tmod x 16 = x % 16 := Int.tmod_eq_emod_of_nonneg hx.1
    rw [e1, e2, hsz, if_pos (by omega), if_pos (by omega), if_pos (by omega), if_pos (by omega), if_pos (by omega), if_pos (by omega)]
    simp only [Option.bind_some]
    rw [hx_at _ (by omega) (by omega), hx_at _ (by omega) (by omega)]
    have e3 : num acc ++ [((PG.hx (x / 16)).toNat : Int), ((PG.hx (x % 16)).toNat : Int)] = num (acc ++ hex1 x) := by simp [num, hex1]
    rw [e3, if_pos (by simp [num]; omega), wrap_nat i (by omega), ih k (i + 1) _ (by omega) (by omega) (by simp [hex1]; omega)]
    congr 3
    simp [hexL, List.flatMap_cons]
theorem rhex_eq (l : List Int) (hl : l.length ≤ 1048576) (hb : ∀ x ∈ l, 0 ≤ x ∧ x ≤ 255) (k : Nat) (hk : l.length < k) : steleref01_Hex.f k l = some ⟨(hexL l).toArray⟩ := by
  have := rhex_loop l hl hb l.length k 0 [] (by omega) hk rfl
  rw [Int.natCast_zero, List.drop_zero, List.nil_append] at this
  unfold steleref01_Hex.f
  exact this
theorem hex_eq (l : List Int) (hl : l.length ≤ 1048576) (hb : ∀ x ∈ l, 0 ≤ x ∧ x ≤ 255) : digest_Hex.f l = some ⟨(hexL l).toArray⟩ := by
  unfold digest_Hex.f
  rw [if_pos ⟨by omega, hb⟩]
theorem sum_ones (l : List Int) : (l.map (fun y => 1)).sum = l.length := by
  induction l with
  | nil => rfl
  | cons a l ih => simp at *; omega
theorem U_bd (s : ByteArray) : ∀ (n i : Nat) (acc : List Int), (∀ x ∈ acc, 0 ≤ x ∧ x ≤ 255) → (∀ x ∈ (U s n i acc).1, 0 ≤ x ∧ x ≤ 255) ∧ (U s n i acc).1.length ≤ acc.length + n := by
  intro n
  induction n with
  | zero => intro i acc h; exact ⟨h, Nat.le_refl _⟩
  | succ n ih =>
    intro i acc h
    simp only [U]
    by_cases c : dv (bt s (i : Int)) > 15 ∨ dv (bt s ((i + 1 : Nat) : Int)) > 15
    · rw [if_pos c]; exact ⟨by simp, by simp⟩
    · rw [if_neg c]
      have da := dv_bd (bt s (i : Int))
      have db := dv_bd (bt s ((i + 1 : Nat) : Int))
      obtain ⟨q1, q2⟩ := ih (i + 2) (acc ++ [dv (bt s (i : Int)) * 16 + dv (bt s ((i + 1 : Nat) : Int))]) (by
        intro x hx
        rcases List.mem_append.1 hx with hx | hx
        · exact h x hx
        · simp only [List.mem_singleton] at hx; subst hx; omega)
      exact ⟨q1, by rw [List.length_append] at q2; simp only [List.length_cons, List.length_nil] at q2; omega⟩
theorem toL (l : List UInt8) : (⟨l.toArray⟩ : ByteArray).toList = l := by
  rw [ByteArray.toList_eq]
end Go.Proofs.Ytpopampcfgpojaa.HexL
