/- totp.Base32 by hand. -/
import Derived.Test.YtlnpmodhejakiaaPTx0
import Derived.Test.YtlnpmodhejakiaaBuilder
namespace Go.Proofs.Ytlnpmodhejakiaa.T
open Go.RowKit Go.Proofs.YtlnpmodhejakiaaW.PrintWords Go.Proofs.YtlnpmodhejakiaaW.PrintLast Go.Proofs.YtlnpmodhejakiaaW.PrintMore
set_option linter.unusedVariables false
set_option linter.unusedSimpArgs false
theorem cells_snoc (l : List UInt8) (c : UInt8) : Lib.byteCells l ++ [Value.int .u8 (c.toNat : Int)] = Lib.byteCells (l ++ [c]) := by
  simp [Lib.byteCells]
def sgs : ByteArray := ⟨#[65, 66, 67, 68, 69, 70, 71, 72, 73, 74, 75, 76, 77, 78, 79, 80, 81, 82, 83, 84, 85, 86, 87, 88, 89, 90, 50, 51, 52, 53, 54, 55]⟩
/-- the sign of a number below 32 -/
def sg (n : Int) : UInt8 := if n < 26 then UInt8.ofNat (65 + n).toNat else UInt8.ofNat (24 + n).toNat
theorem sg_at (n : Int) (h0 : 0 ≤ n) (h1 : n < 32) : bt sgs n = ((sg n).toNat : Int) := by
  obtain ⟨m, rfl⟩ := Int.eq_ofNat_of_zero_le h0
  have h : m < 32 := by omega
  have key : ∀ m : Nat, m < 32 → bt sgs (m : Int) = ((sg (m : Int)).toNat : Int) := by decide +kernel
  exact key m h
/-- what goes out of so many bits -/
def em (b : Int) (m : Nat) : List UInt8 × Nat :=
  if h : m < 5 then ([], m) else (sg (b / 2 ^ (m - 5) % 32) :: (em b (m - 5)).1, (em b (m - 5)).2)
termination_by m
theorem em_lt (b : Int) (m : Nat) (h : m < 5) : em b m = ([], m) := by rw [em, dif_pos h]
theorem em_ge (b : Int) (m : Nat) (h : ¬ m < 5) : em b m = (sg (b / 2 ^ (m - 5) % 32) :: (em b (m - 5)).1, (em b (m - 5)).2) := by rw [em, dif_neg h]
def next (s : List UInt8 × Int × Nat) (x : Int) : List UInt8 × Int × Nat :=
  (s.1 ++ (em ((s.2.1 * 256 + x) % 4294967296) (s.2.2 + 8)).1, (s.2.1 * 256 + x) % 4294967296, (em ((s.2.1 * 256 + x) % 4294967296) (s.2.2 + 8)).2)
def run (l : List Int) : List UInt8 × Int × Nat := l.foldl next ([], 0, 0)
def b32 (l : List Int) : List UInt8 := (run l).1 ++ (if 0 < (run l).2.2 then [sg ((run l).2.1 * 2 ^ (5 - (run l).2.2) % 32)] else [])
theorem sg_get (n : Int) (h0 : 0 ≤ n) (h1 : n < 32) (h : n.toNat < (⟨#[65, 66, 67, 68, 69, 70, 71, 72, 73, 74, 75, 76, 77, 78, 79, 80, 81, 82, 83, 84, 85, 86, 87, 88, 89, 90, 50, 51, 52, 53, 54, 55]⟩ : ByteArray).size) :
    (((⟨#[65, 66, 67, 68, 69, 70, 71, 72, 73, 74, 75, 76, 77, 78, 79, 80, 81, 82, 83, 84, 85, 86, 87, 88, 89, 90, 50, 51, 52, 53, 54, 55]⟩ : ByteArray)[n.toNat]'h).toNat : Int) = ((sg n).toNat : Int) := (bt_at sgs n h).trans (sg_at n h0 h1)
theorem em_len (b : Int) : ∀ m : Nat, (em b m).1.length ≤ m := by
  intro m
  induction m using Nat.strongRecOn with
  | _ m ih =>
    by_cases h : m < 5
    · rw [em_lt b m h]; simp
    · rw [em_ge b m h]; have := ih (m - 5) (by omega); simp only [List.length_cons]; omega
theorem em_snd (b : Int) : ∀ m : Nat, (em b m).2 < 5 := by
  intro m
  induction m using Nat.strongRecOn with
  | _ m ih =>
    by_cases h : m < 5
    · rw [em_lt b m h]; exact h
    · rw [em_ge b m h]; exact ih (m - 5) (by omega)
theorem run_snoc (l : List Int) (x : Int) : run (l ++ [x]) = next (run l) x := by unfold run; rw [List.foldl_append]; rfl
theorem run_go (l : List Int) : ∀ s : List UInt8 × Int × Nat, s.2.2 < 5 → 0 ≤ s.2.1 → s.2.1 < 4294967296 → (l.foldl next s).2.2 < 5 ∧ 0 ≤ (l.foldl next s).2.1 ∧ (l.foldl next s).2.1 < 4294967296 ∧ (l.foldl next s).1.length ≤ s.1.length + 13 * l.length := by
  induction l with
  | nil => intro s h0 h1 h2; exact ⟨h0, h1, h2, Nat.le_refl _⟩
  | cons x l ih =>
    intro s h0 h1 h2
    rw [List.foldl_cons]
    obtain ⟨k0, k1, k2, k3⟩ := ih (next s x) (em_snd _ _) (Int.emod_nonneg _ (by decide)) (Int.emod_lt_of_pos _ (by decide))
    refine ⟨k0, k1, k2, Nat.le_trans k3 ?_⟩
    have := em_len ((s.2.1 * 256 + x) % 4294967296) (s.2.2 + 8)
    unfold next
    simp only [List.length_append, List.length_cons]
    omega
theorem run_bd (l : List Int) : (run l).2.2 < 5 ∧ 0 ≤ (run l).2.1 ∧ (run l).2.1 < 4294967296 ∧ (run l).1.length ≤ 13 * l.length := by
  have := run_go l ([], 0, 0) (by decide) (by decide) (by decide)
  unfold run
  simpa using this
theorem or32 (b x : Int) (hx : 0 ≤ x ∧ x ≤ 255) (hb : 0 ≤ b) : bits .or .u32 (b * 256 % 4294967296) x = (b * 256 + x) % 4294967296 := by
  have e1 : b * 256 % 4294967296 = (b % 16777216) * 256 := by omega
  have e2 : (b * 256 + x) % 4294967296 = (b % 16777216) * 256 + x := by omega
  rw [e1, e2]
  have h0 : 0 ≤ b % 16777216 := Int.emod_nonneg _ (by decide)
  have h1 : b % 16777216 < 16777216 := Int.emod_lt_of_pos _ (by decide)
  obtain ⟨n, hn⟩ := Int.eq_ofNat_of_zero_le h0
  obtain ⟨m, rfl⟩ := Int.eq_ofNat_of_zero_le hx.1
  rw [hn] at h1 ⊢
  unfold bits
  show IntKind.u32.wrap ((BitVec.ofInt 32 ((n : Int) * 256) ||| BitVec.ofInt 32 (m : Int)).toNat : Int) = _
  rw [BitVec.toNat_or, show ((n : Int) * 256) = ((n * 256 : Nat) : Int) by omega, BitVec.ofInt_natCast, BitVec.ofInt_natCast, BitVec.toNat_ofNat, BitVec.toNat_ofNat, Nat.mod_eq_of_lt (by omega), Nat.mod_eq_of_lt (by omega)]
  have := Nat.shiftLeft_add_eq_or_of_lt (show m < 2 ^ 8 by omega) n
  rw [show n <<< 8 = n * 256 by rw [Nat.shiftLeft_eq]] at this
  rw [← this, IntKind.wrap_u32]
  omega
theorem and31 (n : Int) (h0 : 0 ≤ n) (h1 : n < 4294967296) : bits .and .u32 n 31 = n % 32 := by
  obtain ⟨m, rfl⟩ := Int.eq_ofNat_of_zero_le h0
  unfold bits
  show IntKind.u32.wrap ((BitVec.ofInt 32 (m : Int) &&& BitVec.ofInt 32 ((31 : Nat) : Int)).toNat : Int) = _
  rw [BitVec.toNat_and, BitVec.ofInt_natCast, BitVec.ofInt_natCast, BitVec.toNat_ofNat, BitVec.toNat_ofNat, Nat.mod_eq_of_lt (by omega), Nat.mod_eq_of_lt (by decide)]
  have := Nat.and_two_pow_sub_one_eq_mod m 5
  rw [show 2 ^ 5 - 1 = 31 from rfl] at this
  rw [this, IntKind.wrap_u32]
  omega
theorem shr32 (b : Int) (m : Nat) (hm : m ≤ 31) : shr .u32 b (IntKind.u64.wrap (m : Int)) = b / 2 ^ m := by
  have e : IntKind.u64.wrap (m : Int) = (m : Int) := by rw [IntKind.wrap_u64]; omega
  rw [e]
  unfold shr
  rw [show min ((m : Int)).toNat IntKind.u32.bits = m by show min _ 32 = _; omega]
theorem div_bd (b : Int) (m : Nat) (h0 : 0 ≤ b) (h1 : b < 4294967296) : 0 ≤ b / 2 ^ m ∧ b / 2 ^ m < 4294967296 := by
  have hp : (0 : Int) < 2 ^ m := Int.pow_pos (by decide)
  refine ⟨Int.ediv_nonneg h0 (by omega), ?_⟩
  have := Int.ediv_le_self (2 ^ m) h0
  omega
set_option maxHeartbeats 4000000 in
set_option maxRecDepth 100000 in
theorem b32_any (A0 : Option Addr) (c0 : Nat) (l0 : List Int) (w : World) (hr0 : Kd.C (Kd.int .u8) w A0 l0.length l0) (hc0 : l0.length ≤ c0) (hh : l0.length ≤ 1000000000000 ∧ ∀ x ∈ l0, 0 ≤ x ∧ x ≤ 255) :
    Calls Try.prog 71 #[.slice A0 l0.length c0] w fun e w' => e = .returned (.string ⟨(b32 l0).toArray⟩) ∧ Below w.heap.size w w' := by
  have hlen := hh.1
  have HX := Aside0.mk hh.2
  have HR := Aside0.mk hr0
  clear hr0 hh
  have hu := Try.underlying167
  go_enter Try.func71, Try.ntmps71
  go_wp2
  go_loopw [4, 5, 10] (fun v4 v5 v10 wr => ∃ k : Nat, k ≤ l0.length ∧ v10 = .int .i64 k ∧ v4 = .int .u32 (run (l0.take k)).2.1 ∧ v5 = .int .i64 ((run (l0.take k)).2.2 : Int) ∧ Aside0 (Lib.IsBuilder 167 5 w.heap.size w.heap.size (Lib.byteCells (run (l0.take k)).1) wr) ∧ Aside0 (Below w.heap.size w wr)) (fun _ _ v _ => l0.length - (intOf v).toNat)
  case atStart =>
    refine ⟨0, Nat.zero_le _, rfl, rfl, rfl, ⟨?_⟩, ⟨(Below.refl _ _).alloc (Nat.le_refl _) _⟩⟩
    exact Lib.fresh_isBuilder 167 5 w
  case round =>
    obtain ⟨k, hk, rfl, rfl, rfl, hI, hBl⟩ := hrel
    obtain ⟨hm5, hb0, hb1, hol⟩ := run_bd (l0.take k)
    have hol' : (run (l0.take k)).1.length ≤ 13 * k := by rw [List.length_take] at hol; exact Nat.le_trans hol (Nat.mul_le_mul_left _ (Nat.min_le_left _ _))
    clear hol
    by_cases hlt : k < l0.length
    · obtain ⟨ad, he, hcell⟩ := Kd.at_int HR.out (k : Int) (by omega) (by omega)
      cases he
      have c0 := (hBl.out.cell (World.block_lt_of_cell? w _ hcell)).trans hcell
      simp only [Int.toNat_natCast] at c0
      have erd : rd l0 (k : Int) = l0.getD k 0 := by simp [rd]
      have hx := HX.out (l0.getD k 0) (by rw [List.getD_eq_getElem?_getD, List.getElem?_eq_getElem hlt]; exact List.getElem_mem _)
      have htake : run (l0.take (k + 1)) = next (run (l0.take k)) (l0.getD k 0) := by
        rw [List.take_succ_eq_append_getElem hlt, run_snoc, List.getD_eq_getElem?_getD, List.getElem?_eq_getElem hlt]; rfl
      rw [erd] at c0
      obtain ⟨x, hxe⟩ : ∃ x, l0.getD k 0 = x := ⟨_, rfl⟩
      rw [hxe] at hx c0 htake
      obtain ⟨s, hs⟩ : ∃ s, run (l0.take k) = s := ⟨_, rfl⟩
      rw [hs] at hm5 hb0 hb1 hol' hI htake
      rw [hs]
      clear hxe erd hcell hs
      obtain ⟨o, b, m⟩ := s
      replace hm5 : m < 5 := hm5
      replace hb0 : 0 ≤ b := hb0
      replace hb1 : b < 4294967296 := hb1
      replace hol' : o.length ≤ 13 * k := hol'
      have HT := Aside0.mk htake
      clear htake
      have hsz := hBl.out.size
      have HKL := Aside0.mk hlt
      have ho32 := or32 b x hx hb0
      have hw64 : wrap64 ((m : Int) + 8) = ((m + 8 : Nat) : Int) := by unfold wrap64; omega
      have HT' := Aside0.mk (show run (l0.take (k + 1)) = (o ++ (em ((b * 256 + x) % 4294967296) (m + 8)).1, (b * 256 + x) % 4294967296, (em ((b * 256 + x) % 4294967296) (m + 8)).2) from HT.out)
      have hB0 : 0 ≤ (b * 256 + x) % 4294967296 := Int.emod_nonneg _ (by decide)
      have hB1 : (b * 256 + x) % 4294967296 < 4294967296 := Int.emod_lt_of_pos _ (by decide)
      have HEL := Aside0.mk (em_len ((b * 256 + x) % 4294967296) (m + 8))
      obtain ⟨B, hB⟩ : ∃ B, (b * 256 + x) % 4294967296 = B := ⟨_, rfl⟩
      have HO32 := Aside0.mk ho32
      rw [hB] at HT' hB0 hB1 HEL ho32
      have HHB := Aside0.mk hB
      clear hB
      go_wp2_with fail
      try rw [ho32]
      try rw [hw64]
      clear ho32 hw64 c0
      have HB0 := Aside0.mk hB0
      have HB1 := Aside0.mk hB1
      have HOL := Aside0.mk hol'
      clear hB0 hB1 hb0 hb1 hol' hx HO32 HHB
      go_loopw [5] (fun v5 wr => ∃ (m' : Nat) (o' : List UInt8), m' ≤ 12 ∧ v5 = .int .i64 (m' : Int) ∧ Aside0 (o' ++ (em B m').1 = o ++ (em B (m + 8)).1) ∧ Aside0 ((em B m').2 = (em B (m + 8)).2) ∧ Aside0 (o'.length ≤ 13 * k + 13) ∧ Aside0 (Lib.IsBuilder 167 5 w.heap.size w.heap.size (Lib.byteCells o') wr) ∧ Aside0 (Below w.heap.size w wr)) (fun v _ => (intOf v).toNat)
      case atStart => exact ⟨m + 8, o, by omega, rfl, ⟨rfl⟩, ⟨rfl⟩, ⟨by have := HOL.out; omega⟩, hI, hBl⟩
      case round =>
        clear hI hBl
        obtain ⟨m', o', hm', rfl, h1, h2, h3, hI, hBl⟩ := hrel
        have hsz := hBl.out.size
        by_cases h5 : m' < 5
        · rw [em_lt B m' h5, List.append_nil] at h1
          rw [em_lt B m' h5] at h2
          have q5 : decide ((5 : Int) ≤ (m' : Int)) = false := decide_eq_false (by omega)
          have q5' : decide (5 ≤ m') = false := decide_eq_false (by omega)
          have HT1 := Aside0.mk (HT'.out.trans (by rw [← h1.out, ← h2.out]))
          go_wp2
          go_roundw
          case measure => simp [intOf]; have := HKL.out; omega
          case rel => exact ⟨k + 1, by have := HKL.out; omega, by go_num, by rw [HT1.out], by rw [HT1.out], ⟨by rw [HT1.out]; exact hI.out⟩, hBl⟩
        · rw [em_ge B m' h5] at h1 h2
          obtain ⟨n, rfl⟩ : ∃ n, m' = n + 5 := ⟨m' - 5, by omega⟩
          rw [show n + 5 - 5 = n from by omega] at h1 h2
          have hn7 : n ≤ 7 := by omega
          have q5 : decide ((5 : Int) ≤ ((n + 5 : Nat) : Int)) = true := decide_eq_true (by omega)
          have q5' : decide (5 ≤ n + 5) = true := decide_eq_true (by omega)
          have q6 : wrap64 (((n + 5 : Nat) : Int) - 5) = (n : Int) := by unfold wrap64; omega
          have q7 : wrap64 ((n : Int) + 5 - 5) = (n : Int) := by unfold wrap64; omega
          have hs := shr32 B n (by omega)
          have hd := div_bd B n HB0.out HB1.out
          have ha := and31 (B / 2 ^ n) hd.1 hd.2
          obtain ⟨ch, hch⟩ : ∃ c, B / 2 ^ n % 32 = c := ⟨_, rfl⟩
          have hc0 : 0 ≤ ch := by omega
          have hc1 : ch < 32 := by omega
          rw [hch] at ha h1
          clear hch hd
          go_wp2_with fail
          refine (Go.Proofs.Ytlnpmodhejakiaa.B.writeByte w.heap.size w.heap.size _ _ wr hI.out (by simp [Lib.byteCells]; have := h3.out; omega) (by omega)).mono ?_
          rintro e w1 ⟨rfl, hI1, hb1⟩
          rw [sg_get ch hc0 hc1, cells_snoc] at hI1
          have HI1 := Aside0.mk hI1
          have HB1' := Aside0.mk (hBl.out.trans hb1)
          have H3 := h3
          clear hI1 hb1
          go_wp2
          go_roundw
          case measure => simp [intOf]; omega
          case rel => exact ⟨n, o' ++ [sg ch], by omega, by go_num, ⟨by rw [List.append_assoc]; exact h1.out⟩, h2, ⟨by have := congrArg List.length h1.out; simp only [List.length_append, List.length_cons, List.length_nil] at this ⊢; have := HEL.out; have := HOL.out; omega⟩, HI1, HB1'⟩
    · obtain rfl : k = l0.length := by omega
      rw [List.take_length] at hm5 hb0 hb1 hol' hI
      rw [List.take_length]
      have HBE := Aside0.mk (show b32 l0 = (run l0).1 ++ (if 0 < (run l0).2.2 then [sg ((run l0).2.1 * 2 ^ (5 - (run l0).2.2) % 32)] else []) from rfl)
      obtain ⟨s, hs⟩ : ∃ s, run l0 = s := ⟨_, rfl⟩
      rw [hs] at hm5 hb0 hb1 hol' hI HBE
      rw [hs]
      clear hs
      obtain ⟨o, b, m⟩ := s
      replace HBE : Aside0 (b32 l0 = o ++ (if 0 < m then [sg (b * 2 ^ (5 - m) % 32)] else [])) := HBE
      replace hm5 : m < 5 := hm5
      replace hb0 : 0 ≤ b := hb0
      replace hb1 : b < 4294967296 := hb1
      replace hol' : o.length ≤ 13 * l0.length := hol'
      have hsz := hBl.out.size
      by_cases hz : m = 0
      · subst hz
        have HBl := hBl
        go_wp2_with (go_at_call 143; refine (Go.Proofs.Ytlnpmodhejakiaa.B.Builder_String_any w.heap.size w.heap.size _ _ hI.out (by omega)).mono ?_; rintro e w1 ⟨rfl, hb1⟩; have HB2 := Aside0.mk (HBl.out.trans hb1))
        go_ret
        exact ⟨by rw [HBE.out, if_neg (by decide), List.append_nil]; rfl, HB2.out⟩
      · rw [if_pos (by omega)] at HBE
        obtain ⟨n, hn⟩ : ∃ n, 5 - m = n := ⟨_, rfl⟩
        rw [hn] at HBE
        have q1 : decide ((0 : Int) < (m : Int)) = true := decide_eq_true (by omega)
        have q2 : decide (0 < m) = true := decide_eq_true (by omega)
        have q3 : wrap64 (5 - (m : Int)) = (n : Int) := by unfold wrap64; omega
        have q4 : IntKind.u64.wrap (n : Int) = (n : Int) := by rw [IntKind.wrap_u64]; omega
        have hn5 : n ≤ 5 := by omega
        have ha := and31 (b * 2 ^ n % 4294967296) (Int.emod_nonneg _ (by decide)) (Int.emod_lt_of_pos _ (by decide))
        rw [show b * 2 ^ n % 4294967296 % 32 = b * 2 ^ n % 32 by generalize b * 2 ^ n = y; omega] at ha
        obtain ⟨ch, hch⟩ : ∃ c, b * 2 ^ n % 32 = c := ⟨_, rfl⟩
        have hc0 : 0 ≤ ch := by rw [← hch]; exact Int.emod_nonneg _ (by decide)
        have hc1 : ch < 32 := by rw [← hch]; exact Int.emod_lt_of_pos _ (by decide)
        rw [hch] at ha HBE
        clear hch
        go_wp2_with fail
        refine (Go.Proofs.Ytlnpmodhejakiaa.B.writeByte w.heap.size w.heap.size _ _ wr hI.out (by simp [Lib.byteCells]; omega) (by omega)).mono ?_
        rintro e w1 ⟨rfl, hI1, hb1⟩
        rw [sg_get ch hc0 hc1, cells_snoc] at hI1
        have HI1 := Aside0.mk hI1
        have HB1' := Aside0.mk (hBl.out.trans hb1)
        have hsz1 := HB1'.out.size
        clear hI1 hb1
        go_wp2_with (go_at_call 143; refine (Go.Proofs.Ytlnpmodhejakiaa.B.Builder_String_any w.heap.size w.heap.size _ _ HI1.out hsz1).mono ?_; rintro e w2 ⟨rfl, hb2⟩; have HB2 := Aside0.mk (HB1'.out.trans hb2))
        go_ret
        exact ⟨by rw [HBE.out]; rfl, HB2.out⟩
def totp_Base32.f (l0 : List Int) : Option (ByteArray) := if l0.length ≤ 1000000000000 ∧ ∀ x ∈ l0, 0 ≤ x ∧ x ≤ 255 then some ⟨(b32 l0).toArray⟩ else none
theorem totp_Base32.calls (A0 : Option Addr) (c0 : Nat) (l0 : List Int) (r : ByteArray) (w : World) (hr0 : Kd.C (Kd.int .u8) w A0 l0.length l0) (hc0 : l0.length ≤ c0) (h : totp_Base32.f l0 = some r) :
    Calls Try.prog 71 #[.slice A0 l0.length c0] w fun e w' => e = .returned (.string r) ∧ Below w.heap.size w w' := by
  unfold totp_Base32.f at h
  by_cases hh : l0.length ≤ 1000000000000 ∧ ∀ x ∈ l0, 0 ≤ x ∧ x ≤ 255
  · rw [if_pos hh] at h
    obtain rfl := Option.some.inj h
    exact b32_any A0 c0 l0 w hr0 hc0 hh
  · rw [if_neg hh] at h
    cases h
end Go.Proofs.Ytlnpmodhejakiaa.T
