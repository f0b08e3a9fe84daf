/- The contracts of digest.Hex (by hand) and strings.IndexByte (the shelf's) in the print's form. -/
import Derived.Test.YtpopampcfgpojaaPHx0
import Derived.Test.YtpopampcfgpojaaBuilder
namespace Go.Proofs.Ytpopampcfgpojaa.PG
open Go.RowKit Go.Proofs.YtpopampcfgpojaaW.PrintWords Go.Proofs.YtpopampcfgpojaaW.PrintLast Go.Proofs.YtpopampcfgpojaaW.PrintMore
attribute [local go_sem] max2_int min2_int max_two min_two max_three min_three max_four min_four
set_option linter.unusedVariables false
set_option linter.unusedSimpArgs false

def strings_IndexByte.f (a0 : ByteArray) (a1 : Int) : Option (Int) := some (Lib.indexByte a0.data.toList a1.toNat.toUInt8)
theorem strings_IndexByte.calls (a0 : ByteArray) (a1 : Int) (r : Int) (w : World) (h : strings_IndexByte.f a0 a1 = some r) :
    Calls Try.prog 30 #[.string a0, .int .u8 a1] w fun e w' => e = .returned (.int .i64 r) ∧ Drawn0 w w' := by
  obtain rfl := Option.some.inj h
  exact (Go.Proofs.Ytpopampcfgpojaa.B.strings_IndexByte a0 a1 w).mono fun e w' ⟨he, hw⟩ => ⟨he, by subst hw; exact Drawn0.refl _⟩

/-- the digit of a number below 16 -/
def hx (n : Int) : UInt8 := if n < 10 then UInt8.ofNat (48 + n).toNat else UInt8.ofNat (87 + n).toNat
def hex1 (x : Int) : List UInt8 := [hx (x / 16), hx (x % 16)]
def hexL (l : List Int) : List UInt8 := l.flatMap hex1
def digs : ByteArray := ⟨#[48, 49, 50, 51, 52, 53, 54, 55, 56, 57, 97, 98, 99, 100, 101, 102]⟩
theorem hx_at (n : Int) (h0 : 0 ≤ n) (h1 : n < 16) : bt digs n = ((hx n).toNat : Int) := by
  have : n = 0 ∨ n = 1 ∨ n = 2 ∨ n = 3 ∨ n = 4 ∨ n = 5 ∨ n = 6 ∨ n = 7 ∨ n = 8 ∨ n = 9 ∨ n = 10 ∨ n = 11 ∨ n = 12 ∨ n = 13 ∨ n = 14 ∨ n = 15 := by omega
  rcases this with h | h | h | h | h | h | h | h | h | h | h | h | h | h | h | h <;> subst h <;> rfl
theorem hx_get (n : Int) (h0 : 0 ≤ n) (h1 : n < 16) (h : n.toNat < (⟨#[48, 49, 50, 51, 52, 53, 54, 55, 56, 57, 97, 98, 99, 100, 101, 102]⟩ : ByteArray).size) :
    (((⟨#[48, 49, 50, 51, 52, 53, 54, 55, 56, 57, 97, 98, 99, 100, 101, 102]⟩ : ByteArray)[n.toNat]'h).toNat : Int) = ((hx n).toNat : Int) := (bt_at digs n h).trans (hx_at n h0 h1)
theorem cells_snoc (l : List UInt8) (c : UInt8) : Lib.byteCells l ++ [Value.int .u8 (c.toNat : Int)] = Lib.byteCells (l ++ [c]) := by
  simp [Lib.byteCells]
theorem hexL_len (l : List Int) : (hexL l).length = 2 * l.length := by
  induction l with
  | nil => rfl
  | cons a l ih => simp [hexL, hex1, List.flatMap_cons] at *; omega
def digest_Hex.f (l0 : List Int) : Option (ByteArray) := if l0.length ≤ 70368744177660 ∧ ∀ x ∈ l0, 0 ≤ x ∧ x ≤ 255 then some ⟨(hexL l0).toArray⟩ else none
set_option maxHeartbeats 2000000 in
set_option maxRecDepth 100000 in
theorem digest_Hex.calls (A0 : Option Addr) (c0 : Nat) (l0 : List Int) (r : ByteArray) (w : World) (hr0 : Kd.C (Kd.int .u8) w A0 l0.length l0) (hc0 : l0.length ≤ c0) (h : digest_Hex.f l0 = some r) :
    Calls Try.prog 15 #[.slice A0 l0.length c0] w fun e w' => e = .returned (.string r) ∧ Below w.heap.size w w' := by
  unfold digest_Hex.f at h
  by_cases hh : l0.length ≤ 70368744177660 ∧ ∀ x ∈ l0, 0 ≤ x ∧ x ≤ 255
  rotate_left
  · rw [if_neg hh] at h; cases h
  rw [if_pos hh] at h
  obtain rfl := Option.some.inj h
  have hlen := hh.1
  have HX := Aside0.mk hh.2
  have HR := Aside0.mk hr0
  clear hr0 h hh
  have hu := Try.underlying46
  go_enter Try.func15, Try.ntmps15
  go_wp2
  go_loopw [8] (fun v wr => ∃ k : Nat, k ≤ l0.length ∧ v = .int .i64 k ∧ Aside0 (Lib.IsBuilder 46 5 w.heap.size w.heap.size (Lib.byteCells (hexL (l0.take k))) wr) ∧ Aside0 (Below w.heap.size w wr)) (fun v _ => l0.length - (intOf v).toNat)
  case atStart =>
    refine ⟨0, Nat.zero_le _, rfl, ⟨?_⟩, ⟨(Below.refl _ _).alloc (Nat.le_refl _) _⟩⟩
    exact Lib.fresh_isBuilder 46 5 w
  case round =>
    obtain ⟨k, hk, rfl, hI, hBl⟩ := hrel
    by_cases hlt : k < l0.length
    · obtain ⟨ad, he, hcell⟩ := Kd.at_int HR.out (k : Int) (by omega) (by omega)
      cases he
      have c0 := (hBl.out.cell (World.block_lt_of_cell? w _ hcell)).trans hcell
      simp only [Int.toNat_natCast] at c0
      have erd : rd l0 (k : Int) = l0.getD k 0 := by simp [rd]
      have hx := HX.out (l0.getD k 0) (by rw [List.getD_eq_getElem?_getD, List.getElem?_eq_getElem hlt]; exact List.getElem_mem _)
      have htake : hexL (l0.take (k + 1)) = hexL (l0.take k) ++ hex1 (l0.getD k 0) := by
        rw [hexL, List.take_add_one, List.flatMap_append, List.getD_eq_getElem?_getD, List.getElem?_eq_getElem hlt]
        simp [hexL]
      have hlen2 : (hexL (l0.take k)).length ≤ 140737488355322 := by rw [hexL_len, List.length_take]; omega
      rw [erd] at c0
      obtain ⟨x, hxe⟩ : ∃ x, l0.getD k 0 = x := ⟨_, rfl⟩
      rw [hxe] at hx c0 htake
      have HXE := Aside0.mk hxe
      clear hxe erd hcell
      have hsz := hBl.out.size
      go_wp2_with (go_at_call 32; refine (Go.Proofs.Ytpopampcfgpojaa.B.writeByte w.heap.size w.heap.size _ _ wr hI.out (by simp [Lib.byteCells]; omega) (by omega)).mono ?_)
      rintro e w1 ⟨rfl, hI1, hb1⟩
      rw [hx_get (x / 16) (by omega) (by omega), cells_snoc] at hI1
      have hsz1 := hb1.size
      go_wp2_with fail
      go_wp2_with (go_at_call 32; refine (Go.Proofs.Ytpopampcfgpojaa.B.writeByte w.heap.size w.heap.size _ _ w1 hI1 (by simp [Lib.byteCells]; omega) (by omega)).mono ?_)
      rintro e w2 ⟨rfl, hI2, hb2⟩
      rw [hx_get (x % 16) (by omega) (by omega), cells_snoc] at hI2
      go_wp2
      go_roundw
      · refine ⟨k + 1, by omega, by simp, ⟨?_⟩, ⟨(hBl.out.trans hb1).trans hb2⟩⟩
        rw [htake]
        simpa [hex1] using hI2
      · show l0.length - ((k : Int) + 1).toNat < l0.length - (k : Int).toNat; omega
    · go_wp2_with (go_at_call 33; refine (Go.Proofs.Ytpopampcfgpojaa.B.Builder_String_any w.heap.size w.heap.size _ _ hI.out (by have := hBl.out.size; omega)).mono ?_)
      rintro e w1 ⟨rfl, hb1⟩
      have hke : k = l0.length := by omega
      subst hke
      rw [List.take_length]
      go_wp2
      go_ret
      exact ⟨rfl, hBl.out.trans hb1⟩
end Go.Proofs.Ytpopampcfgpojaa.PG
