/- canon.Reader. -/
import Derived.Test.YtlnpmodhejakiaaZCanA
namespace Go.Proofs.Ytlnpmodhejakiaa.D
open Go.RowKit Go.Proofs.YtlnpmodhejakiaaW.PrintWords Go.Proofs.YtlnpmodhejakiaaW.PrintLast Go.Proofs.YtlnpmodhejakiaaW.PrintMore
set_option linter.unusedVariables false
set_option linter.unusedSimpArgs false
def IsR (g : Nat) (w : World) (l : List Int) (bad : Bool) : Prop := ∃ A c, w.heap[g]? = some (.cells #[.slice A l.length c, .int .u32 (if bad = true then 1 else 0)] 158 (0, 0)) ∧ Kd.C (Kd.int .u8) w A l.length l ∧ l.length ≤ c ∧ (0 < l.length → ∀ ad, A = some ad → ad.block ≠ g)
theorem IsR.below {g : Nat} {w w' : World} {l : List Int} {bad : Bool} (h : IsR g w l bad) (hb : Below w.heap.size w w') : IsR g w' l bad := by
  obtain ⟨A, c, h1, h2, h3, h4⟩ := h
  exact ⟨A, c, blk_below h1 hb, Kd.C_below h2 hb, h3, h4⟩
theorem C_wr' {w w' : World} {A : Option Addr} {l : List Int} {g : Nat} (h : Kd.C (Kd.int .u8) w A l.length l) (hW : Wr w.heap.size g w w') (hg : 0 < l.length → ∀ ad, A = some ad → ad.block ≠ g) : Kd.C (Kd.int .u8) w' A l.length l := by
  refine ⟨h.1, h.2.1, fun h0 => ?_⟩
  obtain ⟨ad, rfl, hc⟩ := h.2.2 h0
  refine ⟨ad, rfl, fun j p hj => ?_⟩
  obtain ⟨c, e1, e2, e3⟩ := hc j p hj
  refine ⟨c, e1, e2, fun i u hu => ?_⟩
  have h1 := e3 i u hu
  have hb : (ad.add (j * (Kd.int .u8).sz + i)).block = ad.block := by unfold Addr.add; split <;> rfl
  have hlt := World.block_lt_of_cell? w _ h1
  exact (World.cell?_of_block (hW.block _ hlt (by rw [hb]; exact hg h0 ad rfl))).trans h1
def numBE (l : List Int) : Int := l.foldl (fun n x => n * 256 + x) 0
theorem numBE_snoc (l : List Int) (x : Int) : numBE (l ++ [x]) = numBE l * 256 + x := by unfold numBE; rw [List.foldl_append]; rfl
theorem numBE_go (l : List Int) : ∀ (a : Int) (m : Nat), 0 ≤ a → a < 256 ^ m → (∀ x ∈ l, 0 ≤ x ∧ x ≤ 255) → 0 ≤ l.foldl (fun n x => n * 256 + x) a ∧ l.foldl (fun n x => n * 256 + x) a < 256 ^ (m + l.length) := by
  induction l with
  | nil => intro a m h0 h1 _; exact ⟨h0, h1⟩
  | cons x t ih =>
    intro a m h0 h1 h
    obtain ⟨h3, h4⟩ := h x (List.mem_cons_self ..)
    have := ih (a * 256 + x) (m + 1) (by omega) (by rw [Int.pow_succ]; omega) (fun y hy => h y (List.mem_cons_of_mem _ hy))
    rw [List.foldl_cons, List.length_cons, show m + (t.length + 1) = m + 1 + t.length by omega]
    exact this
theorem numBE_bd (l : List Int) (h : ∀ x ∈ l, 0 ≤ x ∧ x ≤ 255) : 0 ≤ numBE l ∧ numBE l < 256 ^ l.length := by
  have := numBE_go l 0 0 (by omega) (by decide) h
  rw [Nat.zero_add] at this
  exact this
theorem or_low (a x : Int) (h0 : 0 ≤ a) (h1 : a < 72057594037927936) (hx0 : 0 ≤ x) (hx1 : x ≤ 255) : bits .or .u64 (a * 256) x = a * 256 + x := by
  obtain ⟨n, rfl⟩ := Int.eq_ofNat_of_zero_le h0
  obtain ⟨m, rfl⟩ := Int.eq_ofNat_of_zero_le hx0
  unfold bits
  show IntKind.u64.wrap ((BitVec.ofInt 64 ((n : Int) * 256) ||| BitVec.ofInt 64 (m : Int)).toNat : Int) = _
  rw [BitVec.toNat_or, show ((n : Int) * 256) = ((n * 256 : Nat) : Int) by omega, BitVec.ofInt_natCast, BitVec.ofInt_natCast, BitVec.toNat_ofNat, BitVec.toNat_ofNat, Nat.mod_eq_of_lt (by omega), Nat.mod_eq_of_lt (by omega)]
  have := Nat.shiftLeft_add_eq_or_of_lt (show m < 2 ^ 8 by omega) n
  rw [show n <<< 8 = n * 256 by rw [Nat.shiftLeft_eq]] at this
  rw [← this, IntKind.wrap_u64]
  omega
theorem C_at {w : World} {A : Option Addr} {l : List Int} {n : Nat} (h : Kd.C (Kd.int .u8) w A n l) (i : Nat) (hi : i < l.length) : ∃ ad, A = some ad ∧ w.cell? (ad.add i) = some (.int .u8 (l.getD i 0)) := by
  obtain ⟨ad, rfl, hc⟩ := h.2.2 (by have := h.1; omega)
  refine ⟨ad, rfl, ?_⟩
  obtain ⟨c, e1, e2, e3⟩ := hc i (l.getD i 0) (by rw [List.getD_eq_getElem?_getD, List.getElem?_eq_getElem hi]; rfl)
  have e2' : c = [.int .u8 (l.getD i 0)] := e2
  subst e2'
  have := e3 0 _ rfl
  rw [show i * (Kd.int .u8).sz + 0 = i from by show i * 1 + 0 = i; omega] at this
  exact this
theorem C_far {w : World} {A : Option Addr} {l : List Int} (hr : Kd.C (Kd.int .u8) w A l.length l) (h0 : 0 < l.length) (ad : Addr) (h : A = some ad) {g : Nat} (hg : w.heap.size ≤ g) : ad.block ≠ g := by
  obtain ⟨ad', e, h1⟩ := C_at hr 0 h0
  rw [h] at e
  cases e
  have := World.block_lt_of_cell? w _ h1
  have hb : (ad.add 0).block = ad.block := by unfold Addr.add; split <;> rfl
  omega
set_option maxHeartbeats 4000000 in
set_option maxRecDepth 100000 in
theorem read_any (A0 : Option Addr) (c0 : Nat) (l0 : List Int) (w : World) (hr0 : Kd.C (Kd.int .u8) w A0 l0.length l0) (hc0 : l0.length ≤ c0) (hl : l0.length < 140737488355328) :
    Calls Try.prog 56 #[.slice A0 l0.length c0] w fun e w' => ∃ g : Nat, e = .returned (.pointer (some ⟨g, 0, none⟩)) ∧ w.heap.size ≤ g ∧ IsR g w' l0 false ∧ Below w.heap.size w w' := by
  have HC := Aside0.mk (slices_Clone_byte_byte.calls A0 c0 l0 l0 w hr0 hc0 (by unfold slices_Clone_byte_byte.f; rw [if_pos hl]))
  clear hr0 hc0
  go_enter Try.func56, Try.ntmps56
  go_wp2_with (first
    | (go_at_call 133; (with_reducible refine HC.out.mono ?_); rintro e w1 ⟨v, rfl, ho, hb⟩; obtain ⟨A, c, rfl, hc, hC⟩ := Kd.R_reads ho; have HC1 := Aside0.mk hC; have Hc := Aside0.mk hc; have HB := Aside0.mk hb; clear ho hb hC hc)
    | ((with_reducible refine gate_dst (N := 6) rfl ?_); refine box_event ?hg (N := 6) ?hd (cs := #[.slice A l0.length c, .int .u32 0]) (t := 158) ?hr ?_; (case hd => rfl); (case hg => rfl); (case hr => first | (go_simp; done) | (go_simp; rfl)); intro g hg w2 hbox hBl; have K := Aside0.mk hbox; have HB2 := Aside0.mk (below_step HB.out hBl); have C2 := Aside0.mk (Kd.C_below HC1.out hBl); have G := Aside0.mk (show w.heap.size ≤ g by have := HB.out.size; omega); have NE := Aside0.mk (fun h0 ad h => C_far HC1.out h0 ad h (Nat.le_of_eq hg.symm)); clear hg hbox hBl))
  go_ret
  exact ⟨g, rfl, G.out, ⟨A, c, K.out, C2.out, Hc.out, NE.out⟩, HB2.out⟩
end Go.Proofs.Ytlnpmodhejakiaa.D
