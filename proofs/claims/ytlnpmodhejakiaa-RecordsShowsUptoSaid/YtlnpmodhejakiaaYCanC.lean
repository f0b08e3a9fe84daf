/- canon.Reader: head. -/
import Derived.IntWalk
import Derived.Test.YtlnpmodhejakiaaYMa
namespace Go.Proofs.Ytlnpmodhejakiaa.D
open Go.RowKit Go.Proofs.YtlnpmodhejakiaaW.PrintWords Go.Proofs.YtlnpmodhejakiaaW.PrintLast Go.Proofs.YtlnpmodhejakiaaW.PrintMore
set_option linter.unusedVariables false
set_option linter.unusedSimpArgs false
theorem atomic_load_t (g : Nat) (w : World) (A : Value) (T : TypeId) (h : w.heap[g]? = some (.cells #[A, .int .u32 1] T (0, 0))) :
    Calls Try.prog 138 #[.pointer (some ⟨g, 1, none⟩)] w fun e w' => e = .returned (.bool true) ∧ w = w' := (atomic_load g 1 1 w (blk_cell h 1) (blk_frozen h 1)).mono fun _ _ h => ⟨h.1, h.2.symm⟩
theorem atomic_load_f (g : Nat) (w : World) (A : Value) (T : TypeId) (h : w.heap[g]? = some (.cells #[A, .int .u32 0] T (0, 0))) :
    Calls Try.prog 138 #[.pointer (some ⟨g, 1, none⟩)] w fun e w' => e = .returned (.bool false) ∧ w = w' := (atomic_load g 1 0 w (blk_cell h 1) (blk_frozen h 1)).mono fun _ _ h => ⟨h.1, h.2.symm⟩
theorem atomic_break (g : Nat) (w : World) (A : Value) (x : Int) (T : TypeId) (h : w.heap[g]? = some (.cells #[A, .int .u32 x] T (0, 0))) :
    Calls Try.prog 139 #[.pointer (some ⟨g, 1, none⟩), .bool true] w fun e w' => e = .returned (.tuple #[]) ∧ w'.heap[g]? = some (.cells #[A, .int .u32 1] T (0, 0)) ∧ Wr w.heap.size g w w' :=
  (atomic_store g 1 x w (blk_cell h 1) (blk_frozen h 1)).mono fun e w' hh => by
    obtain ⟨rfl, rfl⟩ := hh
    exact ⟨rfl, blk_put (cs' := #[A, .int .u32 1]) h 1 (.int .u32 1) rfl, ((Wr.refl _ _ _).setCell _ _).drew⟩
set_option maxHeartbeats 4000000 in
set_option maxRecDepth 100000 in
theorem head_bad (g : Nat) (l : List Int) (sign many : Int) (w : World) (h : IsR g w l true) :
    Calls Try.prog 134 #[.pointer (some ⟨g, 0, none⟩), .int .u8 sign, .int .i64 many] w fun e w' => e = .returned (.tuple #[.int .u64 0, .bool false]) ∧ w' = w := by
  obtain ⟨A, c, h1, -, -, -⟩ := h
  have HL := Aside0.mk (atomic_load_t g w _ _ h1)
  clear h1
  go_enter Try.func134, Try.ntmps134
  go_wp2_with (go_at_call 138; (with_reducible refine HL.out.mono ?_); rintro e w' ⟨rfl, rfl⟩)
  go_ret2
  exact ⟨rfl, rfl⟩
set_option maxHeartbeats 4000000 in
set_option maxRecDepth 100000 in
theorem head_no (g : Nat) (l : List Int) (sign : Int) (many : Nat) (w : World) (h : IsR g w l false) (hno : l.length ≤ many ∨ l.getD 0 0 ≠ sign) :
    Calls Try.prog 134 #[.pointer (some ⟨g, 0, none⟩), .int .u8 sign, .int .i64 (many : Int)] w fun e w' => e = .returned (.tuple #[.int .u64 0, .bool false]) ∧ IsR g w' l true ∧ Wr w.heap.size g w w' := by
  obtain ⟨A, c, h1, h2, h3, h4⟩ := h
  have HL := Aside0.mk (atomic_load_f g w _ _ h1)
  have HS := Aside0.mk (atomic_break g w _ _ _ h1)
  have c0 := blk_cell h1 0
  replace c0 : w.cell? ⟨g, 0, none⟩ = some (.slice A l.length c) := c0
  have HN := Aside0.mk h4
  have HC := Aside0.mk h2
  have Hc := Aside0.mk h3
  by_cases hle : l.length ≤ many
  · have hle' : (l.length : Int) ≤ (many : Int) := by omega
    clear h1 h2 h4 hno hle
    go_enter Try.func134, Try.ntmps134
    go_wp2_with (first
      | (go_at_call 138; (with_reducible refine HL.out.mono ?_); rintro e w' ⟨rfl, rfl⟩)
      | (go_at_call 139; (with_reducible refine HS.out.mono ?_); rintro e w' ⟨rfl, hk, hW⟩; have K := Aside0.mk hk; have HW := Aside0.mk hW; clear hk hW))
    go_ret2
    exact ⟨rfl, ⟨A, c, K.out, C_wr' HC.out HW.out HN.out, Hc.out, HN.out⟩, HW.out⟩
  · have hne : l.getD 0 0 ≠ sign := by rcases hno with h | h; exact absurd h hle; exact h
    obtain ⟨ad, rfl, cb⟩ := C_at h2 0 (by omega)
    have cb' : w.cell? ad = some (.int .u8 (l.getD 0 0)) := by rw [show ad = ad.add 0 by unfold Addr.add; rfl]; exact cb
    obtain ⟨x0, hx0⟩ : ∃ x, l.getD 0 0 = x := ⟨_, rfl⟩
    rw [hx0] at cb cb' hne
    have hneb : (x0 != sign) = true := by rw [bne_iff_ne]; exact hne
    have hle' : ¬ (l.length : Int) ≤ (many : Int) := by omega
    have hpos : (0 : Int) < (l.length : Int) := by omega
    clear h1 h2 h4 hno hle hx0 hne
    go_enter Try.func134, Try.ntmps134
    go_wp2_with (first
      | (go_at_call 138; (with_reducible refine HL.out.mono ?_); rintro e w' ⟨rfl, rfl⟩)
      | (go_at_call 139; (with_reducible refine HS.out.mono ?_); rintro e w' ⟨rfl, hk, hW⟩; have K := Aside0.mk hk; have HW := Aside0.mk hW; clear hk hW))
    go_ret2
    exact ⟨rfl, ⟨some ad, c, K.out, C_wr' HC.out HW.out HN.out, Hc.out, HN.out⟩, HW.out⟩
set_option maxHeartbeats 4000000 in
set_option maxRecDepth 100000 in
theorem head_yes (g : Nat) (l : List Int) (sign : Int) (many : Nat) (w : World) (h : IsR g w l false) (hlen : many < l.length) (hs : l.getD 0 0 = sign) (hb : ∀ x ∈ l, 0 ≤ x ∧ x ≤ 255) (hl : l.length ≤ 140737488355328) (hm1 : 1 ≤ many) (hm8 : many ≤ 8) :
    Calls Try.prog 134 #[.pointer (some ⟨g, 0, none⟩), .int .u8 sign, .int .i64 (many : Int)] w fun e w' => e = .returned (.tuple #[.int .u64 (numBE ((l.drop 1).take many)), .bool true]) ∧ w' = w := by
  obtain ⟨A, c, h1, h2, h3, h4⟩ := h
  have HL := Aside0.mk (atomic_load_f g w _ _ h1)
  have c0 := blk_cell h1 0
  replace c0 : w.cell? ⟨g, 0, none⟩ = some (.slice A l.length c) := c0
  have HC := Aside0.mk h2
  obtain ⟨ad, rfl, cb⟩ := C_at h2 0 (by omega)
  have cb' : w.cell? ad = some (.int .u8 sign) := by rw [show ad = ad.add 0 by unfold Addr.add; rfl, ← hs]; exact cb
  have HD := Aside0.mk hb
  have hle' : ¬ (l.length : Int) ≤ (many : Int) := by omega
  have hpos : (0 : Int) < (l.length : Int) := by omega
  have hc1 : ¬ c = 1 := by omega
  have hmc : (1 : Int) + (many : Int) ≤ (c : Int) := by omega
  have hmN : 1 + many ≤ c := by omega
  have hsl : (sign != sign) = false := by simp
  clear h1 h2 h4 hs cb hb
  go_enter Try.func134, Try.ntmps134
  go_wp2_with (first
    | (go_at_call 138; (with_reducible refine HL.out.mono ?_); rintro e w' ⟨rfl, rfl⟩))
  clear c0 cb' hsl hpos hle' HL
  go_loop [8, 48] (fun v8 v48 => ∃ k : Nat, k ≤ many ∧ v48 = .int .i64 (k : Int) ∧ v8 = .int .u64 (numBE ((l.drop 1).take k))) (fun _ v48 => many - (intOf v48).toNat)
  case atStart => exact ⟨0, Nat.zero_le _, rfl, rfl⟩
  case round =>
    obtain ⟨k, hk, rfl, rfl⟩ := hrel
    by_cases hlt : k < many
    · obtain ⟨_, e, ck⟩ := C_at HC.out (1 + k) (by omega)
      cases e
      have ck' : w.cell? ⟨ad.block, ad.off + 1 + k, none⟩ = some (.int .u8 (l.getD (1 + k) 0)) := by
        rw [← ck]; congr 1; unfold Addr.add; split
        · omega
        · rw [Nat.add_assoc]
      have hx := HD.out (l.getD (1 + k) 0) (by rw [List.getD_eq_getElem?_getD, List.getElem?_eq_getElem (show 1 + k < l.length by omega)]; exact List.getElem_mem _)
      have hst : (l.drop 1).take (k + 1) = (l.drop 1).take k ++ [l.getD (1 + k) 0] := by
        rw [List.take_succ_eq_append_getElem (by rw [List.length_drop]; omega), List.getElem_drop, List.getD_eq_getElem?_getD, List.getElem?_eq_getElem (show 1 + k < l.length by omega)]; rfl
      have hn := numBE_bd ((l.drop 1).take k) (fun x hx => HD.out x (List.mem_of_mem_drop (List.mem_of_mem_take hx)))
      have hn7 : numBE ((l.drop 1).take k) < 72057594037927936 := by
        have h1 : ((l.drop 1).take k).length ≤ 7 := by rw [List.length_take]; omega
        have h2 : (256 : Int) ^ ((l.drop 1).take k).length ≤ 256 ^ 7 := by have := Nat.pow_le_pow_right (n := 256) (by decide) h1; exact_mod_cast this
        have h3 : (256 : Int) ^ 7 = 72057594037927936 := by decide
        omega
      have HNX := Aside0.mk (show numBE ((l.drop 1).take (k + 1)) = numBE ((l.drop 1).take k) * 256 + l.getD (1 + k) 0 by rw [hst, numBE_snoc])
      have HOR := Aside0.mk (or_low (numBE ((l.drop 1).take k)) (l.getD (1 + k) 0) hn.1 hn7 hx.1 hx.2)
      obtain ⟨hn0, -⟩ := hn
      obtain ⟨N, hN⟩ : ∃ n, numBE ((l.drop 1).take k) = n := ⟨_, rfl⟩
      obtain ⟨x, hxe⟩ : ∃ n, l.getD (1 + k) 0 = n := ⟨_, rfl⟩
      rw [hN] at HNX HOR hn0 hn7 ⊢
      rw [hxe] at ck' HNX HOR hx
      obtain ⟨hx0, hx1⟩ := hx
      have hlti : (k : Int) < (many : Int) := by omega
      clear hN hxe hst ck
      go_wp2
      go_round
      case rel => exact ⟨k + 1, by omega, by go_num, by rw [HNX.out, ← HOR.out]⟩
      case measure => simp [intOf]; omega
    · obtain rfl : k = many := by omega
      go_wp2
      go_ret2
      exact ⟨rfl, rfl⟩
end Go.Proofs.Ytlnpmodhejakiaa.D
