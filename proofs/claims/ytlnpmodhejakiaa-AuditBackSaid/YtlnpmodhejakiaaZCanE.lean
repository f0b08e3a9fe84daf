/- canon.Reader: Bytes, Text, Bool, List, Left, Done. -/
import Derived.Test.YtlnpmodhejakiaaZCanD
namespace Go.Proofs.Ytlnpmodhejakiaa.D
open Go.RowKit Go.Proofs.YtlnpmodhejakiaaW.PrintWords Go.Proofs.YtlnpmodhejakiaaW.PrintLast Go.Proofs.YtlnpmodhejakiaaW.PrintMore
set_option linter.unusedVariables false
set_option linter.unusedSimpArgs false
set_option maxHeartbeats 4000000 in
theorem bytes_any (g : Nat) (l : List Int) (bad : Bool) (w : World) (h : IsR g w l bad) (ho : okL l) :
    Calls Try.prog 59 #[.pointer (some ⟨g, 0, none⟩)] w fun e w' => ∃ v, e = .returned v ∧ Kd.R (Kd.int .u8) 5 w' w.heap.size (fun _ => True) v (someS l bad 98).1 ∧ IsR g w' (someS l bad 98).2.1 (someS l bad 98).2.2 ∧ Wr w.heap.size g w w' := by
  have HH := Aside0.mk (some_any g l bad 98 w h ho)
  clear h ho
  go_enter Try.func59, Try.ntmps59
  go_wp2_with (go_at_call 136; (with_reducible refine HH.out.mono ?_); rintro e w1 ⟨v, rfl, hr, hi, hW⟩; have HR := Aside0.mk hr; have HI := Aside0.mk hi; have HW := Aside0.mk hW; clear hr hi hW)
  go_ret
  exact ⟨_, rfl, HR.out, HI.out, HW.out⟩
set_option maxHeartbeats 4000000 in
theorem text_any (g : Nat) (l : List Int) (bad : Bool) (w : World) (h : IsR g w l bad) (ho : okL l) :
    Calls Try.prog 61 #[.pointer (some ⟨g, 0, none⟩)] w fun e w' => e = .returned (.string (strOfNums (someS l bad 115).1)) ∧ IsR g w' (someS l bad 115).2.1 (someS l bad 115).2.2 ∧ Wr w.heap.size g w w' := by
  have HH := Aside0.mk (some_any g l bad 115 w h ho)
  clear h ho
  obtain ⟨r, hr⟩ : ∃ r, someS l bad 115 = r := ⟨_, rfl⟩
  rw [hr] at HH ⊢
  clear hr
  obtain ⟨x, y, z⟩ := r
  go_enter Try.func61, Try.ntmps61
  go_wp2_with (go_at_call 136; (with_reducible refine HH.out.mono ?_); rintro e w1 ⟨v, rfl, hr, hi, hW⟩; obtain ⟨A, c, rfl, _, hC⟩ := Kd.R_reads hr; have hcv := Kd.C_string (P := Try.prog) (src := 22) (dst := 9) (c := c) Try.underlying22 Try.underlying5 Try.underlying9 hC; have HI := Aside0.mk hi; have HW := Aside0.mk hW; clear hr hi hW hC)
  go_ret
  exact ⟨rfl, HI.out, HW.out⟩
def doneS (l : List Int) (bad : Bool) : Int := if bad = true ∨ l ≠ [] then 4 else 0
set_option maxHeartbeats 4000000 in
theorem done_any (g : Nat) (l : List Int) (bad : Bool) (w : World) (h : IsR g w l bad) :
    Calls Try.prog 68 #[.pointer (some ⟨g, 0, none⟩)] w fun e w' => e = .returned (.int .i64 (doneS l bad)) ∧ w = w' := by
  unfold doneS
  obtain ⟨A, c, h1, -, -, -⟩ := h
  have c0 := blk_cell h1 0
  replace c0 : w.cell? ⟨g, 0, none⟩ = some (.slice A l.length c) := c0
  cases bad with
  | true =>
    have HL := Aside0.mk (atomic_load_t g w _ _ h1)
    rw [if_pos (Or.inl rfl)]
    clear h1
    go_enter Try.func68, Try.ntmps68
    go_wp2_with (go_at_call 138; (with_reducible refine HL.out.mono ?_); rintro e w' ⟨rfl, rfl⟩)
    go_ret
    exact ⟨rfl, rfl⟩
  | false =>
    have HL := Aside0.mk (atomic_load_f g w _ _ h1)
    by_cases hnil : l = []
    · rw [if_neg (by rintro (h | h); cases h; exact h hnil)]
      subst hnil
      have d : decide ((0 : Int) < ((0 : Nat) : Int)) = false := by decide
      replace c0 : w.cell? ⟨g, 0, none⟩ = some (.slice A 0 c) := c0
      clear h1
      go_enter Try.func68, Try.ntmps68
      go_wp2_with (go_at_call 138; (with_reducible refine HL.out.mono ?_); rintro e w' ⟨rfl, rfl⟩)
      go_ret
      exact ⟨rfl, rfl⟩
    · rw [if_pos (Or.inr hnil)]
      have hpos : (0 : Int) < (l.length : Int) := by have := List.length_pos_iff.2 hnil; omega
      clear h1 hnil
      go_enter Try.func68, Try.ntmps68
      go_wp2_with (go_at_call 138; (with_reducible refine HL.out.mono ?_); rintro e w' ⟨rfl, rfl⟩)
      go_ret
      exact ⟨rfl, rfl⟩
end Go.Proofs.Ytlnpmodhejakiaa.D
