/- canon.Reader: Bytes, Text, Bool, List, Left, Done. -/
import Derived.Test.YtlnpmodhejakiaaYCanD
namespace Go.Proofs.Ytlnpmodhejakiaa.D
open Go.RowKit Go.Proofs.YtlnpmodhejakiaaW.PrintWords Go.Proofs.YtlnpmodhejakiaaW.PrintLast Go.Proofs.YtlnpmodhejakiaaW.PrintMore
set_option linter.unusedVariables false
set_option linter.unusedSimpArgs false
set_option maxHeartbeats 4000000 in
theorem text_any (g : Nat) (l : List Int) (bad : Bool) (w : World) (h : IsR g w l bad) (ho : okL l) :
    Calls Try.prog 61 #[.pointer (some ⟨g, 0, none⟩)] w fun e w' => e = .returned (.string (strOfNums (someS l bad 115).1)) ∧ IsR g w' (someS l bad 115).2.1 (someS l bad 115).2.2 ∧ Wr w.heap.size g w w' := by
  have HH := Aside0.mk (some_any g l bad 115 w h ho)
  clear h ho
  obtain ⟨r, hr⟩ : ∃ r, someS l bad 115 = r := ⟨_, rfl⟩
  rw [hr] at HH ⊢
  clear hr
  obtain ⟨x, y, z⟩ := r
  go_enter Try.func61, Try.ntmps61
  go_wp2_with (go_at_call 136; (with_reducible refine HH.out.mono ?_); rintro e w1 ⟨v, rfl, hr, hi, hW⟩; obtain ⟨A, c, rfl, _, hC⟩ := Kd.R_reads hr; have hcv := Kd.C_string (P := Try.prog) (src := 22) (dst := 9) (c := c) Try.underlying22 Try.underlying5 Try.underlying9 hC; have HI := Aside0.mk hi; have HW := Aside0.mk hW; clear hr hi hW hC)
  go_ret
  exact ⟨rfl, HI.out, HW.out⟩
def boolS (l : List Int) (bad : Bool) : Bool × List Int × Bool := if bad = true ∨ l = [] ∨ (l.getD 0 0 ≠ 116 ∧ l.getD 0 0 ≠ 102) then (false, l, true) else (l.getD 0 0 == 116, l.drop 1, false)
set_option maxHeartbeats 4000000 in
set_option maxRecDepth 100000 in
theorem bool_any (g : Nat) (l : List Int) (bad : Bool) (w : World) (h : IsR g w l bad) (ho : okL l) :
    Calls Try.prog 63 #[.pointer (some ⟨g, 0, none⟩)] w fun e w' => e = .returned (.bool (boolS l bad).1) ∧ IsR g w' (boolS l bad).2.1 (boolS l bad).2.2 ∧ Wr w.heap.size g w w' := by
  unfold boolS
  cases bad with
  | true =>
    rw [if_pos (Or.inl rfl)]
    have hi := Aside0.mk h
    obtain ⟨A, c, h1, -, -, -⟩ := h
    have HL := Aside0.mk (atomic_load_t g w _ _ h1)
    clear h1 ho
    go_enter Try.func63, Try.ntmps63
    go_wp2_with (go_at_call 138; (with_reducible refine HL.out.mono ?_); rintro e w' ⟨rfl, rfl⟩)
    go_ret
    exact ⟨rfl, hi.out, Wr.refl _ _ _⟩
  | false =>
    obtain ⟨A, c, h1, h2, h3, h4⟩ := h
    have HL := Aside0.mk (atomic_load_f g w _ _ h1)
    have HS := Aside0.mk (atomic_break g w _ _ _ h1)
    have c0 := blk_cell h1 0
    replace c0 : w.cell? ⟨g, 0, none⟩ = some (.slice A l.length c) := c0
    have K1 := Aside0.mk h1
    have K2 := Aside0.mk h2
    have K3 := Aside0.mk h3
    have K4 := Aside0.mk h4
    by_cases hnil : l = []
    · rw [if_pos (Or.inr (Or.inl hnil))]
      have hz : ((l.length : Int) == 0) = true := by rw [hnil]; rfl
      clear h1 h2 h3 h4 hnil ho
      go_enter Try.func63, Try.ntmps63
      go_wp2_with (first
        | (go_at_call 138; (with_reducible refine HL.out.mono ?_); rintro e w' ⟨rfl, rfl⟩)
        | (go_at_call 139; (with_reducible refine HS.out.mono ?_); rintro e w2 ⟨rfl, hk, hW2⟩; have K := Aside0.mk hk; have HW2 := Aside0.mk hW2; clear hk hW2))
      go_ret
      exact ⟨rfl, ⟨A, c, K.out, C_wr' K2.out HW2.out K4.out, K3.out, K4.out⟩, HW2.out⟩
    · have hpos : 0 < l.length := List.length_pos_iff.2 hnil
      have f0 := blk_frozen h1 0
      obtain ⟨ad, rfl, cb⟩ := C_at h2 0 hpos
      have hx := ho.2 (l.getD 0 0) (by rw [List.getD_eq_getElem?_getD, List.getElem?_eq_getElem hpos]; exact List.getElem_mem _)
      have cb' : w.cell? ad = some (.int .u8 (l.getD 0 0)) := by rw [show ad = ad.add 0 by unfold Addr.add; rfl]; exact cb
      have hz : ((l.length : Int) == 0) = false := by rw [beq_eq_false_iff_ne]; omega
      have hpI : (0 : Int) < (l.length : Int) := by omega
      have h1l : (1 : Int) ≤ (l.length : Int) := by omega
      have HP := Aside0.mk hpos
      obtain ⟨x0, hx0⟩ : ∃ x, l.getD 0 0 = x := ⟨_, rfl⟩
      rw [hx0] at cb cb' hx ⊢
      have hl1 : 1 ≤ l.length := hpos
      clear hx0 h1 h2 h4 cb ho
      by_cases ht : x0 = 116
      · subst ht
        have e : ¬(False ∨ l = [] ∨ ((116 : Int) ≠ 116 ∧ (116 : Int) ≠ 102)) := by rintro (h | h | h); exact h; exact hnil h; exact h.1 rfl
        rw [if_neg (by rintro (h | h | h); cases h; exact hnil h; exact h.1 rfl)]
        clear e hnil hx
        go_enter Try.func63, Try.ntmps63
        go_wp2_with (go_at_call 138; (with_reducible refine HL.out.mono ?_); rintro e w' ⟨rfl, rfl⟩)
        all_goals
          go_ret
          refine ⟨by first | rfl | (simp; done), ?_, (Wr.refl _ _ _).setCell 0 _⟩
          rw [← List.drop_one]
          refine IsR_cut false K1.out K2.out K3.out K4.out 1 HP.out _ _ _ ?_ (by first | rfl | omega) (by first | rfl | omega)
          first
          | (rw [if_pos (by omega)])
          | (rw [if_neg (by omega)]; simp only [Option.map_some]; rw [add_pos _ _ (by omega)])
      · by_cases hf : x0 = 102
        · subst hf
          rw [if_neg (by rintro (h | h | h); cases h; exact hnil h; exact h.2 rfl)]
          clear hnil hx ht
          go_enter Try.func63, Try.ntmps63
          go_wp2_with (go_at_call 138; (with_reducible refine HL.out.mono ?_); rintro e w' ⟨rfl, rfl⟩)
          all_goals
            go_ret
            refine ⟨by first | rfl | (simp; done), ?_, (Wr.refl _ _ _).setCell 0 _⟩
            rw [← List.drop_one]
            refine IsR_cut false K1.out K2.out K3.out K4.out 1 HP.out _ _ _ ?_ (by first | rfl | omega) (by first | rfl | omega)
            first
            | (rw [if_pos (by omega)])
            | (rw [if_neg (by omega)]; simp only [Option.map_some]; rw [add_pos _ _ (by omega)])
        · rw [if_pos (Or.inr (Or.inr ⟨ht, hf⟩))]
          have b1 : (x0 != 116) = true := by rw [bne_iff_ne]; exact ht
          have b2 : (x0 != 102) = true := by rw [bne_iff_ne]; exact hf
          clear hnil ht hf
          go_enter Try.func63, Try.ntmps63
          go_wp2_with (first
            | (go_at_call 138; (with_reducible refine HL.out.mono ?_); rintro e w' ⟨rfl, rfl⟩)
            | (go_at_call 139; (with_reducible refine HS.out.mono ?_); rintro e w2 ⟨rfl, hk, hW2⟩; have K := Aside0.mk hk; have HW2 := Aside0.mk hW2; clear hk hW2))
          go_ret
          exact ⟨rfl, ⟨some ad, c, K.out, C_wr' K2.out HW2.out K4.out, K3.out, K4.out⟩, HW2.out⟩
def doneS (l : List Int) (bad : Bool) : Int := if bad = true ∨ l ≠ [] then 4 else 0
set_option maxHeartbeats 4000000 in
theorem done_any (g : Nat) (l : List Int) (bad : Bool) (w : World) (h : IsR g w l bad) :
    Calls Try.prog 68 #[.pointer (some ⟨g, 0, none⟩)] w fun e w' => e = .returned (.int .i64 (doneS l bad)) ∧ w = w' := by
  unfold doneS
  obtain ⟨A, c, h1, -, -, -⟩ := h
  have c0 := blk_cell h1 0
  replace c0 : w.cell? ⟨g, 0, none⟩ = some (.slice A l.length c) := c0
  cases bad with
  | true =>
    have HL := Aside0.mk (atomic_load_t g w _ _ h1)
    rw [if_pos (Or.inl rfl)]
    clear h1
    go_enter Try.func68, Try.ntmps68
    go_wp2_with (go_at_call 138; (with_reducible refine HL.out.mono ?_); rintro e w' ⟨rfl, rfl⟩)
    go_ret
    exact ⟨rfl, rfl⟩
  | false =>
    have HL := Aside0.mk (atomic_load_f g w _ _ h1)
    by_cases hnil : l = []
    · rw [if_neg (by rintro (h | h); cases h; exact h hnil)]
      subst hnil
      have d : decide ((0 : Int) < ((0 : Nat) : Int)) = false := by decide
      replace c0 : w.cell? ⟨g, 0, none⟩ = some (.slice A 0 c) := c0
      clear h1
      go_enter Try.func68, Try.ntmps68
      go_wp2_with (go_at_call 138; (with_reducible refine HL.out.mono ?_); rintro e w' ⟨rfl, rfl⟩)
      go_ret
      exact ⟨rfl, rfl⟩
    · rw [if_pos (Or.inr hnil)]
      have hpos : (0 : Int) < (l.length : Int) := by have := List.length_pos_iff.2 hnil; omega
      clear h1 hnil
      go_enter Try.func68, Try.ntmps68
      go_wp2_with (go_at_call 138; (with_reducible refine HL.out.mono ?_); rintro e w' ⟨rfl, rfl⟩)
      go_ret
      exact ⟨rfl, rfl⟩
end Go.Proofs.Ytlnpmodhejakiaa.D
