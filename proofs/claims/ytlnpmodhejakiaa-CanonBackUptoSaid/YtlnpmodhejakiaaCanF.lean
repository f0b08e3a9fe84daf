/- stelelaw02.alive. -/
import Derived.Test.YtlnpmodhejakiaaCanE
import Derived.Test.YtlnpmodhejakiaaPCx1
namespace Go.Proofs.Ytlnpmodhejakiaa.D
open Go.RowKit Go.Proofs.YtlnpmodhejakiaaW.PrintWords Go.Proofs.YtlnpmodhejakiaaW.PrintLast Go.Proofs.YtlnpmodhejakiaaW.PrintMore
set_option linter.unusedVariables false
set_option linter.unusedSimpArgs false
/-- a block of bytes as a slice -/
theorem C_blockL (w : World) (g : Nat) (l : List Int) (T : TypeId) (hg : w.heap[g]? = some (.cells (l.map (Value.int .u8)).toArray T (0, 0))) (hl : l.length ≤ 100) (n : Nat) (hn : l.length = n) : Kd.C (Kd.int .u8) w (some ⟨g, 0, none⟩) n l := by
  subst hn
  refine ⟨rfl, by omega, fun _ => ⟨_, rfl, fun j p hj => ⟨[.int .u8 p], rfl, rfl, fun i u hu => ?_⟩⟩⟩
  have hi : i = 0 := by have := (List.getElem?_eq_some_iff.1 hu).1; simp at this; omega
  subst hi
  have hu' : u = .int .u8 p := by simpa using hu.symm
  subst hu'
  rw [addr_add, blk_cell hg]
  have hjl := (List.getElem?_eq_some_iff.1 hj).1
  show ((l.map (Value.int .u8)).toArray)[0 + (j * 1 + 0)]? = _
  rw [show 0 + (j * 1 + 0) = j by omega, List.getElem?_toArray, List.getElem?_map, hj]
  rfl
def exL : List Int := [115, 0, 0, 0, 2, 97, 98]
theorem ex_some : someS exL false 115 = ([97, 98], [], false) := by decide +kernel
theorem ex_str : strOfNums [97, 98] = (⟨#[97, 98]⟩ : ByteArray) := by decide +kernel
theorem ex_ok : okL exL := ⟨by decide, by decide⟩
theorem ex_text : PC.canon_Text.f 10 [] (⟨#[97, 98]⟩ : ByteArray) = some [115, 0, 0, 0, 2, 97, 98] := by decide +kernel
set_option maxHeartbeats 4000000 in
set_option maxRecDepth 100000 in
theorem alive02 (w : World) : Calls Try.prog 46 #[] w fun e w' => e = .returned (.bool true) ∧ Below w.heap.size w w' := by
  have TX := Aside0.mk (show ∀ W, Calls Try.prog 44 #[.slice none 0 0, .string ⟨#[97, 98]⟩] W fun e w' => ∃ A c, e = .returned (.slice A 7 c) ∧ Below W.heap.size W w' from fun W => (PC.canon_Text.calls 10 none 0 [] (⟨#[97, 98]⟩ : ByteArray) _ W ⟨rfl, by simp, fun h => by simp at h⟩ (Nat.le_refl _) ex_text).mono fun e w' ⟨v, he, ho, hb⟩ => by
    obtain ⟨A, c, rfl, _, _⟩ := Kd.R_reads ho
    exact ⟨A, c, he, hb⟩)
  have HB := Aside0.mk (Below.refl w.heap.size w)
  go_enter Try.func46, Try.ntmps46
  go_wp2_with (first
    | ((with_reducible refine gate_dst (N := 2) rfl ?_); refine lit_event rfl (N := 2) rfl (cs := (exL.map (Value.int .u8)).toArray) (t := 5) (n := 7) ?hr ?_; (case hr => first | (go_simp; done) | (go_simp; rfl)); intro g1 hg1 w1 hbox hBl; have HB1 := Aside0.mk (below_step HB.out hBl); have C1 := Aside0.mk (C_blockL w1 g1 exL _ hbox (by decide) 7 rfl); clear hg1 hbox hBl)
    | (go_at_call 56; refine (read_any (some ⟨g1, 0, none⟩) 7 exL _ C1.out (Nat.le_refl _) (by decide)).mono ?_; rintro e w2 ⟨g, rfl, hg, hi, hb⟩; have HI := Aside0.mk hi; have G := Aside0.mk (show w.heap.size ≤ g by have := HB1.out.size; omega); have HB2 := Aside0.mk (below_step HB1.out hb); have TT := Aside0.mk (text_any g exL false w2 hi ex_ok); rw [ex_some] at TT; clear hg hi hb)
    | (go_at_call 61; refine TT.out.mono ?_; rintro e w3 ⟨rfl, hi, hW⟩; have HI3 := Aside0.mk hi; have HB3 := Aside0.mk (HB2.out.trans ((hW.lower HB2.out.size).below G.out)); have DD := Aside0.mk (done_any g [] false w3 hi); have hst := ex_str; clear hi hW)
    | (go_at_call 68; refine DD.out.mono ?_; rintro e w4 ⟨rfl, rfl⟩)
    | (go_at_call 44; (with_reducible refine (TX.out _).mono ?_); rintro e w5 ⟨A, c, rfl, hb⟩; have HB5 := Aside0.mk (below_step HB3.out hb); clear hb))
  go_ret
  exact ⟨rfl, HB5.out⟩
def stelelaw02_alive.f : Option Bool := some true
theorem stelelaw02_alive.calls (r : Bool) (w : World) (h : stelelaw02_alive.f = some r) : Calls Try.prog 46 #[] w fun e w' => e = .returned (.bool r) ∧ Below w.heap.size w w' := by
  obtain rfl := Option.some.inj h
  exact alive02 w
end Go.Proofs.Ytlnpmodhejakiaa.D
