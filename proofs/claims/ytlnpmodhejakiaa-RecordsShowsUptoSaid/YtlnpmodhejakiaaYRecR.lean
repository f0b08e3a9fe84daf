/- The reader of package records: read, and its numbers. -/
import Derived.Test.YtlnpmodhejakiaaYCanD
import Derived.Test.YtlnpmodhejakiaaYMc
import Derived.Test.YtlnpmodhejakiaaYMb
namespace Go.Proofs.Ytlnpmodhejakiaa.RW
open Go.RowKit Go.Proofs.YtlnpmodhejakiaaW.PrintWords Go.Proofs.YtlnpmodhejakiaaW.PrintLast Go.Proofs.YtlnpmodhejakiaaW.PrintMore Go.Proofs.Ytlnpmodhejakiaa.Sha Go.Proofs.Ytlnpmodhejakiaa.D Go.Proofs.Ytlnpmodhejakiaa.PC Go.Proofs.Ytlnpmodhejakiaa.CP
set_option linter.unusedVariables false
set_option linter.unusedSimpArgs false
structure IsD (g gr : Nat) (w : World) (l : List Int) (bad big : Bool) : Prop where
  blk : w.heap[g]? = some (.cells #[.pointer (some ⟨gr, 0, none⟩), .bool big] 178 (0, 0))
  ne : gr ≠ g
  rd : IsR gr w l bad
theorem IsD.below {g gr : Nat} {w w' : World} {l : List Int} {bad big : Bool} (h : IsD g gr w l bad big) (hb : Below w.heap.size w w') : IsD g gr w' l bad big := ⟨blk_below h.blk hb, h.ne, h.rd.below hb⟩
structure Wd (g gr : Nat) (w w' : World) : Prop where
  os : w'.os = w.os
  tape : w'.tape = w.tape
  output : w'.output = w.output
  size : w.heap.size ≤ w'.heap.size
  block : ∀ k, k < w.heap.size → k ≠ g → k ≠ gr → w'.heap[k]? = w.heap[k]?
theorem Wd.below {g gr b : Nat} {w w' : World} (h : Wd g gr w w') (h1 : b ≤ g) (h2 : b ≤ gr) (h3 : b ≤ w.heap.size) : Below b w w' := ⟨h.os, h.tape, h.output, h.size, fun k hk => h.block k (by omega) (by omega) (by omega)⟩
theorem Wd.of {g gr : Nat} {w w' : World} (h : Wr w.heap.size gr w w') : Wd g gr w w' := ⟨h.os, h.tape, h.output, h.size, fun k hk _ h2 => h.block k hk h2⟩
theorem Wd.setCell {g gr : Nat} {w w' : World} (h : Wd g gr w w') (i : Nat) (u : Value) : Wd g gr w (w'.setCell ⟨g, i, none⟩ u) :=
  ⟨h.os, h.tape, h.output, by simpa [World.setCell] using h.size, fun k hk h1 h2 => (Below.heap_setCell w' ⟨g, i, none⟩ u k h1).trans (h.block k hk h1 h2)⟩
theorem cell_inR {w : World} {p : Addr} {v : Value} {cs : Array Value} {T : TypeId} (h : w.cell? p = some v) (hg : w.heap[p.block]? = some (.cells cs T (0, 0))) : v ∈ cs.toList := by
  unfold World.cell? at h
  rw [hg] at h
  simp only at h
  split at h
  · cases h
  · obtain ⟨hi, e⟩ := Array.getElem?_eq_some_iff.1 h
    rw [← e, Array.mem_toList_iff]
    exact Array.getElem_mem hi
theorem IsR.setFar {g gr : Nat} {w : World} {l : List Int} {bad big : Bool} (h : IsR gr w l bad) (hg : w.heap[g]? = some (.cells #[.pointer (some ⟨gr, 0, none⟩), .bool big] 178 (0, 0))) (hne : gr ≠ g) (u : Value) : IsR gr (w.setCell ⟨g, 1, none⟩ u) l bad := by
  obtain ⟨A, c, h1, h2, h3, h4⟩ := h
  refine ⟨A, c, blk_far h1 hne _, C_wr' h2 ((Wr.refl _ g _).setCell 1 _) (fun h0 ad hA hb => ?_), h3, h4⟩
  obtain ⟨ad', e, hc⟩ := C_at h2 0 h0
  rw [hA] at e
  cases e
  have hb' : (ad.add 0).block = g := by rw [← hb]; unfold Addr.add; split <;> rfl
  have := cell_inR hc (by rw [hb']; exact hg)
  simp at this
set_option maxHeartbeats 8000000 in
set_option maxRecDepth 100000 in
theorem dread_any (A : Option Addr) (c : Nat) (l : List Int) (w : World) (hC : Kd.C (Kd.int .u8) w A l.length l) (hc : l.length ≤ c) (hl : l.length < 140737488355328) :
    Calls Try.prog 151 #[.slice A l.length c] w fun e w' => ∃ g gr, e = .returned (.pointer (some ⟨g, 0, none⟩)) ∧ w.heap.size ≤ g ∧ w.heap.size ≤ gr ∧ IsD g gr w' l false false ∧ Below w.heap.size w w' := by
  have hu := Try.underlying178
  have HC := Aside0.mk (read_any A c l w hC hc hl)
  clear hC hc hl
  go_enter Try.func151, Try.ntmps151
  go_wp2_with (first
    | (go_at_call 56; (with_reducible refine (HC.out).mono ?_); rintro e w1 ⟨gr, rfl, hg, hi, hb⟩; have HI := Aside0.mk hi; have GR := Aside0.mk hg; have HB := Aside0.mk hb; have LT := Aside0.mk hi.lt; clear hi hg hb)
    | ((with_reducible refine gate_dst (N := 6) rfl ?_); refine box_event ?hg (N := 6) ?hd (cs := #[.pointer (some ⟨gr, 0, none⟩), .bool false]) (t := 178) ?hr ?_; (case hd => rfl); (case hg => rfl); (case hr => first | (go_simp; done) | (go_simp; rfl)); intro g hg wb hbox hb; have HD := Aside0.mk (show IsD g gr wb l false false from ⟨hbox, by rw [hg]; exact Nat.ne_of_lt LT.out, HI.out.below hb⟩); have GE := Aside0.mk (by rw [hg]; exact below_size HB.out : w.heap.size ≤ g); have nb_ := Aside0.mk (below_step HB.out hb); clear HB; have HB := nb_; clear nb_ hbox hb hg))
  go_ret
  exact ⟨g, gr, rfl, GE.out, GR.out, HD.out, HB.out⟩
set_option maxHeartbeats 8000000 in
set_option maxRecDepth 100000 in
theorem dint_any (g gr : Nat) (l : List Int) (bad big : Bool) (w : World) (h : IsD g gr w l bad big) (ho : okL l) (n : Int) (l' : List Int) (q : Bool) (hu : uintS l bad = (n, l', q)) (hn : 0 ≤ n ∧ n ≤ 18446744073709551615) (big' : Bool) (hb' : big' = (big || decide (2147483647 < n))) :
    Calls Try.prog 152 #[.pointer (some ⟨g, 0, none⟩)] w fun e w' => e = .returned (.int .i64 (mn n 2147483647)) ∧ IsD g gr w' l' q big' ∧ Wd g gr w w' := by
  have hur := Try.underlying178
  have UC := Aside0.mk (uint_any gr l bad w h.rd ho)
  rw [hu] at UC
  have HG := Aside0.mk h.blk
  have NE := Aside0.mk h.ne
  have GS := Aside0.mk (blk_lt h.blk)
  have hz0 : w.cell? ⟨g, 0, none⟩ = some (.pointer (some ⟨gr, 0, none⟩)) := (blk_cell h.blk 0).trans rfl
  have HBB := Aside0.mk hb'
  have CALLS : True := trivial
  clear h ho hu hb'
  by_cases hm : 2147483647 < n
  · have d0 : decide (2147483647 < n) = true := decide_eq_true hm
    have w1 : IntKind.i64.wrap 2147483647 = 2147483647 := by decide
    have HM := Aside0.mk (show mn n 2147483647 = 2147483647 from by unfold mn; split <;> omega)
    have HN := Aside0.mk (show big' = true from by rw [HBB.out, d0]; simp)
    cases big with
    | true =>
      go_enter Try.func152, Try.ntmps152
      go_wp2_with (go_at_call 57; (with_reducible refine (UC.out).mono ?_); rintro e w4 ⟨rfl, hi, hw⟩; have HI := Aside0.mk hi; have B1 := Aside0.mk (hw.blk HG.out GS.out (Ne.symm NE.out)); have HW := Aside0.mk (Wd.of (g := g) hw); clear hi hw; have hz1 := (blk_cell B1.out 1).trans (show _ = some (Value.bool _) from rfl); have fz1 := blk_frozen B1.out 1)
      go_ret
      exact ⟨by rw [HM.out]; rfl, ⟨by rw [HN.out]; exact blk_put B1.out 1 _ rfl, NE.out, IsR.setFar HI.out B1.out NE.out _⟩, HW.out.setCell 1 _⟩
    | false =>
      go_enter Try.func152, Try.ntmps152
      go_wp2_with (go_at_call 57; (with_reducible refine (UC.out).mono ?_); rintro e w4 ⟨rfl, hi, hw⟩; have HI := Aside0.mk hi; have B1 := Aside0.mk (hw.blk HG.out GS.out (Ne.symm NE.out)); have HW := Aside0.mk (Wd.of (g := g) hw); clear hi hw; have hz1 := (blk_cell B1.out 1).trans (show _ = some (Value.bool _) from rfl); have fz1 := blk_frozen B1.out 1)
      go_ret
      exact ⟨by rw [HM.out]; rfl, ⟨by rw [HN.out]; exact blk_put B1.out 1 _ rfl, NE.out, IsR.setFar HI.out B1.out NE.out _⟩, HW.out.setCell 1 _⟩
  · have d0 : decide (2147483647 < n) = false := decide_eq_false hm
    have w1 : IntKind.i64.wrap n = n := IntWalk.i64_in _ (by omega)
    have HM := Aside0.mk (show mn n 2147483647 = n from by unfold mn; split <;> omega)
    have HN := Aside0.mk (show big' = big from by rw [HBB.out, d0]; simp)
    cases big with
    | true =>
      go_enter Try.func152, Try.ntmps152
      go_wp2_with (go_at_call 57; (with_reducible refine (UC.out).mono ?_); rintro e w4 ⟨rfl, hi, hw⟩; have HI := Aside0.mk hi; have B1 := Aside0.mk (hw.blk HG.out GS.out (Ne.symm NE.out)); have HW := Aside0.mk (Wd.of (g := g) hw); clear hi hw; have hz1 := (blk_cell B1.out 1).trans (show _ = some (Value.bool _) from rfl); have fz1 := blk_frozen B1.out 1)
      go_ret
      exact ⟨by rw [HM.out]; rfl, ⟨by rw [HN.out]; exact blk_put B1.out 1 _ rfl, NE.out, IsR.setFar HI.out B1.out NE.out _⟩, HW.out.setCell 1 _⟩
    | false =>
      go_enter Try.func152, Try.ntmps152
      go_wp2_with (go_at_call 57; (with_reducible refine (UC.out).mono ?_); rintro e w4 ⟨rfl, hi, hw⟩; have HI := Aside0.mk hi; have B1 := Aside0.mk (hw.blk HG.out GS.out (Ne.symm NE.out)); have HW := Aside0.mk (Wd.of (g := g) hw); clear hi hw; have hz1 := (blk_cell B1.out 1).trans (show _ = some (Value.bool _) from rfl); have fz1 := blk_frozen B1.out 1)
      go_ret
      exact ⟨by rw [HM.out]; rfl, ⟨by rw [HN.out]; exact blk_put B1.out 1 _ rfl, NE.out, IsR.setFar HI.out B1.out NE.out _⟩, HW.out.setCell 1 _⟩
end Go.Proofs.Ytlnpmodhejakiaa.RW
