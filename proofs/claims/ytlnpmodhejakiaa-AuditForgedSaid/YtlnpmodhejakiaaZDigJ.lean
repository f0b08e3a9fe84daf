/- digest: Sha256 and Sha1 in the print's form. -/
import Derived.Test.YtlnpmodhejakiaaZDigI
namespace Go.Proofs.Ytlnpmodhejakiaa.D
open Go.RowKit Go.Proofs.YtlnpmodhejakiaaW.PrintWords Go.Proofs.YtlnpmodhejakiaaW.PrintLast Go.Proofs.YtlnpmodhejakiaaW.PrintMore Go.Proofs.Ytlnpmodhejakiaa.Sha
set_option linter.unusedVariables false
set_option linter.unusedSimpArgs false
def zS : Array Value := (List.replicate 8 (Value.int .u32 0) ++ List.replicate 64 (Value.int .u8 0) ++ [Value.int .u64 0, Value.nilFunc]).toArray
theorem stC_one (fn : Nat) (s : HS) : ∀ u ∈ (stC fn s).toList, u.oneCell' = true := by
  intro u hu
  rw [stC_list] at hu
  simp only [List.mem_append, List.mem_map, List.mem_cons, List.not_mem_nil, or_false] at hu
  rcases hu with ⟨x, _, rfl⟩ | ⟨x, _, rfl⟩ | rfl | rfl <;> rfl
theorem part_whole (cur vs : Array Value) (h : cur.size = vs.size) : cur.toList.take 0 ++ vs.toList ++ cur.toList.drop (0 + vs.size) = vs.toList := by
  rw [Nat.zero_add, List.take_zero, List.nil_append, ← h, ← Array.length_toList, List.drop_length, List.append_nil]
theorem far_block {w : World} {A : Option Addr} {l : List Int} (hr : Kd.C (Kd.int .u8) w A l.length l) (h0 : 0 < l.length) (ad : Addr) (h : A = some ad) {g : Nat} (hg : w.heap.size ≤ g) : ad.block ≠ g := by
  subst h
  have h1 := byte_cells hr 0 _ (List.getElem?_eq_getElem h0)
  have := World.block_lt_of_cell? w _ h1
  have hb : (ad.add 0).block = ad.block := by unfold Addr.add; split <;> rfl
  omega
theorem infoS : (Try.prog.info? 138).map (·.size) = some 74 := by kernel_rfl
theorem start256_sz : (stC 179 start256).size = 74 := by rfl
set_option maxHeartbeats 4000000 in
set_option maxRecDepth 100000 in
theorem start256_any (w : World) : Calls Try.prog 125 #[] w fun e w' => e = .returned (.agg (stC 179 start256)) ∧ Below w.heap.size w w' := by
  go_enter Try.func125, Try.ntmps125
  go_wp2_with (first
    | ((with_reducible refine gate_dst (N := 0) rfl ?_); refine box_event ?hg (N := 0) ?hd (cs := zS) (t := 138) ?hr ?_; (case hd => rfl); (case hg => rfl); (case hr => first | (go_simp; done) | (go_simp; rfl)); intro g0 hg0 w1 hbox hBl; have HB := Aside0.mk hBl; have K0 := Aside0.mk hbox; have G0 := Aside0.mk (Nat.le_of_eq hg0.symm); clear hg0 hbox hBl)
    | ((with_reducible refine gate_dst (N := 2) rfl ?_); refine Kd.event_run (v := .agg (stC 179 start256)) (w1 := _) rfl ?hr ?_; (case hr => first | (go_simp; done) | (go_simp; rfl)))
    | ((with_reducible refine gate_store (p := 0) rfl ?_); refine store_part_event rfl rfl 138 (.tmp 0) (.tmp 2) rfl g0 0 rfl (stC 179 start256) rfl ?h1 _ (stC 179 start256) _ K0.out ?h2 ?h4 ?h3 ?_; (case h1 => rw [start256_sz]; exact infoS); (case h2 => rw [start256_sz]; decide); (case h4 => exact stC_one _ _); (case h3 => exact part_whole _ _ rfl); intro w2 hb2 hW; have b_ := Aside0.mk ((HB.out.trans ((hW.lower HB.out.size).below G0.out))); have k_ := Aside0.mk hb2; clear hW hb2))
  exact bodyPost_ret (v := .agg (stC 179 start256)) (results_cell_row (fn := Try.f125) (p := 0) (ty := 138) rfl _ _ g0 138 _ (0, 0) _ rfl k_.out Try.underlying138 rfl (by rw [start256_sz]; exact infoS)) rfl ⟨rfl, b_.out⟩
set_option maxHeartbeats 4000000 in
set_option maxRecDepth 100000 in
theorem sha256_any (A0 : Option Addr) (c0 : Nat) (l0 : List Int) (w : World) (hr0 : Kd.C (Kd.int .u8) w A0 l0.length l0) (hc0 : l0.length ≤ c0) (hl : l0.length ≤ 140737488355328) (hb : ∀ x ∈ l0, 0 ≤ x ∧ x ≤ 255) :
    Calls Try.prog 32 #[.slice A0 l0.length c0] w fun e w' => ∃ v0_ : Value, e = .returned v0_ ∧ Kd.R (Kd.int .u8) 5 w' w.heap.size (fun _ => True) v0_ (sha256 l0) ∧ Below w.heap.size w w' := by
  have HR := Aside0.mk hr0
  have HD := Aside0.mk hb
  have hsz := Aside0.mk (start256_sz)
  have okst := Aside0.mk (show okS start256 from ⟨rfl, by intro x hx; rw [show start256.block = List.replicate 64 0 from rfl, List.mem_replicate] at hx; omega⟩)
  clear hr0 hb
  go_enter Try.func32, Try.ntmps32
  go_wp2_with (first
    | (go_at_call 125; refine (start256_any _).mono ?_; rintro e w1 ⟨rfl, hb1⟩; have HB := Aside0.mk hb1; clear hb1)
    | ((with_reducible refine gate_dst (N := 3) rfl ?_); refine box_event ?hg (N := 3) ?hd (cs := zS) (t := 138) ?hr ?_; (case hd => rfl); (case hg => rfl); (case hr => first | (go_simp; done) | (go_simp; rfl)); intro g0 hg0 w2 hbox hBl; have HB2 := Aside0.mk (below_step HB.out hBl); have K0 := Aside0.mk hbox; have G0 := Aside0.mk (show w.heap.size ≤ g0 by have := HB.out.size; omega); clear hg0 hbox hBl)
    | ((with_reducible refine gate_store (p := 3) rfl ?_); refine store_part_event rfl rfl 138 (.tmp 3) (.tmp 4) rfl g0 0 rfl (stC 179 start256) rfl ?h1 _ (stC 179 start256) _ K0.out ?h2 ?h4 ?h3 ?_; (case h1 => rw [start256_sz]; exact infoS); (case h2 => rw [start256_sz]; decide); (case h4 => exact stC_one _ _); (case h3 => exact part_whole _ _ rfl); intro w3 hb3 hW; have b_ := Aside0.mk ((HB2.out.trans ((hW.lower HB2.out.size).below G0.out))); have k_ := Aside0.mk hb3; clear hW hb3)
    | (go_at_call 119; refine (add256_any g0 138 start256 okst.out A0 c0 l0 _ (Kd.C_below HR.out b_.out) hc0 (fun h0 ad h => far_block HR.out h0 ad h G0.out) HD.out (by show 0 + l0.length ≤ _; omega) k_.out).mono ?_; rintro e w4 ⟨rfl, hg4, hW4⟩; have k4_ := Aside0.mk hg4; have b4_ := Aside0.mk (below_wr b_.out hW4 G0.out); clear hg4 hW4)
    | ((with_reducible refine gate_dst (N := 7) rfl ?_); refine wpList_load_part rfl 138 (.tmp 3) rfl g0 0 rfl (stC 179 (add comp256 start256 l0)).toList _ ?h1 Try.underlying138 rfl ?h2 ?_; (case h1 => intro j v hj; rw [Nat.zero_add, blk_cell k4_.out]; simpa using hj); (case h2 => rw [Array.length_toList, stC_size _ _ (okS_add comp256 start256 l0 okst.out HD.out).1]; exact infoS); rw [Array.toArray_toList])
    | (go_at_call 120; refine (sum256_any (add comp256 start256 l0) (okS_add comp256 start256 l0 okst.out HD.out) (by rw [add_n]; show 0 + l0.length ≤ _; omega) 8 (by omega) _).mono ?_; rintro e w5 ⟨v0, rfl, ho, hb5⟩; have o_ := Aside0.mk (Kd.R_lower ho b4_.out.size); have b5_ := Aside0.mk (below_step b4_.out hb5); clear ho hb5))
  go_ret
  exact ⟨_, rfl, o_.out, b5_.out⟩
def okB (l : List Int) : Prop := l.length ≤ 140737488355328 ∧ ∀ x ∈ l, 0 ≤ x ∧ x ≤ 255
instance (l : List Int) : Decidable (okB l) := inferInstanceAs (Decidable (_ ∧ _))
def digest_Sha256.f (l0 : List Int) : Option (List Int) := if okB l0 then some (sha256 l0) else none
theorem digest_Sha256.calls (A0 : Option Addr) (c0 : Nat) (l0 : List Int) (r : List Int) (w : World) (hr0 : Kd.C (Kd.int .u8) w A0 l0.length l0) (hc0 : l0.length ≤ c0) (h : digest_Sha256.f l0 = some r) :
    Calls Try.prog 32 #[.slice A0 l0.length c0] w fun e w' => ∃ v0_ : Value, e = .returned v0_ ∧ Kd.R (Kd.int .u8) 5 w' w.heap.size (fun _ => True) v0_ r ∧ Below w.heap.size w w' := by
  unfold digest_Sha256.f at h
  by_cases hh : okB l0
  · rw [if_pos hh] at h
    obtain rfl := Option.some.inj h
    exact sha256_any A0 c0 l0 w hr0 hc0 hh.1 hh.2
  · rw [if_neg hh] at h; cases h
end Go.Proofs.Ytlnpmodhejakiaa.D
