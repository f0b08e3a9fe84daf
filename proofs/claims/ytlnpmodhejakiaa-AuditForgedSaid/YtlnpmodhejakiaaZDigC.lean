/- digest.round256. -/
import Derived.Test.YtlnpmodhejakiaaZDigB
namespace Go.Proofs.Ytlnpmodhejakiaa.D
open Go.RowKit Go.Proofs.YtlnpmodhejakiaaW.PrintWords Go.Proofs.YtlnpmodhejakiaaW.PrintLast Go.Proofs.YtlnpmodhejakiaaW.PrintMore Go.Proofs.Ytlnpmodhejakiaa.Sha
set_option linter.unusedVariables false
set_option linter.unusedSimpArgs false
theorem info64b : (Try.prog.info? 135).map (·.size) = some 64 := by kernel_rfl
theorem info64w : (Try.prog.info? 236).map (·.size) = some 64 := by kernel_rfl
theorem info8w : (Try.prog.info? 134).map (·.size) = some 8 := by kernel_rfl
set_option maxHeartbeats 4000000 in
set_option maxRecDepth 100000 in
theorem round256_any (gs : Nat) (T : TypeId) (R : Array Value) (h : V8) (b : List Int) (hb : b.length = 64) (hbd : ∀ x ∈ b, 0 ≤ x ∧ x ≤ 255) (w : World) (hg : w.heap[gs]? = some (.cells (aU32 h.l ++ R) T (0, 0))) :
    Calls Try.prog 179 #[.pointer (some ⟨gs, 0, none⟩), .agg (aU8 b)] w fun e w' => e = .returned (.tuple #[]) ∧ w'.heap[gs]? = some (.cells (aU32 (comp256 h b).l ++ R) T (0, 0)) ∧ Wr w.heap.size gs w w' := by
  have HG := Aside0.mk hg
  have HL := Aside0.mk hb
  have HD := Aside0.mk hbd
  clear hg hb hbd
  have hsz : (aU8 b).size = 64 := by rw [aU8_size, HL.out]
  go_enter Try.func179, Try.ntmps179
  go_wp2_with (first
    | ((with_reducible refine gate_dst (N := 3) rfl ?_); refine box_event ?hg (N := 3) ?hd (cs := aU8 b) (t := 135) ?hr ?_; (case hd => rfl); (case hg => rfl); (case hr => first | (go_simp; done) | (go_simp; rfl)); intro g3 hg3 w1 hbox hBl; have HB1 := Aside0.mk hBl; have K3 := Aside0.mk hbox; have G3 := Aside0.mk (Nat.le_of_eq hg3.symm); clear hg3 hbox hBl)
    | ((with_reducible refine gate_dst (N := 17) rfl ?_); refine Kd.event_run (v := .agg (aU32 k256)) (w1 := w1) rfl ?hr ?_; (case hr => rw [k256_cells]; first | (go_simp; done) | (go_simp; rfl)))
    | ((with_reducible refine gate_dst (N := 4) rfl ?_); refine box_event ?hg (N := 4) ?hd (cs := (List.replicate 64 (Value.int .u32 0)).toArray) (t := 236) ?hr ?_; (case hd => rfl); (case hg => rfl); (case hr => first | (go_simp; done) | (go_simp; rfl)); intro g4 hg4 w2 hbox hBl; have n0_ := Aside0.mk (below_step HB1.out hBl); have K4 := Aside0.mk hbox; have G4 := Aside0.mk (Nat.le_of_eq hg4.symm); have k3_ := Aside0.mk (blk_below K3.out hBl); have H3 := Aside0.mk (show g3 ≠ g4 by have := blk_lt K3.out; omega); clear hg4 hbox hBl K3; have K3 := k3_; have HB2 := n0_; clear k3_ n0_)
    | ((with_reducible refine gate_store (p := 4) rfl ?_); refine store_part_event rfl rfl 236 (.tmp 4) (.tmp 17) rfl g4 0 rfl (aU32 k256) rfl ?h1 _ (aU32 k256) _ K4.out ?h2 (aU32_one _) ?h3 ?_; (case h1 => rw [aU32_size]; exact info64w); (case h2 => simp [aU32_size, k256]); (case h3 => simp [aU32, k256]); intro w3 hb4 hW; have n0_ := Aside0.mk (HB2.out.trans ((hW.lower HB2.out.size).below (Nat.le_trans HB1.out.size G4.out))); have k3_ := Aside0.mk (hW.blk K3.out (blk_lt K3.out) H3.out); clear K4 K3 hW; have K4 := Aside0.mk hb4; have K3 := k3_; have HB3 := n0_; clear k3_ n0_ hb4)
    | ((with_reducible refine gate_dst (N := 5) rfl ?_); refine box_event ?hg (N := 5) ?hd (cs := aU32 (List.replicate 64 0)) (t := 236) ?hr ?_; (case hd => rfl); (case hg => rfl); (case hr => rw [zeros_cells]; first | (go_simp; done) | (go_simp; rfl)); intro g5 hg5 w5 hbox hBl; have n0_ := Aside0.mk (below_step HB3.out hBl); have K5 := Aside0.mk hbox; have k3_ := Aside0.mk (blk_below K3.out hBl); have k4_ := Aside0.mk (blk_below K4.out hBl); have H5 := Aside0.mk (show w.heap.size ≤ g3 ∧ w.heap.size ≤ g4 ∧ w.heap.size ≤ g5 ∧ g3 ≠ g4 ∧ g3 ≠ g5 ∧ g4 ≠ g5 from ⟨G3.out, Nat.le_trans HB1.out.size G4.out, by have := HB3.out.size; omega, H3.out, by have := blk_lt K3.out; omega, by have := blk_lt K4.out; omega⟩); clear hg5 hbox hBl K3 K4 G3 G4 H3 HB1 HB2 HB3; have K3 := k3_; have K4 := k4_; have HB5 := n0_; clear k3_ k4_ n0_))
  go_loopw [18] (fun v wr => ∃ k : Nat, k ≤ 64 ∧ v = .int .i64 k ∧ Aside0 (wr.heap[g3]? = some (.cells (aU8 b) 135 (0, 0))) ∧ Aside0 (wr.heap[g4]? = some (.cells (aU32 k256) 236 (0, 0))) ∧ Aside0 (wr.heap[g5]? = some (.cells (aU32 (sched (next256 b) k ++ List.replicate (64 - k) 0)) 236 (0, 0))) ∧ Aside0 (Below w.heap.size w wr)) (fun v _ => 64 - (intOf v).toNat)
  case atStart => exact ⟨0, Nat.zero_le _, rfl, K3, K4, K5, HB5⟩
  case round =>
    clear K3 K4 K5 HB5
    obtain ⟨k, hk, rfl, K3, K4, K5, HB⟩ := hrel
    by_cases hlt : k < 64
    · by_cases h16 : k < 16
      · go_wp2_with (first
          | (refine wpList_load_part rfl 135 (.tmp 3) rfl g3 0 rfl (aU8 b).toList _ ?h1 Try.underlying135 rfl ?h2 ?_; (case h1 => intro j v hj; rw [Nat.zero_add, blk_cell K3.out]; simpa using hj); (case h2 => rw [Array.length_toList, hsz]; exact info64b); rw [Array.toArray_toList])
          | (go_at_call 196; refine (word_any b k HL.out h16 HD.out _).mono ?_; rintro e w7 ⟨rfl, hb7⟩; have n5_ := (blk_cell (blk_below K5.out hb7) k).trans (sched_zero (next256 b) 64 k hlt); have f5_ := blk_frozen (blk_below K5.out hb7) k))
        have hne := H5.out
        have hnx : next256 b (sched (next256 b) k) k = wd b k := by unfold next256; rw [if_pos h16]
        go_roundw
        · refine ⟨k + 1, by omega, by simp, ⟨blk_far (blk_below K3.out hb7) (p := ⟨g5, k, none⟩) hne.2.2.2.2.1 _⟩, ⟨blk_far (blk_below K4.out hb7) (p := ⟨g5, k, none⟩) hne.2.2.2.2.2 _⟩, ⟨?_⟩, ⟨(below_step HB.out hb7).setCell hne.2.2.1 _⟩⟩
          exact blk_put (blk_below K5.out hb7) k _ (by rw [← hnx]; exact sched_put _ 64 k hlt)
        · show 64 - ((k : Int) + 1).toNat < 64 - (k : Int).toNat; omega
      · have hne := Aside0.mk H5.out
        have c15 := (blk_cell K5.out (k - 15)).trans (sched_cell (next256 b) 64 k (k - 15) hk (by omega))
        have c2 := (blk_cell K5.out (k - 2)).trans (sched_cell (next256 b) 64 k (k - 2) hk (by omega))
        have c16 := (blk_cell K5.out (k - 16)).trans (sched_cell (next256 b) 64 k (k - 16) hk (by omega))
        have c7 := (blk_cell K5.out (k - 7)).trans (sched_cell (next256 b) 64 k (k - 7) hk (by omega))
        have hnx := Aside0.mk (show next256 b (sched (next256 b) k) k = _ from if_neg h16)
        obtain ⟨X15, h15⟩ : ∃ X, (sched (next256 b) k).getD (k - 15) 0 = X := ⟨_, rfl⟩
        obtain ⟨X2, h2⟩ : ∃ X, (sched (next256 b) k).getD (k - 2) 0 = X := ⟨_, rfl⟩
        obtain ⟨X16, h16'⟩ : ∃ X, (sched (next256 b) k).getD (k - 16) 0 = X := ⟨_, rfl⟩
        obtain ⟨X7, h7⟩ : ∃ X, (sched (next256 b) k).getD (k - 7) 0 = X := ⟨_, rfl⟩
        rw [h15, h2, h16', h7] at hnx
        rw [h15] at c15
        rw [h2] at c2
        rw [h16'] at c16
        rw [h7] at c7
        clear h15 h2 h16' h7
        have q15 := (IntWalk.i64_in ((k : Int) - 15) (by omega)); have z15 : (0 : Int) ≤ (k : Int) - 15 := by omega
        have q2 := (IntWalk.i64_in ((k : Int) - 2) (by omega)); have z2 : (0 : Int) ≤ (k : Int) - 2 := by omega
        have q16 := (IntWalk.i64_in ((k : Int) - 16) (by omega)); have z16 : (0 : Int) ≤ (k : Int) - 16 := by omega
        have q7 := (IntWalk.i64_in ((k : Int) - 7) (by omega)); have z7 : (0 : Int) ≤ (k : Int) - 7 := by omega
        have y15 : (15 : Int) ≤ (k : Int) := by omega
        have y2 : (2 : Int) ≤ (k : Int) := by omega
        have y16 : (16 : Int) ≤ (k : Int) := by omega
        have y7 : (7 : Int) ≤ (k : Int) := by omega
        have l15 : (k : Int) - 15 < 64 := by omega
        have l2 : (k : Int) - 2 < 64 := by omega
        have l16 : (k : Int) - 16 < 64 := by omega
        have l7 : (k : Int) - 7 < 64 := by omega
        have t15 : ((k : Int) - 15).toNat = k - 15 := by omega
        have t2 : ((k : Int) - 2).toNat = k - 2 := by omega
        have t16 : ((k : Int) - 16).toNat = k - 16 := by omega
        have t7 : ((k : Int) - 7).toNat = k - 7 := by omega
        go_wp2
        go_quiet (fail)
        clear q15 q2 z15 z2 y15 y2 l15 l2 t15 t2 c15 c2
        go_wp2
        have C16 : ∀ n, ((wr.drewN n).drew).cell? ⟨g5, k - 16, none⟩ = some (.int .u32 (n32 X16)) := fun n => c16
        have C7 : ∀ n, ((wr.drewN n).drew).cell? ⟨g5, k - 7, none⟩ = some (.int .u32 (n32 X7)) := fun n => c7
        have Ck : ∀ n, ((wr.drewN n).drew).cell? ⟨g5, k, none⟩ = some (.int .u32 0) := fun n => (blk_cell K5.out k).trans (sched_zero (next256 b) 64 k hlt)
        have Fk : ∀ n, ((wr.drewN n).drew).frozen? ⟨g5, k, none⟩ = false := fun n => blk_frozen K5.out k
        refine wp_region_still_tail 29 (by kernel_rfl) (by kernel_rfl) ?_
        simp only [List.take_succ_cons, List.take_zero, List.drop_succ_cons, List.drop_zero]
        change wpStill _ _ (World.drew _) (fun a' => wpList _ _ _ _ a' (World.drew _)) _ _
        have K5' : ((wr.drewN nq).drew).heap[g5]? = some (.cells (aU32 (sched (next256 b) k ++ List.replicate (64 - k) 0)) 236 (0, 0)) := K5.out
        have K3' : ((wr.drewN nq).drew).heap[g3]? = some (.cells (aU8 b) 135 (0, 0)) := K3.out
        have K4' : ((wr.drewN nq).drew).heap[g4]? = some (.cells (aU32 k256) 236 (0, 0)) := K4.out
        have HB' : Below w.heap.size w ((wr.drewN nq).drew) := below_drew (pw_below_drewN HB.out nq)
        replace C16 := C16 nq
        replace C7 := C7 nq
        replace Ck := Ck nq
        replace Fk := Fk nq
        generalize (wr.drewN nq).drew = w9 at C16 C7 Ck Fk K3' K4' K5' HB' ⊢
        clear K3 K4 K5 HB c16 c7
        have K3 := Aside0.mk K3'
        have K4 := Aside0.mk K4'
        have K5 := Aside0.mk K5'
        have HB := Aside0.mk HB'
        clear K3' K4' K5' HB'
        iterate 6 still_step
        still_call (rot_m7 X15 w9)
        still_step
        still_call (rot_m18 X15 w9)
        iterate 11 still_step
        still_call (rot_m17 X2 w9)
        still_step
        still_call (rot_m19 X2 w9)
        iterate 6 still_step
        refine wpStill_nil ?_
        clear q16 q7 z16 z7 y16 y7 l16 l7 t16 t7 C16 C7
        go_wp2
        go_roundw
        · refine ⟨k + 1, by omega, by simp, ⟨blk_far K3.out (p := ⟨g5, k, none⟩) hne.out.2.2.2.2.1 _⟩, ⟨blk_far K4.out (p := ⟨g5, k, none⟩) hne.out.2.2.2.2.2 _⟩, ⟨?_⟩, ⟨HB.out.setCell hne.out.2.2.1 _⟩⟩
          refine blk_put K5.out k _ ?_
          rw [← sched_put (next256 b) 64 k hlt, hnx.out]
          congr 2
          exact sched_val X16 X15 X7 X2
        · show 64 - ((k : Int) + 1).toNat < 64 - (k : Int).toNat; omega
    · obtain rfl : k = 64 := by omega
      rw [Nat.sub_self, List.replicate_zero, List.append_nil] at K5
      clear hk hlt
      have hsL := Aside0.mk (sched_len (next256 b) 64)
      obtain ⟨ws, hws⟩ : ∃ l, sched (next256 b) 64 = l := ⟨_, rfl⟩
      rw [hws] at K5 hsL
      have HWS := Aside0.mk hws
      clear hws
      have hlt0 : gs < w.heap.size := blk_lt HG.out
      have KG := Aside0.mk ((HB.out.block gs hlt0).trans HG.out)
      clear hlt0
      have hl8 : (aU32 h.l).size = 8 := aU32_size _
      go_wp2_with (first
        | ((with_reducible refine gate_dst (N := 68) rfl ?_); refine wpList_load_part rfl 134 _ rfl gs 0 rfl (aU32 h.l).toList _ ?h1 Try.underlying134 rfl ?h2 ?_; (case h1 => intro j v hj; rw [Nat.zero_add, blk_cell KG.out]; have hj' : j < (aU32 h.l).size := (by rw [← Array.length_toList]; exact (List.getElem?_eq_some_iff.1 hj).1);
                                                                                                                                                                                      rw [Array.getElem?_append_left hj']; simpa using hj); (case h2 => rw [Array.length_toList, hl8]; exact info8w); rw [Array.toArray_toList])
        | ((with_reducible refine gate_dst (N := 9) rfl ?_); refine box_event ?hg (N := 9) ?hd (cs := aU32 (List.replicate 8 0)) (t := 134) ?hr ?_; (case hd => rfl); (case hg => rfl); (case hr => rw [zeros_cells]; first | (go_simp; done) | (go_simp; rfl)); intro g9 hg9 w9 hbox hBl; have n0_ := Aside0.mk (below_step HB.out hBl); have K9 := Aside0.mk hbox; have k4_ := Aside0.mk (blk_below K4.out hBl); have k5_ := Aside0.mk (blk_below K5.out hBl); have kg_ := Aside0.mk (blk_below KG.out hBl); have H9 := Aside0.mk (show w.heap.size ≤ g9 ∧ g4 ≠ g9 ∧ gs ≠ g9 ∧ g5 ≠ g9 from ⟨by have := HB.out.size; omega, by have := blk_lt K4.out; omega, by have := blk_lt KG.out; omega, by have := blk_lt K5.out; omega⟩); clear hg9 hbox hBl K3 K4 K5 KG HB; have K4 := k4_; have KG := kg_; have K5 := k5_; have HB := n0_; clear k5_ k4_ kg_ n0_)
        | ((with_reducible refine gate_store (p := 9) rfl ?_); refine store_part_event rfl rfl 134 (.tmp 9) (.tmp 68) rfl g9 0 rfl (aU32 h.l) rfl ?h1 _ (aU32 h.l) _ K9.out ?h2 (aU32_one _) ?h3 ?_; (case h1 => rw [hl8]; exact info8w); (case h2 => simp [aU32_size, V8.l]); (case h3 => simp [aU32, V8.l]); intro w10 hb9 hW; have n0_ := Aside0.mk (HB.out.trans ((hW.lower HB.out.size).below H9.out.1)); have k4_ := Aside0.mk (hW.blk K4.out (blk_lt K4.out) H9.out.2.1); have k5_ := Aside0.mk (hW.blk K5.out (blk_lt K5.out) H9.out.2.2.2); have kg_ := Aside0.mk (hW.blk KG.out (blk_lt KG.out) H9.out.2.2.1); clear K9 K4 K5 KG HB hW; have K9 := Aside0.mk hb9; have K4 := k4_; have K5 := k5_; have KG := kg_; have HB := n0_; clear k4_ k5_ kg_ n0_ hb9)
        | ((with_reducible refine gate_dst (N := 69) rfl ?_); refine wpList_load_part rfl 236 (.tmp 5) rfl g5 0 rfl (aU32 ws).toList _ ?h1 Try.underlying236 rfl ?h2 ?_; (case h1 => intro j v hj; rw [Nat.zero_add, blk_cell K5.out]; simpa using hj); (case h2 => rw [Array.length_toList, aU32_size, hsL.out]; exact info64w); rw [Array.toArray_toList]))
      clear K5 hl8
      go_loopw [70] (fun v wr => ∃ k : Nat, k ≤ 64 ∧ v = .int .i64 k ∧ Aside0 (wr.heap[g4]? = some (.cells (aU32 k256) 236 (0, 0))) ∧ Aside0 (wr.heap[gs]? = some (.cells (aU32 h.l ++ R) T (0, 0))) ∧ Aside0 (wr.heap[g9]? = some (.cells (aU32 (rounds256 ws h k).l) 134 (0, 0))) ∧ Aside0 (Below w.heap.size w wr)) (fun v _ => 64 - (intOf v).toNat)
      case atStart => exact ⟨0, Nat.zero_le _, rfl, K4, KG, K9, HB⟩
      case round =>
        clear K4 KG K9 HB
        obtain ⟨k, hk, rfl, K4, KG, K9, HB⟩ := hrel
        by_cases hlt : k < 64
        · have hix := run_index_word (P := Try.prog) 236 133 64 ws k Try.underlying236 Try.sizeOf133 Try.isAgg133 hsL.out hlt
          have ck := (blk_cell K4.out k).trans (aU32_get k256 k hlt)
          have hst := Aside0.mk (show rounds256 ws h (k + 1) = rnd256 (rounds256 ws h k) (k256.getD k 0) (ws.getD k 0) from rfl)
          obtain ⟨V, hV⟩ : ∃ V, rounds256 ws h k = V := ⟨_, rfl⟩
          obtain ⟨KK, hKK⟩ : ∃ V, k256.getD k 0 = V := ⟨_, rfl⟩
          obtain ⟨WK, hWK⟩ : ∃ V, ws.getD k 0 = V := ⟨_, rfl⟩
          rw [hV] at K9
          rw [hV, hKK, hWK] at hst
          rw [hWK] at hix
          rw [hKK] at ck
          clear hV hKK hWK
          obtain ⟨va, vb, vc, vd, ve, vf, vg, vh⟩ := V
          have c0 := blk_cell K9.out 0
          have c1 := blk_cell K9.out 1
          have c2 := blk_cell K9.out 2
          have c3 := blk_cell K9.out 3
          have c4 := blk_cell K9.out 4
          have c5 := blk_cell K9.out 5
          have c6 := blk_cell K9.out 6
          have c7 := blk_cell K9.out 7
          replace c0 : wr.cell? ⟨g9, 0, none⟩ = some (.int .u32 (n32 va)) := c0
          replace c1 : wr.cell? ⟨g9, 1, none⟩ = some (.int .u32 (n32 vb)) := c1
          replace c2 : wr.cell? ⟨g9, 2, none⟩ = some (.int .u32 (n32 vc)) := c2
          replace c3 : wr.cell? ⟨g9, 3, none⟩ = some (.int .u32 (n32 vd)) := c3
          replace c4 : wr.cell? ⟨g9, 4, none⟩ = some (.int .u32 (n32 ve)) := c4
          replace c5 : wr.cell? ⟨g9, 5, none⟩ = some (.int .u32 (n32 vf)) := c5
          replace c6 : wr.cell? ⟨g9, 6, none⟩ = some (.int .u32 (n32 vg)) := c6
          replace c7 : wr.cell? ⟨g9, 7, none⟩ = some (.int .u32 (n32 vh)) := c7
          have lk : (k : Int) < 64 := by omega
          go_wp2
          go_quiet (fail)
          go_wp2
          replace c0 : (wr.drewN nq).cell? ⟨g9, 0, none⟩ = some (.int .u32 (n32 va)) := c0
          replace c1 : (wr.drewN nq).cell? ⟨g9, 1, none⟩ = some (.int .u32 (n32 vb)) := c1
          replace c2 : (wr.drewN nq).cell? ⟨g9, 2, none⟩ = some (.int .u32 (n32 vc)) := c2
          replace c3 : (wr.drewN nq).cell? ⟨g9, 3, none⟩ = some (.int .u32 (n32 vd)) := c3
          replace c4 : (wr.drewN nq).cell? ⟨g9, 4, none⟩ = some (.int .u32 (n32 ve)) := c4
          replace c5 : (wr.drewN nq).cell? ⟨g9, 5, none⟩ = some (.int .u32 (n32 vf)) := c5
          replace c6 : (wr.drewN nq).cell? ⟨g9, 6, none⟩ = some (.int .u32 (n32 vg)) := c6
          replace c7 : (wr.drewN nq).cell? ⟨g9, 7, none⟩ = some (.int .u32 (n32 vh)) := c7
          replace ck : (wr.drewN nq).cell? ⟨g4, k, none⟩ = some (.int .u32 (n32 KK)) := ck
          have k4_ : (wr.drewN nq).heap[g4]? = _ := K4.out
          have kg_ : (wr.drewN nq).heap[gs]? = _ := KG.out
          have k9_ : (wr.drewN nq).heap[g9]? = _ := K9.out
          have hb_ : Below w.heap.size w (wr.drewN nq) := pw_below_drewN HB.out nq
          generalize wr.drewN nq = w15 at c0 c1 c2 c3 c4 c5 c6 c7 ck k4_ kg_ k9_ hb_ ⊢
          clear K4 KG K9 HB
          have K4 := Aside0.mk k4_
          have KG := Aside0.mk kg_
          have K9 := Aside0.mk k9_
          have HB := Aside0.mk hb_
          clear k4_ kg_ k9_ hb_
          go_quiet ((go_at_call 197; first | (with_reducible exact Calls.quiet_of_same (rot_m6 ve _)) | (with_reducible exact Calls.quiet_of_same (rot_m11 ve _)) | (with_reducible exact Calls.quiet_of_same (rot_m25 ve _))))
          go_wp2
          clear ck lk
          replace c0 : (w15.drewN nq).cell? ⟨g9, 0, none⟩ = some (.int .u32 (n32 va)) := c0
          replace c1 : (w15.drewN nq).cell? ⟨g9, 1, none⟩ = some (.int .u32 (n32 vb)) := c1
          replace c2 : (w15.drewN nq).cell? ⟨g9, 2, none⟩ = some (.int .u32 (n32 vc)) := c2
          replace c3 : (w15.drewN nq).cell? ⟨g9, 3, none⟩ = some (.int .u32 (n32 vd)) := c3
          replace c4 : (w15.drewN nq).cell? ⟨g9, 4, none⟩ = some (.int .u32 (n32 ve)) := c4
          replace c5 : (w15.drewN nq).cell? ⟨g9, 5, none⟩ = some (.int .u32 (n32 vf)) := c5
          replace c6 : (w15.drewN nq).cell? ⟨g9, 6, none⟩ = some (.int .u32 (n32 vg)) := c6
          replace c7 : (w15.drewN nq).cell? ⟨g9, 7, none⟩ = some (.int .u32 (n32 vh)) := c7
          have k4_ : (w15.drewN nq).heap[g4]? = _ := K4.out
          have kg_ : (w15.drewN nq).heap[gs]? = _ := KG.out
          have k9_ : (w15.drewN nq).heap[g9]? = _ := K9.out
          have hb_ : Below w.heap.size w (w15.drewN nq) := pw_below_drewN HB.out nq
          generalize w15.drewN nq = w16 at c0 c1 c2 c3 c4 c5 c6 c7 k4_ kg_ k9_ hb_ ⊢
          clear K4 KG K9 HB
          have K4 := Aside0.mk k4_
          have KG := Aside0.mk kg_
          have K9 := Aside0.mk k9_
          have HB := Aside0.mk hb_
          clear k4_ kg_ k9_ hb_
          rw [t_val]
          obtain ⟨TT, hTT⟩ : ∃ X, vh + bs1 ve + ch ve vf vg + KK + WK = X := ⟨_, rfl⟩
          rw [hTT]
          have HTT := Aside0.mk hTT
          clear hTT
          go_quiet ((go_at_call 197; first | (with_reducible exact Calls.quiet_of_same (rot_m2 va _)) | (with_reducible exact Calls.quiet_of_same (rot_m13 va _)) | (with_reducible exact Calls.quiet_of_same (rot_m22 va _))))
          replace c0 : (w16.drewN nq).cell? ⟨g9, 0, none⟩ = some (.int .u32 (n32 va)) := c0
          replace c1 : (w16.drewN nq).cell? ⟨g9, 1, none⟩ = some (.int .u32 (n32 vb)) := c1
          replace c2 : (w16.drewN nq).cell? ⟨g9, 2, none⟩ = some (.int .u32 (n32 vc)) := c2
          replace c3 : (w16.drewN nq).cell? ⟨g9, 3, none⟩ = some (.int .u32 (n32 vd)) := c3
          replace c4 : (w16.drewN nq).cell? ⟨g9, 4, none⟩ = some (.int .u32 (n32 ve)) := c4
          replace c5 : (w16.drewN nq).cell? ⟨g9, 5, none⟩ = some (.int .u32 (n32 vf)) := c5
          replace c6 : (w16.drewN nq).cell? ⟨g9, 6, none⟩ = some (.int .u32 (n32 vg)) := c6
          replace c7 : (w16.drewN nq).cell? ⟨g9, 7, none⟩ = some (.int .u32 (n32 vh)) := c7
          have k4_ : (w16.drewN nq).heap[g4]? = _ := K4.out
          have kg_ : (w16.drewN nq).heap[gs]? = _ := KG.out
          have k9_ : (w16.drewN nq).heap[g9]? = _ := K9.out
          have hb_ : Below w.heap.size w (w16.drewN nq) := pw_below_drewN HB.out nq
          generalize w16.drewN nq = w17 at c0 c1 c2 c3 c4 c5 c6 c7 k4_ kg_ k9_ hb_ ⊢
          clear K4 KG K9 HB
          have K4 := Aside0.mk k4_
          have KG := Aside0.mk kg_
          have K9 := Aside0.mk k9_
          have HB := Aside0.mk hb_
          clear k4_ kg_ k9_ hb_
          rw [u_val]
          obtain ⟨UU, hUU⟩ : ∃ X, bs0 va + maj va vb vc = X := ⟨_, rfl⟩
          rw [hUU]
          have HUU := Aside0.mk hUU
          clear hUU
          go_wp2_with ((with_reducible refine gate_store (p := 9) rfl ?_); refine store_part_event rfl rfl 134 (.tmp 9) (.tmp 146) rfl g9 0 rfl _ rfl ?h1 _ (aU32 (rnd256 ⟨va, vb, vc, vd, ve, vf, vg, vh⟩ KK WK).l) _ K9.out ?h2 ?h4 ?h3 ?_; (case h1 => exact info8w); (case h2 => simp [aU32_size, V8.l]); (case h4 => intro u hu; simp at hu; rcases hu with rfl | rfl | rfl | rfl | rfl | rfl | rfl | rfl <;> rfl); (case h3 => rw [show rnd256 ⟨va, vb, vc, vd, ve, vf, vg, vh⟩ KK WK = ⟨TT + UU, va, vb, vc, vd + TT, ve, vf, vg⟩ by unfold rnd256 t256 u256; rw [HTT.out, HUU.out]]; simp [aU32, V8.l, n32_add_m]); intro w18 hb9 hW; have n0_ := Aside0.mk (HB.out.trans ((hW.lower HB.out.size).below H9.out.1)); have k4_ := Aside0.mk (hW.blk K4.out (blk_lt K4.out) H9.out.2.1); have kg_ := Aside0.mk (hW.blk KG.out (blk_lt KG.out) H9.out.2.2.1); have k9_ := Aside0.mk hb9; clear hW hb9)
          go_roundw
          · exact ⟨k + 1, by omega, by simp, k4_, kg_, ⟨by rw [hst.out]; exact k9_.out⟩, n0_⟩
          · show 64 - ((k : Int) + 1).toNat < 64 - (k : Int).toNat; omega
        · obtain rfl : k = 64 := by omega
          clear hk hlt K4
          have HC := Aside0.mk (show comp256 h b = h.add (rounds256 ws h 64) by unfold comp256; rw [HWS.out])
          obtain ⟨V, hV⟩ : ∃ V, rounds256 ws h 64 = V := ⟨_, rfl⟩
          rw [hV] at K9 HC
          clear hV
          have hlt0 : gs < w.heap.size := blk_lt HG.out
          have hgg := Aside0.mk (show gs < w.heap.size ∧ g9 ≠ gs from ⟨hlt0, by have := H9.out.2.2.1; omega⟩)
          clear hlt0
          rw [← hmix_0 h V] at KG
          have HW := Aside0.mk (Wr.of_below HB.out gs)
          clear HB
          go_wp2
          go_loopw [148] (fun v wr => ∃ k : Nat, k ≤ 8 ∧ v = .int .i64 k ∧ Aside0 (wr.heap[gs]? = some (.cells (aU32 (hmix h V k) ++ R) T (0, 0))) ∧ Aside0 (wr.heap[g9]? = some (.cells (aU32 V.l) 134 (0, 0))) ∧ Aside0 (Wr w.heap.size gs w wr)) (fun v _ => 8 - (intOf v).toNat)
          case atStart => exact ⟨0, Nat.zero_le _, rfl, KG, K9, HW⟩
          case round =>
            clear KG K9 HW
            obtain ⟨k, hk, rfl, KG, K9, HW⟩ := hrel
            by_cases hlt : k < 8
            · have c0 := (blk_cell KG.out k).trans (app_get _ R k (by rw [hmix_len h V k hk]; exact hlt))
              rw [hmix_get h V k hlt] at c0
              have c1 := (blk_cell K9.out k).trans (aU32_get V.l k hlt)
              have f0 := blk_frozen KG.out k
              have hs := Aside0.mk (hmix_set h V k hlt)
              have hl := Aside0.mk (hmix_len h V k hk)
              obtain ⟨X, hX⟩ : ∃ X, h.l.getD k 0 = X := ⟨_, rfl⟩
              obtain ⟨Y, hY⟩ : ∃ X, V.l.getD k 0 = X := ⟨_, rfl⟩
              rw [hX] at c0 hs
              rw [hY] at c1 hs
              clear hX hY
              have lk : (k : Int) < 8 := by omega
              go_wp2
              refine wp_region_still_tail 11 (by kernel_rfl) (by kernel_rfl) ?_
              simp only [List.take_succ_cons, List.take_zero, List.drop_succ_cons, List.drop_zero]
              change wpStill _ _ (World.drew _) (fun a' => wpList _ _ _ _ a' (World.drew _)) _ _
              replace c0 : (wr.drew).cell? ⟨gs, k, none⟩ = some (.int .u32 (n32 X)) := c0
              replace c1 : (wr.drew).cell? ⟨g9, k, none⟩ = some (.int .u32 (n32 Y)) := c1
              replace f0 : (wr.drew).frozen? ⟨gs, k, none⟩ = false := f0
              have kg_ : (wr.drew).heap[gs]? = _ := KG.out
              have k9_ : (wr.drew).heap[g9]? = _ := K9.out
              have hw_ : Wr w.heap.size gs w wr.drew := HW.out.drew
              generalize wr.drew = w20 at c0 c1 f0 kg_ k9_ hw_ ⊢
              clear KG K9 HW
              have KG := Aside0.mk kg_
              have K9 := Aside0.mk k9_
              have HW := Aside0.mk hw_
              clear kg_ k9_ hw_
              iterate 11 still_step
              refine wpStill_nil ?_
              go_wp2
              go_roundw
              · (repeat apply Exists.intro)
                refine ⟨?_, rfl⟩
                refine ⟨k + 1, by omega, by simp, ⟨?_⟩, ⟨blk_far K9.out (p := ⟨gs, k, none⟩) hgg.out.2 _⟩, ⟨HW.out.setCell _ _⟩⟩
                exact blk_put KG.out k _ (by first | rw [n32_add_m, app_set _ _ _ _ (by rw [hl.out]; exact hlt), hs.out] | rw [n32_add, app_set _ _ _ _ (by rw [hl.out]; exact hlt), hs.out])
              · show 8 - ((k : Int) + 1).toNat < 8 - (k : Int).toNat; omega
            · obtain rfl : k = 8 := by omega
              go_wp2
              go_end0
              refine ⟨rfl, ?_, HW.out⟩
              rw [HC.out, ← hmix_8]
              exact KG.out
end Go.Proofs.Ytlnpmodhejakiaa.D
