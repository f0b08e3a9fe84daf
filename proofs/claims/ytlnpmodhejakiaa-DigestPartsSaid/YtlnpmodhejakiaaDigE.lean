/- digest.round1. -/
import Derived.Test.YtlnpmodhejakiaaDigC
namespace Go.Proofs.Ytlnpmodhejakiaa.D
open Go.RowKit Go.Proofs.YtlnpmodhejakiaaW.PrintWords Go.Proofs.YtlnpmodhejakiaaW.PrintLast Go.Proofs.YtlnpmodhejakiaaW.PrintMore Go.Proofs.Ytlnpmodhejakiaa.Sha
set_option linter.unusedVariables false
set_option linter.unusedSimpArgs false

theorem info80w : (Try.prog.info? 233).map (·.size) = some 80 := by kernel_rfl
set_option maxHeartbeats 4000000 in
set_option maxRecDepth 100000 in
theorem round1_any (gs : Nat) (T : TypeId) (R : Array Value) (h : V8) (b : List Int) (hb : b.length = 64) (hbd : ∀ x ∈ b, 0 ≤ x ∧ x ≤ 255) (w : World) (hg : w.heap[gs]? = some (.cells (aU32 h.l ++ R) T (0, 0))) :
    Calls Try.prog 178 #[.pointer (some ⟨gs, 0, none⟩), .agg (aU8 b)] w fun e w' => e = .returned (.tuple #[]) ∧ w'.heap[gs]? = some (.cells (aU32 (comp1 h b).l ++ R) T (0, 0)) ∧ Wr w.heap.size gs w w' := by
  have HG := Aside0.mk hg
  have HL := Aside0.mk hb
  have HD := Aside0.mk hbd
  clear hg hb hbd
  have hsz : (aU8 b).size = 64 := by rw [aU8_size, HL.out]
  go_enter Try.func178, Try.ntmps178
  go_wp2_with (first
    | ((with_reducible refine gate_dst (N := 3) rfl ?_); refine box_event ?hg (N := 3) ?hd (cs := aU8 b) (t := 135) ?hr ?_; (case hd => rfl); (case hg => rfl); (case hr => first | (go_simp; done) | (go_simp; rfl)); intro g3 hg3 w1 hbox hBl; have HB1 := Aside0.mk hBl; have K3 := Aside0.mk hbox; have G3 := Aside0.mk (Nat.le_of_eq hg3.symm); clear hg3 hbox hBl)
    | ((with_reducible refine gate_dst (N := 4) rfl ?_); refine box_event ?hg (N := 4) ?hd (cs := aU32 (List.replicate 80 0)) (t := 233) ?hr ?_; (case hd => rfl); (case hg => rfl); (case hr => rw [zeros_cells]; first | (go_simp; done) | (go_simp; rfl)); intro g4 hg4 w2 hbox hBl; have n0_ := Aside0.mk (below_step HB1.out hBl); have K4 := Aside0.mk hbox; have G4 := Aside0.mk (Nat.le_of_eq hg4.symm); have k3_ := Aside0.mk (blk_below K3.out hBl); have H3 := Aside0.mk (show g3 ≠ g4 by have := blk_lt K3.out; omega); have KG := Aside0.mk ((n0_.out.block gs (blk_lt HG.out)).trans HG.out); have hl8 := Aside0.mk (show (aU32 h.l).size = 8 from aU32_size _); clear hg4 hbox hBl K3; have K3 := k3_; have HB2 := n0_; clear k3_ n0_)
    | ((with_reducible refine gate_dst (N := 13) rfl ?_); refine wpList_load_part rfl 134 _ rfl gs 0 rfl (aU32 h.l).toList _ ?h1 Try.underlying134 rfl ?h2 ?_; (case h1 => intro j v hj; rw [Nat.zero_add, blk_cell KG.out]; have hj' : j < (aU32 h.l).size := (by rw [← Array.length_toList]; exact (List.getElem?_eq_some_iff.1 hj).1); rw [Array.getElem?_append_left hj']; simpa using hj); (case h2 => rw [Array.length_toList, hl8.out]; exact info8w); rw [Array.toArray_toList])
    | ((with_reducible refine gate_dst (N := 5) rfl ?_); refine box_event ?hg (N := 5) ?hd (cs := aU32 (List.replicate 8 0)) (t := 134) ?hr ?_; (case hd => rfl); (case hg => rfl); (case hr => rw [zeros_cells]; first | (go_simp; done) | (go_simp; rfl)); intro g5 hg5 w5 hbox hBl; have n0_ := Aside0.mk (below_step HB2.out hBl); have K5 := Aside0.mk hbox; have k3_ := Aside0.mk (blk_below K3.out hBl); have k4_ := Aside0.mk (blk_below K4.out hBl); have kg_ := Aside0.mk (blk_below KG.out hBl); have H5 := Aside0.mk (show w.heap.size ≤ g3 ∧ w.heap.size ≤ g4 ∧ w.heap.size ≤ g5 ∧ g3 ≠ g4 ∧ g3 ≠ g5 ∧ g4 ≠ g5 ∧ gs < w.heap.size from ⟨G3.out, Nat.le_trans HB1.out.size G4.out, by have := HB2.out.size; omega, H3.out, by have := blk_lt K3.out; omega, by have := blk_lt K4.out; omega, blk_lt HG.out⟩); clear hg5 hbox hBl K3 K4 KG G3 G4 H3 HB1 HB2; have K3 := k3_; have K4 := k4_; have KG := kg_; have HB5 := n0_; clear k3_ k4_ kg_ n0_)
    | ((with_reducible refine gate_store (p := 5) rfl ?_); refine store_part_event rfl rfl 134 (.tmp 5) (.tmp 13) rfl g5 0 rfl (aU32 h.l) rfl ?h1 _ (aU32 h.l) _ K5.out ?h2 (aU32_one _) ?h3 ?_; (case h1 => rw [hl8.out]; exact info8w); (case h2 => simp [aU32_size, V8.l]); (case h3 => simp [aU32, V8.l]); intro w10 hb9 hW; have n0_ := Aside0.mk (HB5.out.trans ((hW.lower HB5.out.size).below H5.out.2.2.1)); have k3_ := Aside0.mk (hW.blk K3.out (blk_lt K3.out) H5.out.2.2.2.2.1); have k4_ := Aside0.mk (hW.blk K4.out (blk_lt K4.out) H5.out.2.2.2.2.2.1); have kg_ := Aside0.mk (hW.blk KG.out (blk_lt KG.out) (by have := H5.out.2.2.1; have := H5.out.2.2.2.2.2.2; omega)); clear K5 K3 K4 KG HB5 hW; have K5 := Aside0.mk hb9; have K3 := k3_; have K4 := k4_; have KG := kg_; have HB := n0_; clear k3_ k4_ kg_ n0_ hb9))
  go_loopw [14] (fun v wr => ∃ k : Nat, k ≤ 80 ∧ v = .int .i64 k ∧ Aside0 (wr.heap[g3]? = some (.cells (aU8 b) 135 (0, 0))) ∧ Aside0 (wr.heap[g4]? = some (.cells (aU32 (sched (next1 b) k ++ List.replicate (80 - k) 0)) 233 (0, 0))) ∧ Aside0 (wr.heap[g5]? = some (.cells (aU32 (rounds1 (sched (next1 b) 80) h k).l) 134 (0, 0))) ∧ Aside0 (Below w.heap.size w wr)) (fun v _ => 80 - (intOf v).toNat)
  case atStart => exact ⟨0, Nat.zero_le _, rfl, K3, K4, K5, HB⟩
  case round =>
    clear K3 K4 K5 HB KG
    obtain ⟨k, hk, rfl, K3, K4, K5, HB⟩ := hrel
    by_cases hlt : k < 80
    · go_upto_if 18 with (fail)
      go_cut [22] (fun _ wc => Aside0 (wc.heap[g3]? = some (.cells (aU8 b) 135 (0, 0))) ∧ Aside0 (wc.heap[g4]? = some (.cells (aU32 (sched (next1 b) (k + 1) ++ List.replicate (80 - (k + 1)) 0)) 233 (0, 0))) ∧ Aside0 (wc.heap[g5]? = some (.cells (aU32 (rounds1 (sched (next1 b) 80) h k).l) 134 (0, 0))) ∧ Aside0 (Below w.heap.size w wc))
      case first =>
        have hne := Aside0.mk H5.out
        by_cases h16 : k < 16
        · go_wp2_with (first
            | ((with_reducible refine gate_dst (N := 20) rfl ?_); refine wpList_load_part rfl 135 (.tmp 3) rfl g3 0 rfl (aU8 b).toList _ ?h1 Try.underlying135 rfl ?h2 ?_; (case h1 => intro j v hj; rw [Nat.zero_add, blk_cell K3.out]; simpa using hj); (case h2 => rw [Array.length_toList, hsz]; exact info64b); rw [Array.toArray_toList])
            | (go_at_call 196; refine (word_any b k HL.out h16 HD.out _).mono ?_; rintro e w7 ⟨rfl, hb7⟩; have n5_ := (blk_cell (blk_below K4.out hb7) k).trans (sched_zero (next1 b) 80 k hlt); have f5_ := blk_frozen (blk_below K4.out hb7) k))
          have hnx : next1 b (sched (next1 b) k) k = wd b k := by unfold next1; rw [if_pos h16]
          go_meet
          case rel =>
            refine ⟨⟨blk_far (blk_below K3.out hb7) (p := ⟨g4, k, none⟩) hne.out.2.2.2.1 _⟩, ⟨?_⟩, ⟨blk_far (blk_below K5.out hb7) (p := ⟨g4, k, none⟩) (Ne.symm hne.out.2.2.2.2.2.1) _⟩, ⟨(below_step HB.out hb7).setCell hne.out.2.1 _⟩⟩
            exact blk_put (blk_below K4.out hb7) k _ (by rw [← hnx]; exact sched_put _ 80 k hlt)
        · have c3 := (blk_cell K4.out (k - 3)).trans (sched_cell (next1 b) 80 k (k - 3) hk (by omega))
          have c8 := (blk_cell K4.out (k - 8)).trans (sched_cell (next1 b) 80 k (k - 8) hk (by omega))
          have c14 := (blk_cell K4.out (k - 14)).trans (sched_cell (next1 b) 80 k (k - 14) hk (by omega))
          have c16 := (blk_cell K4.out (k - 16)).trans (sched_cell (next1 b) 80 k (k - 16) hk (by omega))
          have ck := (blk_cell K4.out k).trans (sched_zero (next1 b) 80 k hlt)
          have fk := blk_frozen K4.out k
          have hnx := Aside0.mk (show next1 b (sched (next1 b) k) k = _ from if_neg h16)
          obtain ⟨X3, h3⟩ : ∃ X, (sched (next1 b) k).getD (k - 3) 0 = X := ⟨_, rfl⟩
          obtain ⟨X8, h8⟩ : ∃ X, (sched (next1 b) k).getD (k - 8) 0 = X := ⟨_, rfl⟩
          obtain ⟨X14, h14⟩ : ∃ X, (sched (next1 b) k).getD (k - 14) 0 = X := ⟨_, rfl⟩
          obtain ⟨X16, h16'⟩ : ∃ X, (sched (next1 b) k).getD (k - 16) 0 = X := ⟨_, rfl⟩
          rw [h3, h8, h14, h16'] at hnx
          rw [h3] at c3
          rw [h8] at c8
          rw [h14] at c14
          rw [h16'] at c16
          clear h3 h8 h14 h16'
          have q3 := (IntWalk.i64_in ((k : Int) - 3) (by omega)); have z3 : (0 : Int) ≤ (k : Int) - 3 := by omega
          have q8 := (IntWalk.i64_in ((k : Int) - 8) (by omega)); have z8 : (0 : Int) ≤ (k : Int) - 8 := by omega
          have q14 := (IntWalk.i64_in ((k : Int) - 14) (by omega)); have z14 : (0 : Int) ≤ (k : Int) - 14 := by omega
          have q16 := (IntWalk.i64_in ((k : Int) - 16) (by omega)); have z16 : (0 : Int) ≤ (k : Int) - 16 := by omega
          have y3 : (3 : Int) ≤ (k : Int) := by omega
          have y8 : (8 : Int) ≤ (k : Int) := by omega
          have y14 : (14 : Int) ≤ (k : Int) := by omega
          have y16 : (16 : Int) ≤ (k : Int) := by omega
          have l3 : (k : Int) - 3 < 80 := by omega
          have l8 : (k : Int) - 8 < 80 := by omega
          have l14 : (k : Int) - 14 < 80 := by omega
          have l16 : (k : Int) - 16 < 80 := by omega
          have t3 : ((k : Int) - 3).toNat = k - 3 := by omega
          have t8 : ((k : Int) - 8).toNat = k - 8 := by omega
          have t14 : ((k : Int) - 14).toNat = k - 14 := by omega
          have t16 : ((k : Int) - 16).toNat = k - 16 := by omega
          go_wp2
          refine wp_region_still_tail 22 (by kernel_rfl) (by kernel_rfl) ?_
          simp only [List.take_succ_cons, List.take_zero, List.drop_succ_cons, List.drop_zero]
          change wpStill _ _ (World.drew _) (fun a' => wpList _ _ _ _ a' (World.drew _)) _ _
          replace c3 : (wr.drew).cell? ⟨g4, k - 3, none⟩ = some (.int .u32 (n32 X3)) := c3
          replace c8 : (wr.drew).cell? ⟨g4, k - 8, none⟩ = some (.int .u32 (n32 X8)) := c8
          replace c14 : (wr.drew).cell? ⟨g4, k - 14, none⟩ = some (.int .u32 (n32 X14)) := c14
          replace c16 : (wr.drew).cell? ⟨g4, k - 16, none⟩ = some (.int .u32 (n32 X16)) := c16
          replace ck : (wr.drew).cell? ⟨g4, k, none⟩ = some (.int .u32 0) := ck
          replace fk : (wr.drew).frozen? ⟨g4, k, none⟩ = false := fk
          have k3_ : (wr.drew).heap[g3]? = _ := K3.out
          have k4_ : (wr.drew).heap[g4]? = _ := K4.out
          have k5_ : (wr.drew).heap[g5]? = _ := K5.out
          have hb_ : Below w.heap.size w wr.drew := below_drew HB.out
          generalize wr.drew = w9 at c3 c8 c14 c16 ck fk k3_ k4_ k5_ hb_ ⊢
          clear K3 K4 K5 HB
          have K3 := Aside0.mk k3_
          have K4 := Aside0.mk k4_
          have K5 := Aside0.mk k5_
          have HB := Aside0.mk hb_
          clear k3_ k4_ k5_ hb_
          iterate 20 still_step
          rw [n32_xor, n32_xor, n32_xor]
          still_call (rot_1 (X3 ^^^ X8 ^^^ X14 ^^^ X16) w9)
          still_step
          refine wpStill_nil ?_
          clear q3 q8 q14 q16 z3 z8 z14 z16 y3 y8 y14 y16 l3 l8 l14 l16 t3 t8 t14 t16 c3 c8 c14 c16
          go_wp2
          go_meet
          case rel =>
            refine ⟨⟨blk_far K3.out (p := ⟨g4, k, none⟩) hne.out.2.2.2.1 _⟩, ⟨?_⟩, ⟨blk_far K5.out (p := ⟨g4, k, none⟩) (Ne.symm hne.out.2.2.2.2.2.1) _⟩, ⟨HB.out.setCell hne.out.2.1 _⟩⟩
            exact blk_put K4.out k _ (by rw [← hnx.out]; exact sched_put _ 80 k hlt)
      case rest =>
        clear K3 K4 K5 HB
        obtain ⟨K3, K4, K5, HB⟩ := hcut
        go_upto_region 9 with (fail)
        go_cut [7] (fun x7 wd_ => wd_ = wc)
        case first => go_wp2; go_meet; case rel => rfl
        case rest =>
          subst hcut
          go_upto_block 2 with (fail)
          have ck := (blk_cell K4.out k).trans (sched_cell (next1 b) 80 (k + 1) k (by omega) (by omega))
          rw [show (sched (next1 b) (k + 1)).getD k 0 = (sched (next1 b) 80).getD k 0 by rw [sched_get _ _ _ (Nat.lt_succ_self k), sched_get _ _ _ hlt]] at ck
          have hst := Aside0.mk (show rounds1 (sched (next1 b) 80) h (k + 1) = rnd1 (rounds1 (sched (next1 b) 80) h k) k ((sched (next1 b) 80).getD k 0) from rfl)
          obtain ⟨V, hV⟩ : ∃ V, rounds1 (sched (next1 b) 80) h k = V := ⟨_, rfl⟩
          obtain ⟨WK, hWK⟩ : ∃ V, (sched (next1 b) 80).getD k 0 = V := ⟨_, rfl⟩
          rw [hV] at K5
          rw [hV, hWK] at hst
          rw [hWK] at ck
          clear hV hWK
          obtain ⟨va, vb, vc, vd, ve, vf, vg, vh⟩ := V
          have c0 := blk_cell K5.out 0
          have c1 := blk_cell K5.out 1
          have c2 := blk_cell K5.out 2
          have c3 := blk_cell K5.out 3
          have c4 := blk_cell K5.out 4
          replace c0 : wc.cell? ⟨g5, 0, none⟩ = some (.int .u32 (n32 va)) := c0
          replace c1 : wc.cell? ⟨g5, 1, none⟩ = some (.int .u32 (n32 vb)) := c1
          replace c2 : wc.cell? ⟨g5, 2, none⟩ = some (.int .u32 (n32 vc)) := c2
          replace c3 : wc.cell? ⟨g5, 3, none⟩ = some (.int .u32 (n32 vd)) := c3
          replace c4 : wc.cell? ⟨g5, 4, none⟩ = some (.int .u32 (n32 ve)) := c4
          go_cut [7] (fun x7 we => x7 = .int .u32 (n32 (f1 k ⟨va, vb, vc, vd, ve, vf, vg, vh⟩)) ∧ we = wc)
          case first =>
            clear ck c0 c4
            by_cases e0 : k / 20 = 0
            · have E := Aside0.mk (show f1 k ⟨va, vb, vc, vd, ve, vf, vg, vh⟩ = vd ^^^ (vb &&& (vc ^^^ vd)) by unfold f1; rw [if_pos e0]; rfl)
              have b0 : ((k : Int) / 20 == 0) = true := by rw [beq_iff_eq]; omega
              have lt20 : (k : Int) / 20 = 0 := by omega
              clear e0
              go_wp2
              go_meet
              case rel => exact ⟨by rw [E.out, n32_xor, n32_and, n32_xor], rfl⟩
            · by_cases e2 : k / 20 = 2
              · have E := Aside0.mk (show f1 k ⟨va, vb, vc, vd, ve, vf, vg, vh⟩ = (vb &&& vc) ||| (vd &&& (vb ||| vc)) by unfold f1; rw [if_neg e0, if_pos e2]; rfl)
                have lt20 : (k : Int) / 20 = 2 := by omega
                clear e0 e2
                go_wp2
                go_meet
                case rel => exact ⟨by rw [E.out, n32_and, n32_or, n32_and, n32_or], rfl⟩
              · have E := Aside0.mk (show f1 k ⟨va, vb, vc, vd, ve, vf, vg, vh⟩ = vb ^^^ vc ^^^ vd by unfold f1; rw [if_neg e0, if_neg e2])
                have b0 : ((k : Int) / 20 == 0) = false := by rw [beq_eq_false_iff_ne]; omega
                have b2 : ((k : Int) / 20 == 2) = false := by rw [beq_eq_false_iff_ne]; omega
                clear e0 e2
                go_wp2
                go_meet
                case rel => exact ⟨by rw [E.out, n32_xor, n32_xor], rfl⟩
          case rest =>
            obtain ⟨rfl, hwe⟩ := hcut
            subst hwe
            obtain ⟨FF, hFF⟩ : ∃ X, f1 k ⟨va, vb, vc, vd, ve, vf, vg, vh⟩ = X := ⟨_, rfl⟩
            rw [hFF]
            have HFF := Aside0.mk hFF
            clear hFF
            have hix : ∀ w, (Instr.index 235 (.agg (aU32 k4W)) (.int .i64 ((k : Int) / 20))).run Try.prog w = .ok (.int .u32 (n32 (k1 k))) w := fun w => by
              have := run_index_word (P := Try.prog) 235 133 4 k4W (k / 20) Try.underlying235 Try.sizeOf133 Try.isAgg133 rfl (by omega) w
              rw [show ((k / 20 : Nat) : Int) = (k : Int) / 20 by omega] at this
              exact this
            obtain ⟨KK, hKK⟩ : ∃ X, k1 k = X := ⟨_, rfl⟩
            rw [hKK] at hix
            have HKK := Aside0.mk hKK
            clear hKK
            have lk : (k : Int) < 80 := by omega
            rw [k4W_cells] at hix
            go_wp2
            go_quiet ((go_at_call 197; (with_reducible exact Calls.quiet_of_same (rot_5 va _))))
            rw [n32_add_m4, n32_add_m]
            obtain ⟨TT, hTT⟩ : ∃ X, rl va 5 + FF + ve + KK + WK = X := ⟨_, rfl⟩
            rw [hTT]
            have HTT := Aside0.mk hTT
            clear hTT hix lk ck c4
            replace c0 : ((wc.drewN nq).drew).cell? ⟨g5, 0, none⟩ = some (.int .u32 (n32 va)) := c0
            replace c1 : ((wc.drewN nq).drew).cell? ⟨g5, 1, none⟩ = some (.int .u32 (n32 vb)) := c1
            replace c2 : ((wc.drewN nq).drew).cell? ⟨g5, 2, none⟩ = some (.int .u32 (n32 vc)) := c2
            replace c3 : ((wc.drewN nq).drew).cell? ⟨g5, 3, none⟩ = some (.int .u32 (n32 vd)) := c3
            have k3_ : ((wc.drewN nq).drew).heap[g3]? = _ := K3.out
            have k4_ : ((wc.drewN nq).drew).heap[g4]? = _ := K4.out
            have k5_ : ((wc.drewN nq).drew).heap[g5]? = _ := K5.out
            have hb_ : Below w.heap.size w ((wc.drewN nq).drew) := below_drew (pw_below_drewN HB.out nq)
            go_wp2
            refine wp_region_still_tail 11 (by kernel_rfl) (by kernel_rfl) ?_
            simp only [List.take_succ_cons, List.take_zero, List.drop_succ_cons, List.drop_zero]
            change wpStill _ _ (World.drew _) (fun a' => wpList _ _ _ _ a' (World.drew _)) _ _
            generalize (wc.drewN nq).drew = w17 at c0 c1 c2 c3 k3_ k4_ k5_ hb_ ⊢
            clear K3 K4 K5 HB
            have K3 := Aside0.mk k3_
            have K4 := Aside0.mk k4_
            have K5 := Aside0.mk k5_
            have HB := Aside0.mk hb_
            clear k3_ k4_ k5_ hb_
            iterate 5 still_step
            still_call (rot_30 vb w17)
            iterate 5 still_step
            refine wpStill_nil ?_
            go_wp2_with ((with_reducible refine gate_store (p := 5) rfl ?_); refine store_part_event rfl rfl 134 (.tmp 5) (.tmp 113) rfl g5 0 rfl _ rfl ?h1 _ (aU32 (rnd1 ⟨va, vb, vc, vd, ve, vf, vg, vh⟩ k WK).l) _ K5.out ?h2 ?h4 ?h3 ?_; (case h1 => exact info8w); (case h2 => simp [aU32_size, V8.l]); (case h4 => intro u hu; simp at hu; rcases hu with rfl | rfl | rfl | rfl | rfl | rfl <;> rfl); (case h3 => rw [show rnd1 ⟨va, vb, vc, vd, ve, vf, vg, vh⟩ k WK = ⟨TT, va, rl vb 30, vc, vd, 0, 0, 0⟩ by unfold rnd1 t1; rw [HFF.out, HKK.out, HTT.out]]; simp [aU32, V8.l]; rfl); intro w18 hb9 hW; have n0_ := Aside0.mk (HB.out.trans ((hW.lower HB.out.size).below H5.out.2.2.1)); have k3_ := Aside0.mk (hW.blk K3.out (blk_lt K3.out) H5.out.2.2.2.2.1); have k4_ := Aside0.mk (hW.blk K4.out (blk_lt K4.out) H5.out.2.2.2.2.2.1); have k5_ := Aside0.mk hb9; clear hW hb9)
            go_roundw
            · first
              | exact ⟨k + 1, by omega, by simp, k3_, k4_, ⟨by rw [hst.out]; exact k5_.out⟩, n0_⟩
              | ((repeat apply Exists.intro); exact ⟨⟨k + 1, by omega, by simp, k3_, k4_, ⟨by rw [hst.out]; exact k5_.out⟩, n0_⟩, rfl⟩)
            · show 80 - ((k : Int) + 1).toNat < 80 - (k : Int).toNat; omega
    · obtain rfl : k = 80 := by omega
      clear hk hlt K4 K3
      have HC := Aside0.mk (show comp1 h b = add5 h (rounds1 (sched (next1 b) 80) h 80) from rfl)
      obtain ⟨V, hV⟩ : ∃ V, rounds1 (sched (next1 b) 80) h 80 = V := ⟨_, rfl⟩
      rw [hV] at K5 HC
      clear hV
      have hgg := Aside0.mk (show gs < w.heap.size ∧ g5 ≠ gs from ⟨H5.out.2.2.2.2.2.2, by have := H5.out.2.2.2.2.2.2; have := H5.out.2.2.1; omega⟩)
      have KG := Aside0.mk ((HB.out.block gs hgg.out.1).trans HG.out)
      rw [← hmix5_0 h V] at KG
      have HW := Aside0.mk (Wr.of_below HB.out gs)
      clear HB
      go_wp2
      go_loopw [115] (fun v wr => ∃ k : Nat, k ≤ 5 ∧ v = .int .i64 k ∧ Aside0 (wr.heap[gs]? = some (.cells (aU32 (hmix5 h V k) ++ R) T (0, 0))) ∧ Aside0 (wr.heap[g5]? = some (.cells (aU32 V.l) 134 (0, 0))) ∧ Aside0 (Wr w.heap.size gs w wr)) (fun v _ => 5 - (intOf v).toNat)
      case atStart => exact ⟨0, Nat.zero_le _, rfl, KG, K5, HW⟩
      case round =>
        clear KG K5 HW
        obtain ⟨k, hk, rfl, KG, K5, HW⟩ := hrel
        by_cases hlt : k < 5
        · have c0 := (blk_cell KG.out k).trans (app_get _ R k (by rw [hmix5_len h V k (by omega)]; omega))
          rw [hmix5_get h V k hlt] at c0
          have c1 := (blk_cell K5.out k).trans (aU32_get V.l k (by rw [V8_len]; omega))
          have f0 := blk_frozen KG.out k
          have hs := Aside0.mk (hmix5_set h V k hlt)
          have hl := Aside0.mk (hmix5_len h V k (by omega))
          obtain ⟨X, hX⟩ : ∃ X, h.l.getD k 0 = X := ⟨_, rfl⟩
          obtain ⟨Y, hY⟩ : ∃ X, V.l.getD k 0 = X := ⟨_, rfl⟩
          rw [hX] at c0 hs
          rw [hY] at c1 hs
          clear hX hY
          have lk : (k : Int) < 5 := by omega
          have lk8 : (k : Int) < 8 := by omega
          go_wp2
          refine wp_region_still_tail 11 (by kernel_rfl) (by kernel_rfl) ?_
          simp only [List.take_succ_cons, List.take_zero, List.drop_succ_cons, List.drop_zero]
          change wpStill _ _ (World.drew _) (fun a' => wpList _ _ _ _ a' (World.drew _)) _ _
          replace c0 : (wr.drew).cell? ⟨gs, k, none⟩ = some (.int .u32 (n32 X)) := c0
          replace c1 : (wr.drew).cell? ⟨g5, k, none⟩ = some (.int .u32 (n32 Y)) := c1
          replace f0 : (wr.drew).frozen? ⟨gs, k, none⟩ = false := f0
          have kg_ : (wr.drew).heap[gs]? = _ := KG.out
          have k9_ : (wr.drew).heap[g5]? = _ := K5.out
          have hw_ : Wr w.heap.size gs w wr.drew := HW.out.drew
          generalize wr.drew = w20 at c0 c1 f0 kg_ k9_ hw_ ⊢
          clear KG K5 HW
          have KG := Aside0.mk kg_
          have K5 := Aside0.mk k9_
          have HW := Aside0.mk hw_
          clear kg_ k9_ hw_
          iterate 11 still_step
          refine wpStill_nil ?_
          go_wp2
          go_roundw
          · (repeat apply Exists.intro)
            refine ⟨?_, rfl⟩
            refine ⟨k + 1, by omega, by simp, ⟨?_⟩, ⟨blk_far K5.out (p := ⟨gs, k, none⟩) hgg.out.2 _⟩, ⟨HW.out.setCell _ _⟩⟩
            exact blk_put KG.out k _ (by first | rw [n32_add_m, app_set _ _ _ _ (by rw [hl.out]; omega), hs.out] | rw [n32_add, app_set _ _ _ _ (by rw [hl.out]; omega), hs.out])
          · show 5 - ((k : Int) + 1).toNat < 5 - (k : Int).toNat; omega
        · obtain rfl : k = 5 := by omega
          go_wp2
          go_end0
          refine ⟨rfl, ?_, HW.out⟩
          rw [HC.out, ← hmix5_5]
          exact KG.out
end Go.Proofs.Ytlnpmodhejakiaa.D
