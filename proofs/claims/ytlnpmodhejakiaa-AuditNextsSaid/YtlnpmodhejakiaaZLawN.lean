/- The law AuditNexts: its function. -/
import Derived.Test.YtlnpmodhejakiaaZAudG
import Derived.Test.YtlnpmodhejakiaaZWb
import Derived.Test.YtlnpmodhejakiaaZPVx0b
import Derived.Test.YtlnpmodhejakiaaZPAx0b
import Derived.Test.YtlnpmodhejakiaaZAudPb
import Derived.Test.YtlnpmodhejakiaaZAudBb
import Derived.Test.YtlnpmodhejakiaaZAudNb
namespace Go.Proofs.Ytlnpmodhejakiaa.AV
open Go.RowKit Go.Proofs.YtlnpmodhejakiaaW.PrintWords Go.Proofs.YtlnpmodhejakiaaW.PrintLast Go.Proofs.YtlnpmodhejakiaaW.PrintMore Go.Proofs.Ytlnpmodhejakiaa.Sha Go.Proofs.Ytlnpmodhejakiaa.D Go.Proofs.Ytlnpmodhejakiaa.PC Go.Proofs.Ytlnpmodhejakiaa.CP Go.Proofs.Ytlnpmodhejakiaa.PV
set_option linter.unusedVariables false
set_option linter.unusedSimpArgs false
theorem own_lt {w00 W : World} {base g : Nat} {v : Value} (h : (Kd.fixed k69 w00).R 69 W base (fun _ => True) v []) (hv : Value.slice (some ⟨g, 0, none⟩) 0 0 = v) : g < W.heap.size := by
  subst hv
  obtain ⟨_, inner, hown, _⟩ := h
  rcases hown.2 with ⟨h1, _⟩ | ⟨g', cap, cur, h1, _, hg, _⟩
  · cases h1
  · injection h1 with h1 _ _
    injection h1 with h1
    injection h1 with h1 _ _
    subst h1
    exact blk_lt hg
set_option maxHeartbeats 64000000 in
set_option maxRecDepth 100000 in
theorem nexts_any (A : Option Addr) (c : Nat) (l : List S69) (x : S69) (A8 : Option Addr) (c8 : Nat) (A9 : Option Addr) (c9 : Nat) (w : World) (hC : Kd.C k69 w A l.length l) (hc : l.length ≤ c) (hR : RecC w x A8 c8 A9 c9)
    (hl : (l.length + 1) * 136 ≤ 140737488355328) (hs : ∀ u ∈ l ++ [x], smallX u) (hk : lightP (l ++ [x]) = true → l.length ≤ 1000 ∧ ∀ u ∈ l ++ [x], okX u ∧ u.f2.size + u.f4.size + u.f5.size + u.f8.length + u.f9.length ≤ 5000) :
    Calls Try.prog 15 #[.slice A l.length c, .agg #[.int .u64 x.f0, .int .u64 x.f1, .string x.f2, .int .i64 x.f3, .string x.f4, .string x.f5, .int .u64 x.f6, .int .i64 x.f7, .slice A8 x.f8.length c8, .slice A9 x.f9.length c9]] w fun e w' => e = .returned (.bool true) ∧ Below w.heap.size w w' := by
  have hu69 := Try.underlying69
  have HB := Aside0.mk (Below.refl w.heap.size w)
  have HC := Aside0.mk hC
  have Hc := Aside0.mk hc
  have RX := Aside0.mk hR
  have HS := Aside0.mk hs
  have HLN := Aside0.mk hl
  have HLL := Aside0.mk (show (l ++ [x]).length ≤ 140737488355328 by rw [List.length_append, List.length_singleton]; omega)
  obtain ⟨b, hb⟩ : ∃ b, lightP (l ++ [x]) = b := ⟨_, rfl⟩
  have HLB := Aside0.mk hb
  rw [hb] at hk
  obtain ⟨q, hq⟩ : ∃ q, q = (!b || (decide (0 < l.length) && ((rd_T69 l ((l.length : Int) - 1)).f0 == 18446744073709551615))) := ⟨_, rfl⟩
  have HQ := Aside0.mk hq
  have HK := Aside0.mk hk
  clear hC hc hR hl hs hk hb hq
  go_enter Try.func15, Try.ntmps15
  go_upto_region 1 with (first | ((with_reducible refine gate_dst (N := 3) rfl ?_); refine box_event ?hg (N := 3) ?hd (cs := #[.int .u64 x.f0, .int .u64 x.f1, .string x.f2, .int .i64 x.f3, .string x.f4, .string x.f5, .int .u64 x.f6, .int .i64 x.f7, .slice A8 x.f8.length c8, .slice A9 x.f9.length c9]) (t := 69) ?hr ?_; (case hd => rfl); (case hg => rfl); (case hr => first | (go_simp; done) | (go_simp; rfl)); intro g3 hg w3 hbox hb; have BK3 := Aside0.mk hbox; have nb_ := Aside0.mk (below_step HB.out hb); clear HB; have HB := nb_; clear nb_ hbox hb hg))
  (try simp only [Act.put, List.setIfInBounds_toArray, List.set_cons_zero, List.set_cons_succ])
  go_cut [27] (fun v27 wc => v27 = .bool q ∧ Aside0 (wc.heap[g3]? = some (.cells #[.int .u64 x.f0, .int .u64 x.f1, .string x.f2, .int .i64 x.f3, .string x.f4, .string x.f5, .int .u64 x.f6, .int .i64 x.f7, .slice A8 x.f8.length c8, .slice A9 x.f9.length c9] 69 (0, 0))) ∧ Aside0 (Below w.heap.size w wc))
  case first =>
    cases b with
    | false =>
      have HL := HLB
      obtain rfl : q = true := by rw [HQ.out]; rfl
      have b3_ := Aside0.mk (blk_drew BK3.out)
      have hb_ := Aside0.mk (below_drew1 HB.out)
      have HD := Aside0.mk (Below.refl (World.drew w3).heap.size (World.drew w3))
      have HBd := hb_
      clear BK3 HB
      have BK3 := b3_
      clear b3_ hb_
      refine start_ (n := 23) (S := fun w' => w'.cell? ⟨g3, 0, none⟩ = some (.int .u64 x.f0) ∧ w'.cell? ⟨g3, 1, none⟩ = some (.int .u64 x.f1) ∧ w'.cell? ⟨g3, 2, none⟩ = some (.string x.f2) ∧ w'.cell? ⟨g3, 3, none⟩ = some (.int .i64 x.f3) ∧ w'.cell? ⟨g3, 4, none⟩ = some (.string x.f4) ∧ w'.cell? ⟨g3, 5, none⟩ = some (.string x.f5) ∧ w'.cell? ⟨g3, 6, none⟩ = some (.int .u64 x.f6) ∧ w'.cell? ⟨g3, 7, none⟩ = some (.int .i64 x.f7) ∧ w'.cell? ⟨g3, 8, none⟩ = some (.slice A8 x.f8.length c8) ∧ w'.cell? ⟨g3, 9, none⟩ = some (.slice A9 x.f9.length c9)) (ds := []) #[false, false, false, false, false, false, false, false, false, false, false, false, false, false, false, false, false, false, false, false, false, false, false] (by kernel_rfl) rfl rfl ⟨(blk_cell (blk_below BK3.out HD.out) 0).trans rfl, (blk_cell (blk_below BK3.out HD.out) 1).trans rfl, (blk_cell (blk_below BK3.out HD.out) 2).trans rfl, (blk_cell (blk_below BK3.out HD.out) 3).trans rfl, (blk_cell (blk_below BK3.out HD.out) 4).trans rfl, (blk_cell (blk_below BK3.out HD.out) 5).trans rfl, (blk_cell (blk_below BK3.out HD.out) 6).trans rfl, (blk_cell (blk_below BK3.out HD.out) 7).trans rfl, (blk_cell (blk_below BK3.out HD.out) 8).trans rfl, (blk_cell (blk_below BK3.out HD.out) 9).trans rfl⟩ (fun hHeld => ?_)
      generalize World.drew w3 = wd at BK3 HBd HD hHeld ⊢
      refine pure_ (i := 1) (N := some 6) (v := ?_) (a' := ?_) #[false, true, false, false, false, false, false, false, false, false, false, false, false, false, false, false, false, false, false, false, false, false, false] rfl rfl (by kernel_rfl) (fun _ _ _ h => h) (Or.inl ⟨by rfl, ?_⟩) ?_ ?_
      rotate_left
      · intro w'
        go_simp
        with_reducible rfl
      rotate_left
      · simp only [Act.put, List.setIfInBounds_toArray, List.set_cons_zero, List.set_cons_succ, i64_w, i32_w]
        rfl
      refine take_ (i := 3) (N := some 8) (v := ?_) (a' := ?_) #[false, true, false, true, false, false, false, false, false, false, false, false, false, false, false, false, false, false, false, false, false, false, false] rfl rfl (by kernel_rfl) (fun _ _ _ h => h) (Or.inl ⟨by rfl, ?_⟩) hHeld ?_ ?_
      rotate_left
      · rintro w' ⟨s0, s1, s2, s3, s4, s5, s6, s7, s8, s9⟩
        go_simp
        with_reducible rfl
      rotate_left
      · simp only [Act.put, List.setIfInBounds_toArray, List.set_cons_zero, List.set_cons_succ, i64_w, i32_w]
        rfl
      refine join_ (σ := Value × Value × Nat) 18 #[true, true, true, true, true, false, false, false, false, false, false, false, false, false, false, false, false, false, false, false, false, false, false] (fun s => [(5, s.1), (7, s.2.1), (9, .slice (some ⟨s.2.2, 0, none⟩) 1 1)]) (fun s w' => (Kd.fixed k69 w).R 69 w' wd.heap.size (fun _ => True) s.2.1 l ∧ w'.heap[s.2.2]? = some (.cells #[.int .u64 x.f0, .int .u64 x.f1, .string x.f2, .int .i64 x.f3, .string x.f4, .string x.f5, .int .u64 x.f6, .int .i64 x.f7, .slice A8 x.f8.length c8, .slice A9 x.f9.length c9] 69 (0, 0)) ∧ Below wd.heap.size wd w') ?_ ?_
      rotate_left
      · intro hCont
        refine two_ (i := 0) (j := 4) (Ni := some 5) (Nj := some 9) #[true, true, false, true, false, false, false, false, false, false, false, false, false, false, false, false, false, false, false, false, false, false, false] #[false, true, false, true, true, false, false, false, false, false, false, false, false, false, false, false, false, false, false, false, false, false, false] rfl rfl rfl rfl (by kernel_rfl) (by decide) (by decide) (fun K hK => ?_) (fun K hK => ?_)
        · skip
          refine value_ (w1 := wd.alloc (.cells #[] 69)) (v := .slice (some ⟨wd.heap.size, 0, none⟩) 0 0) (by rfl) rfl ?_ ?_
          · go_simp
            try rfl
          have hbx := blk_new wd (.cells #[] 69)
          have hbb := below_alloc (Below.refl wd.heap.size wd) (.cells #[] 69)
          generalize wd.alloc (.cells #[] 69) = wa0 at hbx hbb ⊢
          have HO := Aside0.mk (row_empty w wa0 wd.heap.size wd.heap.size hbx HD.out.size)
          have hd_ := Aside0.mk (below_step HD.out hbb)
          clear HD
          have HD := hd_
          clear hd_
          obtain ⟨v5, hv5⟩ : ∃ v, Value.slice (some ⟨wd.heap.size, 0, none⟩) 0 0 = v := ⟨_, rfl⟩
          rw [hv5] at HO ⊢
          have HV5 := Aside0.mk hv5
          clear hv5 hbx hbb
          refine hK.out _ _ ⟨(blk_cell (blk_below BK3.out HD.out) 0).trans rfl, (blk_cell (blk_below BK3.out HD.out) 1).trans rfl, (blk_cell (blk_below BK3.out HD.out) 2).trans rfl, (blk_cell (blk_below BK3.out HD.out) 3).trans rfl, (blk_cell (blk_below BK3.out HD.out) 4).trans rfl, (blk_cell (blk_below BK3.out HD.out) 5).trans rfl, (blk_cell (blk_below BK3.out HD.out) 6).trans rfl, (blk_cell (blk_below BK3.out HD.out) 7).trans rfl, (blk_cell (blk_below BK3.out HD.out) 8).trans rfl, (blk_cell (blk_below BK3.out HD.out) 9).trans rfl⟩ (fun hHeld => ?_)
          clear hK K
          refine norm_ (a' := ?_) ?_ ?_
          rotate_left
          · show Act.put _ (some 5) _ = _
            simp only [Act.put, List.setIfInBounds_toArray, List.set_cons_zero, List.set_cons_succ, i64_w, i32_w]
            rfl
          refine two_ (i := 2) (j := 4) (Ni := some 7) (Nj := some 9) #[true, true, true, true, false, false, false, false, false, false, false, false, false, false, false, false, false, false, false, false, false, false, false] #[true, true, false, true, true, false, false, false, false, false, false, false, false, false, false, false, false, false, false, false, false, false, false] rfl rfl rfl rfl (by kernel_rfl) (by decide) (by decide) (fun K hK => ?_) (fun K hK => ?_)
          · skip
            refine rows_step k69 w wd.heap.size (by rfl) (.tmp 5) (.tmp 6) 67 69 _ 136 (by rfl) Try.underlying67 info69' rfl (by decide) (by omega) v5 [] l A l.length c (by rfl) (by rfl) HO.out (rows_came HC.out (below_step HBd.out HD.out)) HD.out HD.out.size (by have := HLN.out; simp only [List.length_nil]; omega) ?_
            intro v7 wc1 hO hb hg
            clear HO HD HV5
            have HO := Aside0.mk hO
            have HD := Aside0.mk hb
            clear hO hb hg
            refine hK.out _ _ ⟨(blk_cell (blk_below BK3.out HD.out) 0).trans rfl, (blk_cell (blk_below BK3.out HD.out) 1).trans rfl, (blk_cell (blk_below BK3.out HD.out) 2).trans rfl, (blk_cell (blk_below BK3.out HD.out) 3).trans rfl, (blk_cell (blk_below BK3.out HD.out) 4).trans rfl, (blk_cell (blk_below BK3.out HD.out) 5).trans rfl, (blk_cell (blk_below BK3.out HD.out) 6).trans rfl, (blk_cell (blk_below BK3.out HD.out) 7).trans rfl, (blk_cell (blk_below BK3.out HD.out) 8).trans rfl, (blk_cell (blk_below BK3.out HD.out) 9).trans rfl⟩ (fun hHeld => ?_)
            clear hK K
            refine norm_ (a' := ?_) ?_ ?_
            rotate_left
            · show Act.put _ (some 7) _ = _
              simp only [Act.put, List.setIfInBounds_toArray, List.set_cons_zero, List.set_cons_succ, i64_w, i32_w]
              rfl
            refine one_ (i := 4) (N := some 9) #[true, true, true, true, true, false, false, false, false, false, false, false, false, false, false, false, false, false, false, false, false, false, false] rfl rfl (by kernel_rfl) (by decide) (fun K hK => ?_)
            refine value_ (w1 := wc1.alloc (.cells #[.int .u64 x.f0, .int .u64 x.f1, .string x.f2, .int .i64 x.f3, .string x.f4, .string x.f5, .int .u64 x.f6, .int .i64 x.f7, .slice A8 x.f8.length c8, .slice A9 x.f9.length c9] 69)) (v := .slice (some ⟨wc1.heap.size, 0, none⟩) 1 1) (by rfl) rfl ?_ ?_
            · go_simp
              try rfl
            have hbx := blk_new wc1 (.cells #[.int .u64 x.f0, .int .u64 x.f1, .string x.f2, .int .i64 x.f3, .string x.f4, .string x.f5, .int .u64 x.f6, .int .i64 x.f7, .slice A8 x.f8.length c8, .slice A9 x.f9.length c9] 69)
            have hbb := below_alloc (Below.refl wc1.heap.size wc1) (.cells #[.int .u64 x.f0, .int .u64 x.f1, .string x.f2, .int .i64 x.f3, .string x.f4, .string x.f5, .int .u64 x.f6, .int .i64 x.f7, .slice A8 x.f8.length c8, .slice A9 x.f9.length c9] 69)
            generalize wc1.alloc (.cells #[.int .u64 x.f0, .int .u64 x.f1, .string x.f2, .int .i64 x.f3, .string x.f4, .string x.f5, .int .u64 x.f6, .int .i64 x.f7, .slice A8 x.f8.length c8, .slice A9 x.f9.length c9] 69) = wb2 at hbx hbb ⊢
            have o_ := Aside0.mk (Kd.R_below HO.out hbb)
            clear HO
            have HO := o_
            clear o_
            have hd_ := Aside0.mk (below_step HD.out hbb)
            clear HD
            have HD := hd_
            clear hd_
            obtain ⟨g9, hg9⟩ : ∃ g, wc1.heap.size = g := ⟨_, rfl⟩
            rw [hg9] at hbx ⊢
            have BK9 := Aside0.mk hbx
            clear hbx hbb hg9
            refine hK.out _ _ ⟨(blk_cell (blk_below BK3.out HD.out) 0).trans rfl, (blk_cell (blk_below BK3.out HD.out) 1).trans rfl, (blk_cell (blk_below BK3.out HD.out) 2).trans rfl, (blk_cell (blk_below BK3.out HD.out) 3).trans rfl, (blk_cell (blk_below BK3.out HD.out) 4).trans rfl, (blk_cell (blk_below BK3.out HD.out) 5).trans rfl, (blk_cell (blk_below BK3.out HD.out) 6).trans rfl, (blk_cell (blk_below BK3.out HD.out) 7).trans rfl, (blk_cell (blk_below BK3.out HD.out) 8).trans rfl, (blk_cell (blk_below BK3.out HD.out) 9).trans rfl⟩ (fun hHeld => ?_)
            clear hK K
            refine norm_ (a' := ?_) ?_ ?_
            rotate_left
            · show Act.put _ (some 9) _ = _
              simp only [Act.put, List.setIfInBounds_toArray, List.set_cons_zero, List.set_cons_succ, i64_w, i32_w]
              rfl
            exact norm_ (by simp only [putAll, Act.put, List.setIfInBounds_toArray, List.set_cons_zero, List.set_cons_succ]) (hCont (v5, v7, g9) _ ⟨HO.out, BK9.out, HD.out⟩)
          · skip
            refine value_ (w1 := wa0.alloc (.cells #[.int .u64 x.f0, .int .u64 x.f1, .string x.f2, .int .i64 x.f3, .string x.f4, .string x.f5, .int .u64 x.f6, .int .i64 x.f7, .slice A8 x.f8.length c8, .slice A9 x.f9.length c9] 69)) (v := .slice (some ⟨wa0.heap.size, 0, none⟩) 1 1) (by rfl) rfl ?_ ?_
            · go_simp
              try rfl
            have hbx := blk_new wa0 (.cells #[.int .u64 x.f0, .int .u64 x.f1, .string x.f2, .int .i64 x.f3, .string x.f4, .string x.f5, .int .u64 x.f6, .int .i64 x.f7, .slice A8 x.f8.length c8, .slice A9 x.f9.length c9] 69)
            have hbb := below_alloc (Below.refl wa0.heap.size wa0) (.cells #[.int .u64 x.f0, .int .u64 x.f1, .string x.f2, .int .i64 x.f3, .string x.f4, .string x.f5, .int .u64 x.f6, .int .i64 x.f7, .slice A8 x.f8.length c8, .slice A9 x.f9.length c9] 69)
            generalize wa0.alloc (.cells #[.int .u64 x.f0, .int .u64 x.f1, .string x.f2, .int .i64 x.f3, .string x.f4, .string x.f5, .int .u64 x.f6, .int .i64 x.f7, .slice A8 x.f8.length c8, .slice A9 x.f9.length c9] 69) = wb1 at hbx hbb ⊢
            have N59 := Aside0.mk (show some wa0.heap.size ≠ v5.ownBlock from (by rw [← HV5.out]; intro h_; injection h_ with h_; exact absurd h_ (Nat.ne_of_gt (own_lt HO.out HV5.out))))
            have o_ := Aside0.mk (Kd.R_below HO.out hbb)
            clear HO
            have HO := o_
            clear o_
            have hd_ := Aside0.mk (below_step HD.out hbb)
            clear HD
            have HD := hd_
            clear hd_
            obtain ⟨g9, hg9⟩ : ∃ g, wa0.heap.size = g := ⟨_, rfl⟩
            rw [hg9] at hbx N59 ⊢
            have BK9 := Aside0.mk hbx
            clear hbx hbb hg9
            refine hK.out _ _ ⟨(blk_cell (blk_below BK3.out HD.out) 0).trans rfl, (blk_cell (blk_below BK3.out HD.out) 1).trans rfl, (blk_cell (blk_below BK3.out HD.out) 2).trans rfl, (blk_cell (blk_below BK3.out HD.out) 3).trans rfl, (blk_cell (blk_below BK3.out HD.out) 4).trans rfl, (blk_cell (blk_below BK3.out HD.out) 5).trans rfl, (blk_cell (blk_below BK3.out HD.out) 6).trans rfl, (blk_cell (blk_below BK3.out HD.out) 7).trans rfl, (blk_cell (blk_below BK3.out HD.out) 8).trans rfl, (blk_cell (blk_below BK3.out HD.out) 9).trans rfl⟩ (fun hHeld => ?_)
            clear hK K
            refine norm_ (a' := ?_) ?_ ?_
            rotate_left
            · show Act.put _ (some 9) _ = _
              simp only [Act.put, List.setIfInBounds_toArray, List.set_cons_zero, List.set_cons_succ, i64_w, i32_w]
              rfl
            refine one_ (i := 2) (N := some 7) #[true, true, true, true, true, false, false, false, false, false, false, false, false, false, false, false, false, false, false, false, false, false, false] rfl rfl (by kernel_rfl) (by decide) (fun K hK => ?_)
            refine rows_step k69 w wd.heap.size (by rfl) (.tmp 5) (.tmp 6) 67 69 _ 136 (by rfl) Try.underlying67 info69' rfl (by decide) (by omega) v5 [] l A l.length c (by rfl) (by rfl) HO.out (rows_came HC.out (below_step HBd.out HD.out)) HD.out HD.out.size (by have := HLN.out; simp only [List.length_nil]; omega) ?_
            intro v7 wc2 hO hb hg
            have b9_ := Aside0.mk ((hg.block g9 (blk_lt BK9.out) N59.out).trans BK9.out)
            clear BK9 N59
            have BK9 := b9_
            clear b9_
            clear HO HD HV5
            have HO := Aside0.mk hO
            have HD := Aside0.mk hb
            clear hO hb hg
            refine hK.out _ _ ⟨(blk_cell (blk_below BK3.out HD.out) 0).trans rfl, (blk_cell (blk_below BK3.out HD.out) 1).trans rfl, (blk_cell (blk_below BK3.out HD.out) 2).trans rfl, (blk_cell (blk_below BK3.out HD.out) 3).trans rfl, (blk_cell (blk_below BK3.out HD.out) 4).trans rfl, (blk_cell (blk_below BK3.out HD.out) 5).trans rfl, (blk_cell (blk_below BK3.out HD.out) 6).trans rfl, (blk_cell (blk_below BK3.out HD.out) 7).trans rfl, (blk_cell (blk_below BK3.out HD.out) 8).trans rfl, (blk_cell (blk_below BK3.out HD.out) 9).trans rfl⟩ (fun hHeld => ?_)
            clear hK K
            refine norm_ (a' := ?_) ?_ ?_
            rotate_left
            · show Act.put _ (some 7) _ = _
              simp only [Act.put, List.setIfInBounds_toArray, List.set_cons_zero, List.set_cons_succ, i64_w, i32_w]
              rfl
            exact norm_ (by simp only [putAll, Act.put, List.setIfInBounds_toArray, List.set_cons_zero, List.set_cons_succ]) (hCont (v5, v7, g9) _ ⟨HO.out, BK9.out, HD.out⟩)
        · skip
          refine value_ (w1 := wd.alloc (.cells #[.int .u64 x.f0, .int .u64 x.f1, .string x.f2, .int .i64 x.f3, .string x.f4, .string x.f5, .int .u64 x.f6, .int .i64 x.f7, .slice A8 x.f8.length c8, .slice A9 x.f9.length c9] 69)) (v := .slice (some ⟨wd.heap.size, 0, none⟩) 1 1) (by rfl) rfl ?_ ?_
          · go_simp
            try rfl
          have hbx := blk_new wd (.cells #[.int .u64 x.f0, .int .u64 x.f1, .string x.f2, .int .i64 x.f3, .string x.f4, .string x.f5, .int .u64 x.f6, .int .i64 x.f7, .slice A8 x.f8.length c8, .slice A9 x.f9.length c9] 69)
          have hbb := below_alloc (Below.refl wd.heap.size wd) (.cells #[.int .u64 x.f0, .int .u64 x.f1, .string x.f2, .int .i64 x.f3, .string x.f4, .string x.f5, .int .u64 x.f6, .int .i64 x.f7, .slice A8 x.f8.length c8, .slice A9 x.f9.length c9] 69)
          generalize wd.alloc (.cells #[.int .u64 x.f0, .int .u64 x.f1, .string x.f2, .int .i64 x.f3, .string x.f4, .string x.f5, .int .u64 x.f6, .int .i64 x.f7, .slice A8 x.f8.length c8, .slice A9 x.f9.length c9] 69) = wb0 at hbx hbb ⊢
          have hd_ := Aside0.mk (below_step HD.out hbb)
          clear HD
          have HD := hd_
          clear hd_
          obtain ⟨g9, hg9⟩ : ∃ g, wd.heap.size = g := ⟨_, rfl⟩
          rw [hg9] at hbx ⊢
          have BK9 := Aside0.mk hbx
          clear hbx hbb hg9
          refine hK.out _ _ ⟨(blk_cell (blk_below BK3.out HD.out) 0).trans rfl, (blk_cell (blk_below BK3.out HD.out) 1).trans rfl, (blk_cell (blk_below BK3.out HD.out) 2).trans rfl, (blk_cell (blk_below BK3.out HD.out) 3).trans rfl, (blk_cell (blk_below BK3.out HD.out) 4).trans rfl, (blk_cell (blk_below BK3.out HD.out) 5).trans rfl, (blk_cell (blk_below BK3.out HD.out) 6).trans rfl, (blk_cell (blk_below BK3.out HD.out) 7).trans rfl, (blk_cell (blk_below BK3.out HD.out) 8).trans rfl, (blk_cell (blk_below BK3.out HD.out) 9).trans rfl⟩ (fun hHeld => ?_)
          clear hK K
          refine norm_ (a' := ?_) ?_ ?_
          rotate_left
          · show Act.put _ (some 9) _ = _
            simp only [Act.put, List.setIfInBounds_toArray, List.set_cons_zero, List.set_cons_succ, i64_w, i32_w]
            rfl
          refine one_ (i := 0) (N := some 5) #[true, true, false, true, true, false, false, false, false, false, false, false, false, false, false, false, false, false, false, false, false, false, false] rfl rfl (by kernel_rfl) (by decide) (fun K hK => ?_)
          refine value_ (w1 := wb0.alloc (.cells #[] 69)) (v := .slice (some ⟨wb0.heap.size, 0, none⟩) 0 0) (by rfl) rfl ?_ ?_
          · go_simp
            try rfl
          have hbx := blk_new wb0 (.cells #[] 69)
          have hbb := below_alloc (Below.refl wb0.heap.size wb0) (.cells #[] 69)
          generalize wb0.alloc (.cells #[] 69) = wa1 at hbx hbb ⊢
          have N59 := Aside0.mk (show some g9 ≠ (Value.slice (some ⟨wb0.heap.size, 0, none⟩) 0 0).ownBlock from (by intro h_; injection h_ with h_; exact absurd h_ (Nat.ne_of_lt (blk_lt BK9.out))))
          have HO := Aside0.mk (row_empty w wa1 wd.heap.size wb0.heap.size hbx HD.out.size)
          have b9_ := Aside0.mk (blk_below BK9.out hbb)
          clear BK9
          have BK9 := b9_
          clear b9_
          have hd_ := Aside0.mk (below_step HD.out hbb)
          clear HD
          have HD := hd_
          clear hd_
          obtain ⟨v5, hv5⟩ : ∃ v, Value.slice (some ⟨wb0.heap.size, 0, none⟩) 0 0 = v := ⟨_, rfl⟩
          rw [hv5] at HO N59 ⊢
          have HV5 := Aside0.mk hv5
          clear hv5 hbx hbb
          refine hK.out _ _ ⟨(blk_cell (blk_below BK3.out HD.out) 0).trans rfl, (blk_cell (blk_below BK3.out HD.out) 1).trans rfl, (blk_cell (blk_below BK3.out HD.out) 2).trans rfl, (blk_cell (blk_below BK3.out HD.out) 3).trans rfl, (blk_cell (blk_below BK3.out HD.out) 4).trans rfl, (blk_cell (blk_below BK3.out HD.out) 5).trans rfl, (blk_cell (blk_below BK3.out HD.out) 6).trans rfl, (blk_cell (blk_below BK3.out HD.out) 7).trans rfl, (blk_cell (blk_below BK3.out HD.out) 8).trans rfl, (blk_cell (blk_below BK3.out HD.out) 9).trans rfl⟩ (fun hHeld => ?_)
          clear hK K
          refine norm_ (a' := ?_) ?_ ?_
          rotate_left
          · show Act.put _ (some 5) _ = _
            simp only [Act.put, List.setIfInBounds_toArray, List.set_cons_zero, List.set_cons_succ, i64_w, i32_w]
            rfl
          refine one_ (i := 2) (N := some 7) #[true, true, true, true, true, false, false, false, false, false, false, false, false, false, false, false, false, false, false, false, false, false, false] rfl rfl (by kernel_rfl) (by decide) (fun K hK => ?_)
          refine rows_step k69 w wd.heap.size (by rfl) (.tmp 5) (.tmp 6) 67 69 _ 136 (by rfl) Try.underlying67 info69' rfl (by decide) (by omega) v5 [] l A l.length c (by rfl) (by rfl) HO.out (rows_came HC.out (below_step HBd.out HD.out)) HD.out HD.out.size (by have := HLN.out; simp only [List.length_nil]; omega) ?_
          intro v7 wc2 hO hb hg
          have b9_ := Aside0.mk ((hg.block g9 (blk_lt BK9.out) N59.out).trans BK9.out)
          clear BK9 N59
          have BK9 := b9_
          clear b9_
          clear HO HD HV5
          have HO := Aside0.mk hO
          have HD := Aside0.mk hb
          clear hO hb hg
          refine hK.out _ _ ⟨(blk_cell (blk_below BK3.out HD.out) 0).trans rfl, (blk_cell (blk_below BK3.out HD.out) 1).trans rfl, (blk_cell (blk_below BK3.out HD.out) 2).trans rfl, (blk_cell (blk_below BK3.out HD.out) 3).trans rfl, (blk_cell (blk_below BK3.out HD.out) 4).trans rfl, (blk_cell (blk_below BK3.out HD.out) 5).trans rfl, (blk_cell (blk_below BK3.out HD.out) 6).trans rfl, (blk_cell (blk_below BK3.out HD.out) 7).trans rfl, (blk_cell (blk_below BK3.out HD.out) 8).trans rfl, (blk_cell (blk_below BK3.out HD.out) 9).trans rfl⟩ (fun hHeld => ?_)
          clear hK K
          refine norm_ (a' := ?_) ?_ ?_
          rotate_left
          · show Act.put _ (some 7) _ = _
            simp only [Act.put, List.setIfInBounds_toArray, List.set_cons_zero, List.set_cons_succ, i64_w, i32_w]
            rfl
          exact norm_ (by simp only [putAll, Act.put, List.setIfInBounds_toArray, List.set_cons_zero, List.set_cons_succ]) (hCont (v5, v7, g9) _ ⟨HO.out, BK9.out, HD.out⟩)
      rintro ⟨v5, v7, g9⟩ we ⟨hO, hB9, hD⟩
      have HO := Aside0.mk hO
      have BK9 := Aside0.mk hB9
      clear HD
      have HD := Aside0.mk hD
      clear hO hB9 hD
      have hHeld : we.cell? ⟨g3, 0, none⟩ = some (.int .u64 x.f0) ∧ we.cell? ⟨g3, 1, none⟩ = some (.int .u64 x.f1) ∧ we.cell? ⟨g3, 2, none⟩ = some (.string x.f2) ∧ we.cell? ⟨g3, 3, none⟩ = some (.int .i64 x.f3) ∧ we.cell? ⟨g3, 4, none⟩ = some (.string x.f4) ∧ we.cell? ⟨g3, 5, none⟩ = some (.string x.f5) ∧ we.cell? ⟨g3, 6, none⟩ = some (.int .u64 x.f6) ∧ we.cell? ⟨g3, 7, none⟩ = some (.int .i64 x.f7) ∧ we.cell? ⟨g3, 8, none⟩ = some (.slice A8 x.f8.length c8) ∧ we.cell? ⟨g3, 9, none⟩ = some (.slice A9 x.f9.length c9) := ⟨(blk_cell (blk_below BK3.out HD.out) 0).trans rfl, (blk_cell (blk_below BK3.out HD.out) 1).trans rfl, (blk_cell (blk_below BK3.out HD.out) 2).trans rfl, (blk_cell (blk_below BK3.out HD.out) 3).trans rfl, (blk_cell (blk_below BK3.out HD.out) 4).trans rfl, (blk_cell (blk_below BK3.out HD.out) 5).trans rfl, (blk_cell (blk_below BK3.out HD.out) 6).trans rfl, (blk_cell (blk_below BK3.out HD.out) 7).trans rfl, (blk_cell (blk_below BK3.out HD.out) 8).trans rfl, (blk_cell (blk_below BK3.out HD.out) 9).trans rfl⟩
      refine norm_ (a' := ?_) ?_ ?_
      rotate_left
      · simp only [putAll, Act.put, List.setIfInBounds_toArray, List.set_cons_zero, List.set_cons_succ]
        rfl
      refine one_ (i := 5) (N := some 10) #[true, true, true, true, true, true, false, false, false, false, false, false, false, false, false, false, false, false, false, false, false, false, false] rfl rfl (by kernel_rfl) (by decide) (fun K hK => ?_)
      refine rows_step k69 w wd.heap.size (by rfl) (.tmp 7) (.tmp 9) 67 69 _ 136 (by rfl) Try.underlying67 info69' rfl (by decide) (by omega) v7 l [x] (some ⟨g9, 0, none⟩) 1 1 (by rfl) (by rfl) HO.out (row_one w we g9 69 x [.int .u64 x.f0, .int .u64 x.f1, .string x.f2, .int .i64 x.f3, .string x.f4, .string x.f5, .int .u64 x.f6, .int .i64 x.f7, .slice A8 x.f8.length c8, .slice A9 x.f9.length c9] RX.out.k BK9.out) HD.out HD.out.size (by have := HLN.out; omega) ?_
      intro v10 wf hO hb hg
      clear HO HD BK9
      have HD := Aside0.mk hb
      obtain ⟨A10, c10, rfl, hc10, hC10⟩ := rows_read hO (below_step HBd.out HD.out)
      have C10 := Aside0.mk hC10
      have L10 := Aside0.mk hc10
      clear hO hb hg hC10 hc10
      refine hK.out _ _ ⟨(blk_cell (blk_below BK3.out HD.out) 0).trans rfl, (blk_cell (blk_below BK3.out HD.out) 1).trans rfl, (blk_cell (blk_below BK3.out HD.out) 2).trans rfl, (blk_cell (blk_below BK3.out HD.out) 3).trans rfl, (blk_cell (blk_below BK3.out HD.out) 4).trans rfl, (blk_cell (blk_below BK3.out HD.out) 5).trans rfl, (blk_cell (blk_below BK3.out HD.out) 6).trans rfl, (blk_cell (blk_below BK3.out HD.out) 7).trans rfl, (blk_cell (blk_below BK3.out HD.out) 8).trans rfl, (blk_cell (blk_below BK3.out HD.out) 9).trans rfl⟩ (fun hHeld => ?_)
      clear hK K
      refine norm_ (a' := ?_) ?_ ?_
      rotate_left
      · show Act.put _ (some 10) _ = _
        simp only [Act.put, List.setIfInBounds_toArray, List.set_cons_zero, List.set_cons_succ, i64_w, i32_w]
        rfl
      refine one_ (i := 6) (N := some 11) #[true, true, true, true, true, true, true, false, false, false, false, false, false, false, false, false, false, false, false, false, false, false, false] rfl rfl (by kernel_rfl) (by decide) (fun K hK => ?_)
      refine goes_ Try.func73 (by kernel_rfl) rfl #[.slice A10 (l ++ [x]).length c10] (by rfl) rfl rfl (by first | (simp only [List.map_toArray, List.map_cons, List.map_nil]; done) | (simp only [List.map_toArray, List.map_cons, List.map_nil]; rfl)) ?_
      with_reducible refine (lightB A10 c10 (l ++ [x]) false _ C10.out L10.out HLL.out HS.out HL.out).mono ?_
      rintro e wg ⟨rfl, hb⟩
      refine ⟨_, rfl, ?_⟩
      clear C10 L10
      have hd_ := Aside0.mk (below_step HD.out hb)
      clear HD
      have HD := hd_
      clear hd_
      clear hb
      refine hK.out _ _ ⟨(blk_cell (blk_below BK3.out HD.out) 0).trans rfl, (blk_cell (blk_below BK3.out HD.out) 1).trans rfl, (blk_cell (blk_below BK3.out HD.out) 2).trans rfl, (blk_cell (blk_below BK3.out HD.out) 3).trans rfl, (blk_cell (blk_below BK3.out HD.out) 4).trans rfl, (blk_cell (blk_below BK3.out HD.out) 5).trans rfl, (blk_cell (blk_below BK3.out HD.out) 6).trans rfl, (blk_cell (blk_below BK3.out HD.out) 7).trans rfl, (blk_cell (blk_below BK3.out HD.out) 8).trans rfl, (blk_cell (blk_below BK3.out HD.out) 9).trans rfl⟩ (fun hHeld => ?_)
      clear hK K
      refine norm_ (a' := ?_) ?_ ?_
      rotate_left
      · show Act.put _ (some 11) _ = _
        simp only [Act.put, List.setIfInBounds_toArray, List.set_cons_zero, List.set_cons_succ, i64_w, i32_w]
        rfl
      refine pure_ (i := 7) (N := some 12) (v := ?_) (a' := ?_) #[true, true, true, true, true, true, true, true, false, false, false, false, false, false, false, false, false, false, false, false, false, false, false] rfl rfl (by kernel_rfl) (fun _ _ _ h => h) (Or.inl ⟨by rfl, ?_⟩) ?_ ?_
      rotate_left
      · intro w'
        go_simp
        with_reducible rfl
      rotate_left
      · simp only [Act.put, List.setIfInBounds_toArray, List.set_cons_zero, List.set_cons_succ, i64_w, i32_w]
        rfl
      refine pure_ (i := 8) (N := some 13) (v := ?_) (a' := ?_) #[true, true, true, true, true, true, true, true, true, false, false, false, false, false, false, false, false, false, false, false, false, false, false] rfl rfl (by kernel_rfl) (fun _ _ _ h => h) (Or.inl ⟨by rfl, ?_⟩) ?_ ?_
      rotate_left
      · intro w'
        go_simp
        with_reducible rfl
      rotate_left
      · simp only [Act.put, List.setIfInBounds_toArray, List.set_cons_zero, List.set_cons_succ, i64_w, i32_w]
        rfl
      refine pure_ (i := 9) (N := some 14) (v := undef) (a' := ?_) #[true, true, true, true, true, true, true, true, true, true, false, false, false, false, false, false, false, false, false, false, false, false, false] rfl rfl (by kernel_rfl) (fun _ _ _ h => h) (Or.inr ⟨by rfl, rfl⟩) ?_ ?_
      rotate_left
      · simp only [Act.put, List.setIfInBounds_toArray, List.set_cons_zero, List.set_cons_succ, i64_w, i32_w]
        rfl
      refine pure_ (i := 10) (N := some 15) (v := undef) (a' := ?_) #[true, true, true, true, true, true, true, true, true, true, true, false, false, false, false, false, false, false, false, false, false, false, false] rfl rfl (by kernel_rfl) (fun _ _ _ h => h) (Or.inr ⟨by rfl, rfl⟩) ?_ ?_
      rotate_left
      · simp only [Act.put, List.setIfInBounds_toArray, List.set_cons_zero, List.set_cons_succ, i64_w, i32_w]
        rfl
      refine pure_ (i := 11) (N := some 16) (v := undef) (a' := ?_) #[true, true, true, true, true, true, true, true, true, true, true, true, false, false, false, false, false, false, false, false, false, false, false] rfl rfl (by kernel_rfl) (fun _ _ _ h => h) (Or.inr ⟨by rfl, rfl⟩) ?_ ?_
      rotate_left
      · simp only [Act.put, List.setIfInBounds_toArray, List.set_cons_zero, List.set_cons_succ, i64_w, i32_w]
        rfl
      refine pure_ (i := 12) (N := some 17) (v := undef) (a' := ?_) #[true, true, true, true, true, true, true, true, true, true, true, true, true, false, false, false, false, false, false, false, false, false, false] rfl rfl (by kernel_rfl) (fun _ _ _ h => h) (Or.inr ⟨by rfl, rfl⟩) ?_ ?_
      rotate_left
      · simp only [Act.put, List.setIfInBounds_toArray, List.set_cons_zero, List.set_cons_succ, i64_w, i32_w]
        rfl
      refine pure_ (i := 13) (N := some 18) (v := undef) (a' := ?_) #[true, true, true, true, true, true, true, true, true, true, true, true, true, true, false, false, false, false, false, false, false, false, false] rfl rfl (by kernel_rfl) (fun _ _ _ h => h) (Or.inr ⟨by rfl, rfl⟩) ?_ ?_
      rotate_left
      · simp only [Act.put, List.setIfInBounds_toArray, List.set_cons_zero, List.set_cons_succ, i64_w, i32_w]
        rfl
      refine pure_ (i := 14) (N := some 19) (v := undef) (a' := ?_) #[true, true, true, true, true, true, true, true, true, true, true, true, true, true, true, false, false, false, false, false, false, false, false] rfl rfl (by kernel_rfl) (fun _ _ _ h => h) (Or.inr ⟨by rfl, rfl⟩) ?_ ?_
      rotate_left
      · simp only [Act.put, List.setIfInBounds_toArray, List.set_cons_zero, List.set_cons_succ, i64_w, i32_w]
        rfl
      refine pure_ (i := 15) (N := some 20) (v := undef) (a' := ?_) #[true, true, true, true, true, true, true, true, true, true, true, true, true, true, true, true, false, false, false, false, false, false, false] rfl rfl (by kernel_rfl) (fun _ _ _ h => h) (Or.inr ⟨by rfl, rfl⟩) ?_ ?_
      rotate_left
      · simp only [Act.put, List.setIfInBounds_toArray, List.set_cons_zero, List.set_cons_succ, i64_w, i32_w]
        rfl
      refine pure_ (i := 16) (N := some 21) (v := undef) (a' := ?_) #[true, true, true, true, true, true, true, true, true, true, true, true, true, true, true, true, true, false, false, false, false, false, false] rfl rfl (by kernel_rfl) (fun _ _ _ h => h) (Or.inr ⟨by rfl, rfl⟩) ?_ ?_
      rotate_left
      · simp only [Act.put, List.setIfInBounds_toArray, List.set_cons_zero, List.set_cons_succ, i64_w, i32_w]
        rfl
      refine pure_ (i := 17) (N := some 22) (v := undef) (a' := ?_) #[true, true, true, true, true, true, true, true, true, true, true, true, true, true, true, true, true, true, false, false, false, false, false] rfl rfl (by kernel_rfl) (fun _ _ _ h => h) (Or.inr ⟨by rfl, rfl⟩) ?_ ?_
      rotate_left
      · simp only [Act.put, List.setIfInBounds_toArray, List.set_cons_zero, List.set_cons_succ, i64_w, i32_w]
        rfl
      refine pure_ (i := 18) (N := some 23) (v := undef) (a' := ?_) #[true, true, true, true, true, true, true, true, true, true, true, true, true, true, true, true, true, true, true, false, false, false, false] rfl rfl (by kernel_rfl) (fun _ _ _ h => h) (Or.inr ⟨by rfl, rfl⟩) ?_ ?_
      rotate_left
      · simp only [Act.put, List.setIfInBounds_toArray, List.set_cons_zero, List.set_cons_succ, i64_w, i32_w]
        rfl
      refine pure_ (i := 19) (N := some 24) (v := undef) (a' := ?_) #[true, true, true, true, true, true, true, true, true, true, true, true, true, true, true, true, true, true, true, true, false, false, false] rfl rfl (by kernel_rfl) (fun _ _ _ h => h) (Or.inr ⟨by rfl, rfl⟩) ?_ ?_
      rotate_left
      · simp only [Act.put, List.setIfInBounds_toArray, List.set_cons_zero, List.set_cons_succ, i64_w, i32_w]
        rfl
      refine pure_ (i := 20) (N := some 25) (v := undef) (a' := ?_) #[true, true, true, true, true, true, true, true, true, true, true, true, true, true, true, true, true, true, true, true, true, false, false] rfl rfl (by kernel_rfl) (fun _ _ _ h => h) (Or.inr ⟨by rfl, rfl⟩) ?_ ?_
      rotate_left
      · simp only [Act.put, List.setIfInBounds_toArray, List.set_cons_zero, List.set_cons_succ, i64_w, i32_w]
        rfl
      refine pure_ (i := 21) (N := some 26) (v := undef) (a' := ?_) #[true, true, true, true, true, true, true, true, true, true, true, true, true, true, true, true, true, true, true, true, true, true, false] rfl rfl (by kernel_rfl) (fun _ _ _ h => h) (Or.inr ⟨by rfl, rfl⟩) ?_ ?_
      rotate_left
      · simp only [Act.put, List.setIfInBounds_toArray, List.set_cons_zero, List.set_cons_succ, i64_w, i32_w]
        rfl
      refine pure_ (i := 22) (N := some 27) (v := ?_) (a' := ?_) #[true, true, true, true, true, true, true, true, true, true, true, true, true, true, true, true, true, true, true, true, true, true, true] rfl rfl (by kernel_rfl) (fun _ _ _ h => h) (Or.inl ⟨by rfl, ?_⟩) ?_ ?_
      rotate_left
      · intro w'
        go_simp
        with_reducible rfl
      rotate_left
      · simp only [Act.put, List.setIfInBounds_toArray, List.set_cons_zero, List.set_cons_succ, i64_w, i32_w]
        rfl
      refine done_ (by kernel_rfl) ?_
      go_wp2
      go_meet
      case rel => exact ⟨rfl, ⟨blk_below BK3.out HD.out⟩, ⟨below_step HBd.out HD.out⟩⟩
    | true =>
      have HL := HLB
      by_cases h0 : 0 < l.length
      · have d0 : decide (0 < (l.length : Int)) = true := decide_eq_true (by omega)
        have d1 : decide (0 < l.length) = true := decide_eq_true h0
        have p1 : (0 : Int) ≤ (l.length : Int) - 1 := by omega
        have p1' : (1 : Int) ≤ (l.length : Int) := by omega
        have q1 : (l.length : Int) - 1 < (l.length : Int) := by omega
        have hl63 : (l.length : Int) ≤ 1034834473201 := by have := HLN.out; omega
        have hjw : IntKind.i64.wrap ((l.length : Int) - 1) = (l.length : Int) - 1 := IntWalk.i64_in _ (by omega)
        obtain ⟨ad, E8, e8, E9, e9, hA, hx0, _⟩ := at_T69 HC.out ((l.length : Int) - 1) p1 q1
        subst hA
        rw [show ((l.length : Int) - 1).toNat = l.length - 1 by omega] at hx0
        obtain ⟨y0, hy0⟩ : ∃ y, (rd_T69 l ((l.length : Int) - 1)).f0 = y := ⟨_, rfl⟩
        rw [hy0] at hx0 HQ
        have HX0 := Aside0.mk hx0
        clear hx0 hy0
        obtain ⟨qm, hm⟩ : ∃ z, (y0 == 18446744073709551615) = z := ⟨_, rfl⟩
        obtain rfl : q = qm := by rw [HQ.out, d1, hm]; cases qm <;> rfl
        clear h0
        have b3_ := Aside0.mk (blk_drew BK3.out)
        have hb_ := Aside0.mk (below_drew1 HB.out)
        have HD := Aside0.mk (Below.refl (World.drew w3).heap.size (World.drew w3))
        have HBd := hb_
        clear BK3 HB
        have BK3 := b3_
        clear b3_ hb_
        refine start_ (n := 23) (S := fun w' => w'.cell? ⟨g3, 0, none⟩ = some (.int .u64 x.f0) ∧ w'.cell? ⟨g3, 1, none⟩ = some (.int .u64 x.f1) ∧ w'.cell? ⟨g3, 2, none⟩ = some (.string x.f2) ∧ w'.cell? ⟨g3, 3, none⟩ = some (.int .i64 x.f3) ∧ w'.cell? ⟨g3, 4, none⟩ = some (.string x.f4) ∧ w'.cell? ⟨g3, 5, none⟩ = some (.string x.f5) ∧ w'.cell? ⟨g3, 6, none⟩ = some (.int .u64 x.f6) ∧ w'.cell? ⟨g3, 7, none⟩ = some (.int .i64 x.f7) ∧ w'.cell? ⟨g3, 8, none⟩ = some (.slice A8 x.f8.length c8) ∧ w'.cell? ⟨g3, 9, none⟩ = some (.slice A9 x.f9.length c9) ∧ w'.cell? (ad.add ((l.length - 1) * 10)) = some (.int .u64 y0)) (ds := []) #[false, false, false, false, false, false, false, false, false, false, false, false, false, false, false, false, false, false, false, false, false, false, false] (by kernel_rfl) rfl rfl ⟨(blk_cell (blk_below BK3.out HD.out) 0).trans rfl, (blk_cell (blk_below BK3.out HD.out) 1).trans rfl, (blk_cell (blk_below BK3.out HD.out) 2).trans rfl, (blk_cell (blk_below BK3.out HD.out) 3).trans rfl, (blk_cell (blk_below BK3.out HD.out) 4).trans rfl, (blk_cell (blk_below BK3.out HD.out) 5).trans rfl, (blk_cell (blk_below BK3.out HD.out) 6).trans rfl, (blk_cell (blk_below BK3.out HD.out) 7).trans rfl, (blk_cell (blk_below BK3.out HD.out) 8).trans rfl, (blk_cell (blk_below BK3.out HD.out) 9).trans rfl, ((below_step HBd.out HD.out).cell (World.block_lt_of_cell? w _ HX0.out)).trans HX0.out⟩ (fun hHeld => ?_)
        generalize World.drew w3 = wd at BK3 HBd HD hHeld ⊢
        refine pure_ (i := 1) (N := some 6) (v := ?_) (a' := ?_) #[false, true, false, false, false, false, false, false, false, false, false, false, false, false, false, false, false, false, false, false, false, false, false] rfl rfl (by kernel_rfl) (fun _ _ _ h => h) (Or.inl ⟨by rfl, ?_⟩) ?_ ?_
        rotate_left
        · intro w'
          go_simp
          with_reducible rfl
        rotate_left
        · simp only [Act.put, List.setIfInBounds_toArray, List.set_cons_zero, List.set_cons_succ, i64_w, i32_w]
          rfl
        refine take_ (i := 3) (N := some 8) (v := ?_) (a' := ?_) #[false, true, false, true, false, false, false, false, false, false, false, false, false, false, false, false, false, false, false, false, false, false, false] rfl rfl (by kernel_rfl) (fun _ _ _ h => h) (Or.inl ⟨by rfl, ?_⟩) hHeld ?_ ?_
        rotate_left
        · rintro w' ⟨s0, s1, s2, s3, s4, s5, s6, s7, s8, s9, s10⟩
          go_simp
          with_reducible rfl
        rotate_left
        · simp only [Act.put, List.setIfInBounds_toArray, List.set_cons_zero, List.set_cons_succ, i64_w, i32_w]
          rfl
        refine join_ (σ := Value × Value × Nat) 18 #[true, true, true, true, true, false, false, false, false, false, false, false, false, false, false, false, false, false, false, false, false, false, false] (fun s => [(5, s.1), (7, s.2.1), (9, .slice (some ⟨s.2.2, 0, none⟩) 1 1)]) (fun s w' => (Kd.fixed k69 w).R 69 w' wd.heap.size (fun _ => True) s.2.1 l ∧ w'.heap[s.2.2]? = some (.cells #[.int .u64 x.f0, .int .u64 x.f1, .string x.f2, .int .i64 x.f3, .string x.f4, .string x.f5, .int .u64 x.f6, .int .i64 x.f7, .slice A8 x.f8.length c8, .slice A9 x.f9.length c9] 69 (0, 0)) ∧ Below wd.heap.size wd w') ?_ ?_
        rotate_left
        · intro hCont
          refine two_ (i := 0) (j := 4) (Ni := some 5) (Nj := some 9) #[true, true, false, true, false, false, false, false, false, false, false, false, false, false, false, false, false, false, false, false, false, false, false] #[false, true, false, true, true, false, false, false, false, false, false, false, false, false, false, false, false, false, false, false, false, false, false] rfl rfl rfl rfl (by kernel_rfl) (by decide) (by decide) (fun K hK => ?_) (fun K hK => ?_)
          · skip
            refine value_ (w1 := wd.alloc (.cells #[] 69)) (v := .slice (some ⟨wd.heap.size, 0, none⟩) 0 0) (by rfl) rfl ?_ ?_
            · go_simp
              try rfl
            have hbx := blk_new wd (.cells #[] 69)
            have hbb := below_alloc (Below.refl wd.heap.size wd) (.cells #[] 69)
            generalize wd.alloc (.cells #[] 69) = wa0 at hbx hbb ⊢
            have HO := Aside0.mk (row_empty w wa0 wd.heap.size wd.heap.size hbx HD.out.size)
            have hd_ := Aside0.mk (below_step HD.out hbb)
            clear HD
            have HD := hd_
            clear hd_
            obtain ⟨v5, hv5⟩ : ∃ v, Value.slice (some ⟨wd.heap.size, 0, none⟩) 0 0 = v := ⟨_, rfl⟩
            rw [hv5] at HO ⊢
            have HV5 := Aside0.mk hv5
            clear hv5 hbx hbb
            refine hK.out _ _ ⟨(blk_cell (blk_below BK3.out HD.out) 0).trans rfl, (blk_cell (blk_below BK3.out HD.out) 1).trans rfl, (blk_cell (blk_below BK3.out HD.out) 2).trans rfl, (blk_cell (blk_below BK3.out HD.out) 3).trans rfl, (blk_cell (blk_below BK3.out HD.out) 4).trans rfl, (blk_cell (blk_below BK3.out HD.out) 5).trans rfl, (blk_cell (blk_below BK3.out HD.out) 6).trans rfl, (blk_cell (blk_below BK3.out HD.out) 7).trans rfl, (blk_cell (blk_below BK3.out HD.out) 8).trans rfl, (blk_cell (blk_below BK3.out HD.out) 9).trans rfl, ((below_step HBd.out HD.out).cell (World.block_lt_of_cell? w _ HX0.out)).trans HX0.out⟩ (fun hHeld => ?_)
            clear hK K
            refine norm_ (a' := ?_) ?_ ?_
            rotate_left
            · show Act.put _ (some 5) _ = _
              simp only [Act.put, List.setIfInBounds_toArray, List.set_cons_zero, List.set_cons_succ, i64_w, i32_w]
              rfl
            refine two_ (i := 2) (j := 4) (Ni := some 7) (Nj := some 9) #[true, true, true, true, false, false, false, false, false, false, false, false, false, false, false, false, false, false, false, false, false, false, false] #[true, true, false, true, true, false, false, false, false, false, false, false, false, false, false, false, false, false, false, false, false, false, false] rfl rfl rfl rfl (by kernel_rfl) (by decide) (by decide) (fun K hK => ?_) (fun K hK => ?_)
            · skip
              refine rows_step k69 w wd.heap.size (by rfl) (.tmp 5) (.tmp 6) 67 69 _ 136 (by rfl) Try.underlying67 info69' rfl (by decide) (by omega) v5 [] l (some ad) l.length c (by rfl) (by rfl) HO.out (rows_came HC.out (below_step HBd.out HD.out)) HD.out HD.out.size (by have := HLN.out; simp only [List.length_nil]; omega) ?_
              intro v7 wc1 hO hb hg
              clear HO HD HV5
              have HO := Aside0.mk hO
              have HD := Aside0.mk hb
              clear hO hb hg
              refine hK.out _ _ ⟨(blk_cell (blk_below BK3.out HD.out) 0).trans rfl, (blk_cell (blk_below BK3.out HD.out) 1).trans rfl, (blk_cell (blk_below BK3.out HD.out) 2).trans rfl, (blk_cell (blk_below BK3.out HD.out) 3).trans rfl, (blk_cell (blk_below BK3.out HD.out) 4).trans rfl, (blk_cell (blk_below BK3.out HD.out) 5).trans rfl, (blk_cell (blk_below BK3.out HD.out) 6).trans rfl, (blk_cell (blk_below BK3.out HD.out) 7).trans rfl, (blk_cell (blk_below BK3.out HD.out) 8).trans rfl, (blk_cell (blk_below BK3.out HD.out) 9).trans rfl, ((below_step HBd.out HD.out).cell (World.block_lt_of_cell? w _ HX0.out)).trans HX0.out⟩ (fun hHeld => ?_)
              clear hK K
              refine norm_ (a' := ?_) ?_ ?_
              rotate_left
              · show Act.put _ (some 7) _ = _
                simp only [Act.put, List.setIfInBounds_toArray, List.set_cons_zero, List.set_cons_succ, i64_w, i32_w]
                rfl
              refine one_ (i := 4) (N := some 9) #[true, true, true, true, true, false, false, false, false, false, false, false, false, false, false, false, false, false, false, false, false, false, false] rfl rfl (by kernel_rfl) (by decide) (fun K hK => ?_)
              refine value_ (w1 := wc1.alloc (.cells #[.int .u64 x.f0, .int .u64 x.f1, .string x.f2, .int .i64 x.f3, .string x.f4, .string x.f5, .int .u64 x.f6, .int .i64 x.f7, .slice A8 x.f8.length c8, .slice A9 x.f9.length c9] 69)) (v := .slice (some ⟨wc1.heap.size, 0, none⟩) 1 1) (by rfl) rfl ?_ ?_
              · go_simp
                try rfl
              have hbx := blk_new wc1 (.cells #[.int .u64 x.f0, .int .u64 x.f1, .string x.f2, .int .i64 x.f3, .string x.f4, .string x.f5, .int .u64 x.f6, .int .i64 x.f7, .slice A8 x.f8.length c8, .slice A9 x.f9.length c9] 69)
              have hbb := below_alloc (Below.refl wc1.heap.size wc1) (.cells #[.int .u64 x.f0, .int .u64 x.f1, .string x.f2, .int .i64 x.f3, .string x.f4, .string x.f5, .int .u64 x.f6, .int .i64 x.f7, .slice A8 x.f8.length c8, .slice A9 x.f9.length c9] 69)
              generalize wc1.alloc (.cells #[.int .u64 x.f0, .int .u64 x.f1, .string x.f2, .int .i64 x.f3, .string x.f4, .string x.f5, .int .u64 x.f6, .int .i64 x.f7, .slice A8 x.f8.length c8, .slice A9 x.f9.length c9] 69) = wb2 at hbx hbb ⊢
              have o_ := Aside0.mk (Kd.R_below HO.out hbb)
              clear HO
              have HO := o_
              clear o_
              have hd_ := Aside0.mk (below_step HD.out hbb)
              clear HD
              have HD := hd_
              clear hd_
              obtain ⟨g9, hg9⟩ : ∃ g, wc1.heap.size = g := ⟨_, rfl⟩
              rw [hg9] at hbx ⊢
              have BK9 := Aside0.mk hbx
              clear hbx hbb hg9
              refine hK.out _ _ ⟨(blk_cell (blk_below BK3.out HD.out) 0).trans rfl, (blk_cell (blk_below BK3.out HD.out) 1).trans rfl, (blk_cell (blk_below BK3.out HD.out) 2).trans rfl, (blk_cell (blk_below BK3.out HD.out) 3).trans rfl, (blk_cell (blk_below BK3.out HD.out) 4).trans rfl, (blk_cell (blk_below BK3.out HD.out) 5).trans rfl, (blk_cell (blk_below BK3.out HD.out) 6).trans rfl, (blk_cell (blk_below BK3.out HD.out) 7).trans rfl, (blk_cell (blk_below BK3.out HD.out) 8).trans rfl, (blk_cell (blk_below BK3.out HD.out) 9).trans rfl, ((below_step HBd.out HD.out).cell (World.block_lt_of_cell? w _ HX0.out)).trans HX0.out⟩ (fun hHeld => ?_)
              clear hK K
              refine norm_ (a' := ?_) ?_ ?_
              rotate_left
              · show Act.put _ (some 9) _ = _
                simp only [Act.put, List.setIfInBounds_toArray, List.set_cons_zero, List.set_cons_succ, i64_w, i32_w]
                rfl
              exact norm_ (by simp only [putAll, Act.put, List.setIfInBounds_toArray, List.set_cons_zero, List.set_cons_succ]) (hCont (v5, v7, g9) _ ⟨HO.out, BK9.out, HD.out⟩)
            · skip
              refine value_ (w1 := wa0.alloc (.cells #[.int .u64 x.f0, .int .u64 x.f1, .string x.f2, .int .i64 x.f3, .string x.f4, .string x.f5, .int .u64 x.f6, .int .i64 x.f7, .slice A8 x.f8.length c8, .slice A9 x.f9.length c9] 69)) (v := .slice (some ⟨wa0.heap.size, 0, none⟩) 1 1) (by rfl) rfl ?_ ?_
              · go_simp
                try rfl
              have hbx := blk_new wa0 (.cells #[.int .u64 x.f0, .int .u64 x.f1, .string x.f2, .int .i64 x.f3, .string x.f4, .string x.f5, .int .u64 x.f6, .int .i64 x.f7, .slice A8 x.f8.length c8, .slice A9 x.f9.length c9] 69)
              have hbb := below_alloc (Below.refl wa0.heap.size wa0) (.cells #[.int .u64 x.f0, .int .u64 x.f1, .string x.f2, .int .i64 x.f3, .string x.f4, .string x.f5, .int .u64 x.f6, .int .i64 x.f7, .slice A8 x.f8.length c8, .slice A9 x.f9.length c9] 69)
              generalize wa0.alloc (.cells #[.int .u64 x.f0, .int .u64 x.f1, .string x.f2, .int .i64 x.f3, .string x.f4, .string x.f5, .int .u64 x.f6, .int .i64 x.f7, .slice A8 x.f8.length c8, .slice A9 x.f9.length c9] 69) = wb1 at hbx hbb ⊢
              have N59 := Aside0.mk (show some wa0.heap.size ≠ v5.ownBlock from (by rw [← HV5.out]; intro h_; injection h_ with h_; exact absurd h_ (Nat.ne_of_gt (own_lt HO.out HV5.out))))
              have o_ := Aside0.mk (Kd.R_below HO.out hbb)
              clear HO
              have HO := o_
              clear o_
              have hd_ := Aside0.mk (below_step HD.out hbb)
              clear HD
              have HD := hd_
              clear hd_
              obtain ⟨g9, hg9⟩ : ∃ g, wa0.heap.size = g := ⟨_, rfl⟩
              rw [hg9] at hbx N59 ⊢
              have BK9 := Aside0.mk hbx
              clear hbx hbb hg9
              refine hK.out _ _ ⟨(blk_cell (blk_below BK3.out HD.out) 0).trans rfl, (blk_cell (blk_below BK3.out HD.out) 1).trans rfl, (blk_cell (blk_below BK3.out HD.out) 2).trans rfl, (blk_cell (blk_below BK3.out HD.out) 3).trans rfl, (blk_cell (blk_below BK3.out HD.out) 4).trans rfl, (blk_cell (blk_below BK3.out HD.out) 5).trans rfl, (blk_cell (blk_below BK3.out HD.out) 6).trans rfl, (blk_cell (blk_below BK3.out HD.out) 7).trans rfl, (blk_cell (blk_below BK3.out HD.out) 8).trans rfl, (blk_cell (blk_below BK3.out HD.out) 9).trans rfl, ((below_step HBd.out HD.out).cell (World.block_lt_of_cell? w _ HX0.out)).trans HX0.out⟩ (fun hHeld => ?_)
              clear hK K
              refine norm_ (a' := ?_) ?_ ?_
              rotate_left
              · show Act.put _ (some 9) _ = _
                simp only [Act.put, List.setIfInBounds_toArray, List.set_cons_zero, List.set_cons_succ, i64_w, i32_w]
                rfl
              refine one_ (i := 2) (N := some 7) #[true, true, true, true, true, false, false, false, false, false, false, false, false, false, false, false, false, false, false, false, false, false, false] rfl rfl (by kernel_rfl) (by decide) (fun K hK => ?_)
              refine rows_step k69 w wd.heap.size (by rfl) (.tmp 5) (.tmp 6) 67 69 _ 136 (by rfl) Try.underlying67 info69' rfl (by decide) (by omega) v5 [] l (some ad) l.length c (by rfl) (by rfl) HO.out (rows_came HC.out (below_step HBd.out HD.out)) HD.out HD.out.size (by have := HLN.out; simp only [List.length_nil]; omega) ?_
              intro v7 wc2 hO hb hg
              have b9_ := Aside0.mk ((hg.block g9 (blk_lt BK9.out) N59.out).trans BK9.out)
              clear BK9 N59
              have BK9 := b9_
              clear b9_
              clear HO HD HV5
              have HO := Aside0.mk hO
              have HD := Aside0.mk hb
              clear hO hb hg
              refine hK.out _ _ ⟨(blk_cell (blk_below BK3.out HD.out) 0).trans rfl, (blk_cell (blk_below BK3.out HD.out) 1).trans rfl, (blk_cell (blk_below BK3.out HD.out) 2).trans rfl, (blk_cell (blk_below BK3.out HD.out) 3).trans rfl, (blk_cell (blk_below BK3.out HD.out) 4).trans rfl, (blk_cell (blk_below BK3.out HD.out) 5).trans rfl, (blk_cell (blk_below BK3.out HD.out) 6).trans rfl, (blk_cell (blk_below BK3.out HD.out) 7).trans rfl, (blk_cell (blk_below BK3.out HD.out) 8).trans rfl, (blk_cell (blk_below BK3.out HD.out) 9).trans rfl, ((below_step HBd.out HD.out).cell (World.block_lt_of_cell? w _ HX0.out)).trans HX0.out⟩ (fun hHeld => ?_)
              clear hK K
              refine norm_ (a' := ?_) ?_ ?_
              rotate_left
              · show Act.put _ (some 7) _ = _
                simp only [Act.put, List.setIfInBounds_toArray, List.set_cons_zero, List.set_cons_succ, i64_w, i32_w]
                rfl
              exact norm_ (by simp only [putAll, Act.put, List.setIfInBounds_toArray, List.set_cons_zero, List.set_cons_succ]) (hCont (v5, v7, g9) _ ⟨HO.out, BK9.out, HD.out⟩)
          · skip
            refine value_ (w1 := wd.alloc (.cells #[.int .u64 x.f0, .int .u64 x.f1, .string x.f2, .int .i64 x.f3, .string x.f4, .string x.f5, .int .u64 x.f6, .int .i64 x.f7, .slice A8 x.f8.length c8, .slice A9 x.f9.length c9] 69)) (v := .slice (some ⟨wd.heap.size, 0, none⟩) 1 1) (by rfl) rfl ?_ ?_
            · go_simp
              try rfl
            have hbx := blk_new wd (.cells #[.int .u64 x.f0, .int .u64 x.f1, .string x.f2, .int .i64 x.f3, .string x.f4, .string x.f5, .int .u64 x.f6, .int .i64 x.f7, .slice A8 x.f8.length c8, .slice A9 x.f9.length c9] 69)
            have hbb := below_alloc (Below.refl wd.heap.size wd) (.cells #[.int .u64 x.f0, .int .u64 x.f1, .string x.f2, .int .i64 x.f3, .string x.f4, .string x.f5, .int .u64 x.f6, .int .i64 x.f7, .slice A8 x.f8.length c8, .slice A9 x.f9.length c9] 69)
            generalize wd.alloc (.cells #[.int .u64 x.f0, .int .u64 x.f1, .string x.f2, .int .i64 x.f3, .string x.f4, .string x.f5, .int .u64 x.f6, .int .i64 x.f7, .slice A8 x.f8.length c8, .slice A9 x.f9.length c9] 69) = wb0 at hbx hbb ⊢
            have hd_ := Aside0.mk (below_step HD.out hbb)
            clear HD
            have HD := hd_
            clear hd_
            obtain ⟨g9, hg9⟩ : ∃ g, wd.heap.size = g := ⟨_, rfl⟩
            rw [hg9] at hbx ⊢
            have BK9 := Aside0.mk hbx
            clear hbx hbb hg9
            refine hK.out _ _ ⟨(blk_cell (blk_below BK3.out HD.out) 0).trans rfl, (blk_cell (blk_below BK3.out HD.out) 1).trans rfl, (blk_cell (blk_below BK3.out HD.out) 2).trans rfl, (blk_cell (blk_below BK3.out HD.out) 3).trans rfl, (blk_cell (blk_below BK3.out HD.out) 4).trans rfl, (blk_cell (blk_below BK3.out HD.out) 5).trans rfl, (blk_cell (blk_below BK3.out HD.out) 6).trans rfl, (blk_cell (blk_below BK3.out HD.out) 7).trans rfl, (blk_cell (blk_below BK3.out HD.out) 8).trans rfl, (blk_cell (blk_below BK3.out HD.out) 9).trans rfl, ((below_step HBd.out HD.out).cell (World.block_lt_of_cell? w _ HX0.out)).trans HX0.out⟩ (fun hHeld => ?_)
            clear hK K
            refine norm_ (a' := ?_) ?_ ?_
            rotate_left
            · show Act.put _ (some 9) _ = _
              simp only [Act.put, List.setIfInBounds_toArray, List.set_cons_zero, List.set_cons_succ, i64_w, i32_w]
              rfl
            refine one_ (i := 0) (N := some 5) #[true, true, false, true, true, false, false, false, false, false, false, false, false, false, false, false, false, false, false, false, false, false, false] rfl rfl (by kernel_rfl) (by decide) (fun K hK => ?_)
            refine value_ (w1 := wb0.alloc (.cells #[] 69)) (v := .slice (some ⟨wb0.heap.size, 0, none⟩) 0 0) (by rfl) rfl ?_ ?_
            · go_simp
              try rfl
            have hbx := blk_new wb0 (.cells #[] 69)
            have hbb := below_alloc (Below.refl wb0.heap.size wb0) (.cells #[] 69)
            generalize wb0.alloc (.cells #[] 69) = wa1 at hbx hbb ⊢
            have N59 := Aside0.mk (show some g9 ≠ (Value.slice (some ⟨wb0.heap.size, 0, none⟩) 0 0).ownBlock from (by intro h_; injection h_ with h_; exact absurd h_ (Nat.ne_of_lt (blk_lt BK9.out))))
            have HO := Aside0.mk (row_empty w wa1 wd.heap.size wb0.heap.size hbx HD.out.size)
            have b9_ := Aside0.mk (blk_below BK9.out hbb)
            clear BK9
            have BK9 := b9_
            clear b9_
            have hd_ := Aside0.mk (below_step HD.out hbb)
            clear HD
            have HD := hd_
            clear hd_
            obtain ⟨v5, hv5⟩ : ∃ v, Value.slice (some ⟨wb0.heap.size, 0, none⟩) 0 0 = v := ⟨_, rfl⟩
            rw [hv5] at HO N59 ⊢
            have HV5 := Aside0.mk hv5
            clear hv5 hbx hbb
            refine hK.out _ _ ⟨(blk_cell (blk_below BK3.out HD.out) 0).trans rfl, (blk_cell (blk_below BK3.out HD.out) 1).trans rfl, (blk_cell (blk_below BK3.out HD.out) 2).trans rfl, (blk_cell (blk_below BK3.out HD.out) 3).trans rfl, (blk_cell (blk_below BK3.out HD.out) 4).trans rfl, (blk_cell (blk_below BK3.out HD.out) 5).trans rfl, (blk_cell (blk_below BK3.out HD.out) 6).trans rfl, (blk_cell (blk_below BK3.out HD.out) 7).trans rfl, (blk_cell (blk_below BK3.out HD.out) 8).trans rfl, (blk_cell (blk_below BK3.out HD.out) 9).trans rfl, ((below_step HBd.out HD.out).cell (World.block_lt_of_cell? w _ HX0.out)).trans HX0.out⟩ (fun hHeld => ?_)
            clear hK K
            refine norm_ (a' := ?_) ?_ ?_
            rotate_left
            · show Act.put _ (some 5) _ = _
              simp only [Act.put, List.setIfInBounds_toArray, List.set_cons_zero, List.set_cons_succ, i64_w, i32_w]
              rfl
            refine one_ (i := 2) (N := some 7) #[true, true, true, true, true, false, false, false, false, false, false, false, false, false, false, false, false, false, false, false, false, false, false] rfl rfl (by kernel_rfl) (by decide) (fun K hK => ?_)
            refine rows_step k69 w wd.heap.size (by rfl) (.tmp 5) (.tmp 6) 67 69 _ 136 (by rfl) Try.underlying67 info69' rfl (by decide) (by omega) v5 [] l (some ad) l.length c (by rfl) (by rfl) HO.out (rows_came HC.out (below_step HBd.out HD.out)) HD.out HD.out.size (by have := HLN.out; simp only [List.length_nil]; omega) ?_
            intro v7 wc2 hO hb hg
            have b9_ := Aside0.mk ((hg.block g9 (blk_lt BK9.out) N59.out).trans BK9.out)
            clear BK9 N59
            have BK9 := b9_
            clear b9_
            clear HO HD HV5
            have HO := Aside0.mk hO
            have HD := Aside0.mk hb
            clear hO hb hg
            refine hK.out _ _ ⟨(blk_cell (blk_below BK3.out HD.out) 0).trans rfl, (blk_cell (blk_below BK3.out HD.out) 1).trans rfl, (blk_cell (blk_below BK3.out HD.out) 2).trans rfl, (blk_cell (blk_below BK3.out HD.out) 3).trans rfl, (blk_cell (blk_below BK3.out HD.out) 4).trans rfl, (blk_cell (blk_below BK3.out HD.out) 5).trans rfl, (blk_cell (blk_below BK3.out HD.out) 6).trans rfl, (blk_cell (blk_below BK3.out HD.out) 7).trans rfl, (blk_cell (blk_below BK3.out HD.out) 8).trans rfl, (blk_cell (blk_below BK3.out HD.out) 9).trans rfl, ((below_step HBd.out HD.out).cell (World.block_lt_of_cell? w _ HX0.out)).trans HX0.out⟩ (fun hHeld => ?_)
            clear hK K
            refine norm_ (a' := ?_) ?_ ?_
            rotate_left
            · show Act.put _ (some 7) _ = _
              simp only [Act.put, List.setIfInBounds_toArray, List.set_cons_zero, List.set_cons_succ, i64_w, i32_w]
              rfl
            exact norm_ (by simp only [putAll, Act.put, List.setIfInBounds_toArray, List.set_cons_zero, List.set_cons_succ]) (hCont (v5, v7, g9) _ ⟨HO.out, BK9.out, HD.out⟩)
        rintro ⟨v5, v7, g9⟩ we ⟨hO, hB9, hD⟩
        have HO := Aside0.mk hO
        have BK9 := Aside0.mk hB9
        clear HD
        have HD := Aside0.mk hD
        clear hO hB9 hD
        have hHeld : we.cell? ⟨g3, 0, none⟩ = some (.int .u64 x.f0) ∧ we.cell? ⟨g3, 1, none⟩ = some (.int .u64 x.f1) ∧ we.cell? ⟨g3, 2, none⟩ = some (.string x.f2) ∧ we.cell? ⟨g3, 3, none⟩ = some (.int .i64 x.f3) ∧ we.cell? ⟨g3, 4, none⟩ = some (.string x.f4) ∧ we.cell? ⟨g3, 5, none⟩ = some (.string x.f5) ∧ we.cell? ⟨g3, 6, none⟩ = some (.int .u64 x.f6) ∧ we.cell? ⟨g3, 7, none⟩ = some (.int .i64 x.f7) ∧ we.cell? ⟨g3, 8, none⟩ = some (.slice A8 x.f8.length c8) ∧ we.cell? ⟨g3, 9, none⟩ = some (.slice A9 x.f9.length c9) ∧ we.cell? (ad.add ((l.length - 1) * 10)) = some (.int .u64 y0) := ⟨(blk_cell (blk_below BK3.out HD.out) 0).trans rfl, (blk_cell (blk_below BK3.out HD.out) 1).trans rfl, (blk_cell (blk_below BK3.out HD.out) 2).trans rfl, (blk_cell (blk_below BK3.out HD.out) 3).trans rfl, (blk_cell (blk_below BK3.out HD.out) 4).trans rfl, (blk_cell (blk_below BK3.out HD.out) 5).trans rfl, (blk_cell (blk_below BK3.out HD.out) 6).trans rfl, (blk_cell (blk_below BK3.out HD.out) 7).trans rfl, (blk_cell (blk_below BK3.out HD.out) 8).trans rfl, (blk_cell (blk_below BK3.out HD.out) 9).trans rfl, ((below_step HBd.out HD.out).cell (World.block_lt_of_cell? w _ HX0.out)).trans HX0.out⟩
        refine norm_ (a' := ?_) ?_ ?_
        rotate_left
        · simp only [putAll, Act.put, List.setIfInBounds_toArray, List.set_cons_zero, List.set_cons_succ]
          rfl
        refine one_ (i := 5) (N := some 10) #[true, true, true, true, true, true, false, false, false, false, false, false, false, false, false, false, false, false, false, false, false, false, false] rfl rfl (by kernel_rfl) (by decide) (fun K hK => ?_)
        refine rows_step k69 w wd.heap.size (by rfl) (.tmp 7) (.tmp 9) 67 69 _ 136 (by rfl) Try.underlying67 info69' rfl (by decide) (by omega) v7 l [x] (some ⟨g9, 0, none⟩) 1 1 (by rfl) (by rfl) HO.out (row_one w we g9 69 x [.int .u64 x.f0, .int .u64 x.f1, .string x.f2, .int .i64 x.f3, .string x.f4, .string x.f5, .int .u64 x.f6, .int .i64 x.f7, .slice A8 x.f8.length c8, .slice A9 x.f9.length c9] RX.out.k BK9.out) HD.out HD.out.size (by have := HLN.out; omega) ?_
        intro v10 wf hO hb hg
        clear HO HD BK9
        have HD := Aside0.mk hb
        obtain ⟨A10, c10, rfl, hc10, hC10⟩ := rows_read hO (below_step HBd.out HD.out)
        have C10 := Aside0.mk hC10
        have L10 := Aside0.mk hc10
        clear hO hb hg hC10 hc10
        refine hK.out _ _ ⟨(blk_cell (blk_below BK3.out HD.out) 0).trans rfl, (blk_cell (blk_below BK3.out HD.out) 1).trans rfl, (blk_cell (blk_below BK3.out HD.out) 2).trans rfl, (blk_cell (blk_below BK3.out HD.out) 3).trans rfl, (blk_cell (blk_below BK3.out HD.out) 4).trans rfl, (blk_cell (blk_below BK3.out HD.out) 5).trans rfl, (blk_cell (blk_below BK3.out HD.out) 6).trans rfl, (blk_cell (blk_below BK3.out HD.out) 7).trans rfl, (blk_cell (blk_below BK3.out HD.out) 8).trans rfl, (blk_cell (blk_below BK3.out HD.out) 9).trans rfl, ((below_step HBd.out HD.out).cell (World.block_lt_of_cell? w _ HX0.out)).trans HX0.out⟩ (fun hHeld => ?_)
        clear hK K
        refine norm_ (a' := ?_) ?_ ?_
        rotate_left
        · show Act.put _ (some 10) _ = _
          simp only [Act.put, List.setIfInBounds_toArray, List.set_cons_zero, List.set_cons_succ, i64_w, i32_w]
          rfl
        refine one_ (i := 6) (N := some 11) #[true, true, true, true, true, true, true, false, false, false, false, false, false, false, false, false, false, false, false, false, false, false, false] rfl rfl (by kernel_rfl) (by decide) (fun K hK => ?_)
        refine goes_ Try.func73 (by kernel_rfl) rfl #[.slice A10 (l ++ [x]).length c10] (by rfl) rfl rfl (by first | (simp only [List.map_toArray, List.map_cons, List.map_nil]; done) | (simp only [List.map_toArray, List.map_cons, List.map_nil]; rfl)) ?_
        with_reducible refine (lightB A10 c10 (l ++ [x]) true _ C10.out L10.out HLL.out HS.out HL.out).mono ?_
        rintro e wg ⟨rfl, hb⟩
        refine ⟨_, rfl, ?_⟩
        clear C10 L10
        have hd_ := Aside0.mk (below_step HD.out hb)
        clear HD
        have HD := hd_
        clear hd_
        clear hb
        refine hK.out _ _ ⟨(blk_cell (blk_below BK3.out HD.out) 0).trans rfl, (blk_cell (blk_below BK3.out HD.out) 1).trans rfl, (blk_cell (blk_below BK3.out HD.out) 2).trans rfl, (blk_cell (blk_below BK3.out HD.out) 3).trans rfl, (blk_cell (blk_below BK3.out HD.out) 4).trans rfl, (blk_cell (blk_below BK3.out HD.out) 5).trans rfl, (blk_cell (blk_below BK3.out HD.out) 6).trans rfl, (blk_cell (blk_below BK3.out HD.out) 7).trans rfl, (blk_cell (blk_below BK3.out HD.out) 8).trans rfl, (blk_cell (blk_below BK3.out HD.out) 9).trans rfl, ((below_step HBd.out HD.out).cell (World.block_lt_of_cell? w _ HX0.out)).trans HX0.out⟩ (fun hHeld => ?_)
        clear hK K
        refine norm_ (a' := ?_) ?_ ?_
        rotate_left
        · show Act.put _ (some 11) _ = _
          simp only [Act.put, List.setIfInBounds_toArray, List.set_cons_zero, List.set_cons_succ, i64_w, i32_w]
          rfl
        refine pure_ (i := 7) (N := some 12) (v := ?_) (a' := ?_) #[true, true, true, true, true, true, true, true, false, false, false, false, false, false, false, false, false, false, false, false, false, false, false] rfl rfl (by kernel_rfl) (fun _ _ _ h => h) (Or.inl ⟨by rfl, ?_⟩) ?_ ?_
        rotate_left
        · intro w'
          go_simp
          with_reducible rfl
        rotate_left
        · simp only [Act.put, List.setIfInBounds_toArray, List.set_cons_zero, List.set_cons_succ, i64_w, i32_w]
          rfl
        refine pure_ (i := 8) (N := some 13) (v := ?_) (a' := ?_) #[true, true, true, true, true, true, true, true, true, false, false, false, false, false, false, false, false, false, false, false, false, false, false] rfl rfl (by kernel_rfl) (fun _ _ _ h => h) (Or.inl ⟨by rfl, ?_⟩) ?_ ?_
        rotate_left
        · intro w'
          go_simp
          with_reducible rfl
        rotate_left
        · simp only [Act.put, List.setIfInBounds_toArray, List.set_cons_zero, List.set_cons_succ, i64_w, i32_w]
          rfl
        refine pure_ (i := 9) (N := some 14) (v := ?_) (a' := ?_) #[true, true, true, true, true, true, true, true, true, true, false, false, false, false, false, false, false, false, false, false, false, false, false] rfl rfl (by kernel_rfl) (fun _ _ _ h => h) (Or.inl ⟨by rfl, ?_⟩) ?_ ?_
        rotate_left
        · intro w'
          go_simp
          with_reducible rfl
        rotate_left
        · simp only [Act.put, List.setIfInBounds_toArray, List.set_cons_zero, List.set_cons_succ, i64_w, i32_w]
          rfl
        refine pure_ (i := 10) (N := some 15) (v := ?_) (a' := ?_) #[true, true, true, true, true, true, true, true, true, true, true, false, false, false, false, false, false, false, false, false, false, false, false] rfl rfl (by kernel_rfl) (fun _ _ _ h => h) (Or.inl ⟨by rfl, ?_⟩) ?_ ?_
        rotate_left
        · intro w'
          go_simp
          with_reducible rfl
        rotate_left
        · simp only [Act.put, List.setIfInBounds_toArray, List.set_cons_zero, List.set_cons_succ, i64_w, i32_w]
          rfl
        refine pure_ (i := 11) (N := some 16) (v := ?_) (a' := ?_) #[true, true, true, true, true, true, true, true, true, true, true, true, false, false, false, false, false, false, false, false, false, false, false] rfl rfl (by kernel_rfl) (fun _ _ _ h => h) (Or.inl ⟨by rfl, ?_⟩) ?_ ?_
        rotate_left
        · intro w'
          go_simp
          with_reducible rfl
        rotate_left
        · simp only [Act.put, List.setIfInBounds_toArray, List.set_cons_zero, List.set_cons_succ, i64_w, i32_w]
          rfl
        refine pure_ (i := 12) (N := some 17) (v := ?_) (a' := ?_) #[true, true, true, true, true, true, true, true, true, true, true, true, true, false, false, false, false, false, false, false, false, false, false] rfl rfl (by kernel_rfl) (fun _ _ _ h => h) (Or.inl ⟨by rfl, ?_⟩) ?_ ?_
        rotate_left
        · intro w'
          go_simp
          with_reducible rfl
        rotate_left
        · simp only [Act.put, List.setIfInBounds_toArray, List.set_cons_zero, List.set_cons_succ, i64_w, i32_w]
          rfl
        refine pure_ (i := 13) (N := some 18) (v := ?_) (a' := ?_) #[true, true, true, true, true, true, true, true, true, true, true, true, true, true, false, false, false, false, false, false, false, false, false] rfl rfl (by kernel_rfl) (fun _ _ _ h => h) (Or.inl ⟨by rfl, ?_⟩) ?_ ?_
        rotate_left
        · intro w'
          go_simp
          with_reducible rfl
        rotate_left
        · simp only [Act.put, List.setIfInBounds_toArray, List.set_cons_zero, List.set_cons_succ, i64_w, i32_w]
          rfl
        refine pure_ (i := 14) (N := some 19) (v := ?_) (a' := ?_) #[true, true, true, true, true, true, true, true, true, true, true, true, true, true, true, false, false, false, false, false, false, false, false] rfl rfl (by kernel_rfl) (fun _ _ _ h => h) (Or.inl ⟨by rfl, ?_⟩) ?_ ?_
        rotate_left
        · intro w'
          go_simp
          with_reducible rfl
        rotate_left
        · simp only [Act.put, List.setIfInBounds_toArray, List.set_cons_zero, List.set_cons_succ, i64_w, i32_w]
          rfl
        refine pure_ (i := 15) (N := some 20) (v := ?_) (a' := ?_) #[true, true, true, true, true, true, true, true, true, true, true, true, true, true, true, true, false, false, false, false, false, false, false] rfl rfl (by kernel_rfl) (fun _ _ _ h => h) (Or.inl ⟨by rfl, ?_⟩) ?_ ?_
        rotate_left
        · intro w'
          go_simp
          with_reducible rfl
        rotate_left
        · simp only [Act.put, List.setIfInBounds_toArray, List.set_cons_zero, List.set_cons_succ, i64_w, i32_w]
          rfl
        refine pure_ (i := 16) (N := some 21) (v := ?_) (a' := ?_) #[true, true, true, true, true, true, true, true, true, true, true, true, true, true, true, true, true, false, false, false, false, false, false] rfl rfl (by kernel_rfl) (fun _ _ _ h => h) (Or.inl ⟨by rfl, ?_⟩) ?_ ?_
        rotate_left
        · intro w'
          go_simp
          with_reducible rfl
        rotate_left
        · simp only [Act.put, List.setIfInBounds_toArray, List.set_cons_zero, List.set_cons_succ, i64_w, i32_w]
          rfl
        refine pure_ (i := 17) (N := some 22) (v := ?_) (a' := ?_) #[true, true, true, true, true, true, true, true, true, true, true, true, true, true, true, true, true, true, false, false, false, false, false] rfl rfl (by kernel_rfl) (fun _ _ _ h => h) (Or.inl ⟨by rfl, ?_⟩) ?_ ?_
        rotate_left
        · intro w'
          go_simp
          with_reducible rfl
        rotate_left
        · simp only [Act.put, List.setIfInBounds_toArray, List.set_cons_zero, List.set_cons_succ, i64_w, i32_w]
          rfl
        refine pure_ (i := 18) (N := some 23) (v := ?_) (a' := ?_) #[true, true, true, true, true, true, true, true, true, true, true, true, true, true, true, true, true, true, true, false, false, false, false] rfl rfl (by kernel_rfl) (fun _ _ _ h => h) (Or.inl ⟨by rfl, ?_⟩) ?_ ?_
        rotate_left
        · intro w'
          go_simp
          with_reducible rfl
        rotate_left
        · simp only [Act.put, List.setIfInBounds_toArray, List.set_cons_zero, List.set_cons_succ, i64_w, i32_w]
          rfl
        refine take_ (i := 19) (N := some 24) (v := ?_) (a' := ?_) #[true, true, true, true, true, true, true, true, true, true, true, true, true, true, true, true, true, true, true, true, false, false, false] rfl rfl (by kernel_rfl) (fun _ _ _ h => h) (Or.inl ⟨by rfl, ?_⟩) hHeld ?_ ?_
        rotate_left
        · rintro w' ⟨s0, s1, s2, s3, s4, s5, s6, s7, s8, s9, s10⟩
          go_simp
          with_reducible rfl
        rotate_left
        · simp only [Act.put, List.setIfInBounds_toArray, List.set_cons_zero, List.set_cons_succ, i64_w, i32_w]
          rfl
        refine pure_ (i := 20) (N := some 25) (v := ?_) (a' := ?_) #[true, true, true, true, true, true, true, true, true, true, true, true, true, true, true, true, true, true, true, true, true, false, false] rfl rfl (by kernel_rfl) (fun _ _ _ h => h) (Or.inl ⟨by rfl, ?_⟩) ?_ ?_
        rotate_left
        · intro w'
          go_simp
          with_reducible rfl
        rotate_left
        · simp only [Act.put, List.setIfInBounds_toArray, List.set_cons_zero, List.set_cons_succ, i64_w, i32_w]
          rfl
        refine pure_ (i := 21) (N := some 26) (v := ?_) (a' := ?_) #[true, true, true, true, true, true, true, true, true, true, true, true, true, true, true, true, true, true, true, true, true, true, false] rfl rfl (by kernel_rfl) (fun _ _ _ h => h) (Or.inl ⟨by rfl, ?_⟩) ?_ ?_
        rotate_left
        · intro w'
          go_simp
          with_reducible rfl
        rotate_left
        · simp only [Act.put, List.setIfInBounds_toArray, List.set_cons_zero, List.set_cons_succ, i64_w, i32_w]
          rfl
        refine pure_ (i := 22) (N := some 27) (v := ?_) (a' := ?_) #[true, true, true, true, true, true, true, true, true, true, true, true, true, true, true, true, true, true, true, true, true, true, true] rfl rfl (by kernel_rfl) (fun _ _ _ h => h) (Or.inl ⟨by rfl, ?_⟩) ?_ ?_
        rotate_left
        · intro w'
          go_simp
          with_reducible rfl
        rotate_left
        · simp only [Act.put, List.setIfInBounds_toArray, List.set_cons_zero, List.set_cons_succ, i64_w, i32_w]
          rfl
        refine done_ (by kernel_rfl) ?_
        go_wp2
        go_meet
        case rel => exact ⟨rfl, ⟨blk_below BK3.out HD.out⟩, ⟨below_step HBd.out HD.out⟩⟩
      · have d0 : decide (0 < (l.length : Int)) = false := decide_eq_false (by omega)
        have d1 : decide (0 < l.length) = false := decide_eq_false h0
        obtain rfl : q = false := by rw [HQ.out, d1]; rfl
        clear h0
        have b3_ := Aside0.mk (blk_drew BK3.out)
        have hb_ := Aside0.mk (below_drew1 HB.out)
        have HD := Aside0.mk (Below.refl (World.drew w3).heap.size (World.drew w3))
        have HBd := hb_
        clear BK3 HB
        have BK3 := b3_
        clear b3_ hb_
        refine start_ (n := 23) (S := fun w' => w'.cell? ⟨g3, 0, none⟩ = some (.int .u64 x.f0) ∧ w'.cell? ⟨g3, 1, none⟩ = some (.int .u64 x.f1) ∧ w'.cell? ⟨g3, 2, none⟩ = some (.string x.f2) ∧ w'.cell? ⟨g3, 3, none⟩ = some (.int .i64 x.f3) ∧ w'.cell? ⟨g3, 4, none⟩ = some (.string x.f4) ∧ w'.cell? ⟨g3, 5, none⟩ = some (.string x.f5) ∧ w'.cell? ⟨g3, 6, none⟩ = some (.int .u64 x.f6) ∧ w'.cell? ⟨g3, 7, none⟩ = some (.int .i64 x.f7) ∧ w'.cell? ⟨g3, 8, none⟩ = some (.slice A8 x.f8.length c8) ∧ w'.cell? ⟨g3, 9, none⟩ = some (.slice A9 x.f9.length c9)) (ds := []) #[false, false, false, false, false, false, false, false, false, false, false, false, false, false, false, false, false, false, false, false, false, false, false] (by kernel_rfl) rfl rfl ⟨(blk_cell (blk_below BK3.out HD.out) 0).trans rfl, (blk_cell (blk_below BK3.out HD.out) 1).trans rfl, (blk_cell (blk_below BK3.out HD.out) 2).trans rfl, (blk_cell (blk_below BK3.out HD.out) 3).trans rfl, (blk_cell (blk_below BK3.out HD.out) 4).trans rfl, (blk_cell (blk_below BK3.out HD.out) 5).trans rfl, (blk_cell (blk_below BK3.out HD.out) 6).trans rfl, (blk_cell (blk_below BK3.out HD.out) 7).trans rfl, (blk_cell (blk_below BK3.out HD.out) 8).trans rfl, (blk_cell (blk_below BK3.out HD.out) 9).trans rfl⟩ (fun hHeld => ?_)
        generalize World.drew w3 = wd at BK3 HBd HD hHeld ⊢
        refine pure_ (i := 1) (N := some 6) (v := ?_) (a' := ?_) #[false, true, false, false, false, false, false, false, false, false, false, false, false, false, false, false, false, false, false, false, false, false, false] rfl rfl (by kernel_rfl) (fun _ _ _ h => h) (Or.inl ⟨by rfl, ?_⟩) ?_ ?_
        rotate_left
        · intro w'
          go_simp
          with_reducible rfl
        rotate_left
        · simp only [Act.put, List.setIfInBounds_toArray, List.set_cons_zero, List.set_cons_succ, i64_w, i32_w]
          rfl
        refine take_ (i := 3) (N := some 8) (v := ?_) (a' := ?_) #[false, true, false, true, false, false, false, false, false, false, false, false, false, false, false, false, false, false, false, false, false, false, false] rfl rfl (by kernel_rfl) (fun _ _ _ h => h) (Or.inl ⟨by rfl, ?_⟩) hHeld ?_ ?_
        rotate_left
        · rintro w' ⟨s0, s1, s2, s3, s4, s5, s6, s7, s8, s9⟩
          go_simp
          with_reducible rfl
        rotate_left
        · simp only [Act.put, List.setIfInBounds_toArray, List.set_cons_zero, List.set_cons_succ, i64_w, i32_w]
          rfl
        refine join_ (σ := Value × Value × Nat) 18 #[true, true, true, true, true, false, false, false, false, false, false, false, false, false, false, false, false, false, false, false, false, false, false] (fun s => [(5, s.1), (7, s.2.1), (9, .slice (some ⟨s.2.2, 0, none⟩) 1 1)]) (fun s w' => (Kd.fixed k69 w).R 69 w' wd.heap.size (fun _ => True) s.2.1 l ∧ w'.heap[s.2.2]? = some (.cells #[.int .u64 x.f0, .int .u64 x.f1, .string x.f2, .int .i64 x.f3, .string x.f4, .string x.f5, .int .u64 x.f6, .int .i64 x.f7, .slice A8 x.f8.length c8, .slice A9 x.f9.length c9] 69 (0, 0)) ∧ Below wd.heap.size wd w') ?_ ?_
        rotate_left
        · intro hCont
          refine two_ (i := 0) (j := 4) (Ni := some 5) (Nj := some 9) #[true, true, false, true, false, false, false, false, false, false, false, false, false, false, false, false, false, false, false, false, false, false, false] #[false, true, false, true, true, false, false, false, false, false, false, false, false, false, false, false, false, false, false, false, false, false, false] rfl rfl rfl rfl (by kernel_rfl) (by decide) (by decide) (fun K hK => ?_) (fun K hK => ?_)
          · skip
            refine value_ (w1 := wd.alloc (.cells #[] 69)) (v := .slice (some ⟨wd.heap.size, 0, none⟩) 0 0) (by rfl) rfl ?_ ?_
            · go_simp
              try rfl
            have hbx := blk_new wd (.cells #[] 69)
            have hbb := below_alloc (Below.refl wd.heap.size wd) (.cells #[] 69)
            generalize wd.alloc (.cells #[] 69) = wa0 at hbx hbb ⊢
            have HO := Aside0.mk (row_empty w wa0 wd.heap.size wd.heap.size hbx HD.out.size)
            have hd_ := Aside0.mk (below_step HD.out hbb)
            clear HD
            have HD := hd_
            clear hd_
            obtain ⟨v5, hv5⟩ : ∃ v, Value.slice (some ⟨wd.heap.size, 0, none⟩) 0 0 = v := ⟨_, rfl⟩
            rw [hv5] at HO ⊢
            have HV5 := Aside0.mk hv5
            clear hv5 hbx hbb
            refine hK.out _ _ ⟨(blk_cell (blk_below BK3.out HD.out) 0).trans rfl, (blk_cell (blk_below BK3.out HD.out) 1).trans rfl, (blk_cell (blk_below BK3.out HD.out) 2).trans rfl, (blk_cell (blk_below BK3.out HD.out) 3).trans rfl, (blk_cell (blk_below BK3.out HD.out) 4).trans rfl, (blk_cell (blk_below BK3.out HD.out) 5).trans rfl, (blk_cell (blk_below BK3.out HD.out) 6).trans rfl, (blk_cell (blk_below BK3.out HD.out) 7).trans rfl, (blk_cell (blk_below BK3.out HD.out) 8).trans rfl, (blk_cell (blk_below BK3.out HD.out) 9).trans rfl⟩ (fun hHeld => ?_)
            clear hK K
            refine norm_ (a' := ?_) ?_ ?_
            rotate_left
            · show Act.put _ (some 5) _ = _
              simp only [Act.put, List.setIfInBounds_toArray, List.set_cons_zero, List.set_cons_succ, i64_w, i32_w]
              rfl
            refine two_ (i := 2) (j := 4) (Ni := some 7) (Nj := some 9) #[true, true, true, true, false, false, false, false, false, false, false, false, false, false, false, false, false, false, false, false, false, false, false] #[true, true, false, true, true, false, false, false, false, false, false, false, false, false, false, false, false, false, false, false, false, false, false] rfl rfl rfl rfl (by kernel_rfl) (by decide) (by decide) (fun K hK => ?_) (fun K hK => ?_)
            · skip
              refine rows_step k69 w wd.heap.size (by rfl) (.tmp 5) (.tmp 6) 67 69 _ 136 (by rfl) Try.underlying67 info69' rfl (by decide) (by omega) v5 [] l A l.length c (by rfl) (by rfl) HO.out (rows_came HC.out (below_step HBd.out HD.out)) HD.out HD.out.size (by have := HLN.out; simp only [List.length_nil]; omega) ?_
              intro v7 wc1 hO hb hg
              clear HO HD HV5
              have HO := Aside0.mk hO
              have HD := Aside0.mk hb
              clear hO hb hg
              refine hK.out _ _ ⟨(blk_cell (blk_below BK3.out HD.out) 0).trans rfl, (blk_cell (blk_below BK3.out HD.out) 1).trans rfl, (blk_cell (blk_below BK3.out HD.out) 2).trans rfl, (blk_cell (blk_below BK3.out HD.out) 3).trans rfl, (blk_cell (blk_below BK3.out HD.out) 4).trans rfl, (blk_cell (blk_below BK3.out HD.out) 5).trans rfl, (blk_cell (blk_below BK3.out HD.out) 6).trans rfl, (blk_cell (blk_below BK3.out HD.out) 7).trans rfl, (blk_cell (blk_below BK3.out HD.out) 8).trans rfl, (blk_cell (blk_below BK3.out HD.out) 9).trans rfl⟩ (fun hHeld => ?_)
              clear hK K
              refine norm_ (a' := ?_) ?_ ?_
              rotate_left
              · show Act.put _ (some 7) _ = _
                simp only [Act.put, List.setIfInBounds_toArray, List.set_cons_zero, List.set_cons_succ, i64_w, i32_w]
                rfl
              refine one_ (i := 4) (N := some 9) #[true, true, true, true, true, false, false, false, false, false, false, false, false, false, false, false, false, false, false, false, false, false, false] rfl rfl (by kernel_rfl) (by decide) (fun K hK => ?_)
              refine value_ (w1 := wc1.alloc (.cells #[.int .u64 x.f0, .int .u64 x.f1, .string x.f2, .int .i64 x.f3, .string x.f4, .string x.f5, .int .u64 x.f6, .int .i64 x.f7, .slice A8 x.f8.length c8, .slice A9 x.f9.length c9] 69)) (v := .slice (some ⟨wc1.heap.size, 0, none⟩) 1 1) (by rfl) rfl ?_ ?_
              · go_simp
                try rfl
              have hbx := blk_new wc1 (.cells #[.int .u64 x.f0, .int .u64 x.f1, .string x.f2, .int .i64 x.f3, .string x.f4, .string x.f5, .int .u64 x.f6, .int .i64 x.f7, .slice A8 x.f8.length c8, .slice A9 x.f9.length c9] 69)
              have hbb := below_alloc (Below.refl wc1.heap.size wc1) (.cells #[.int .u64 x.f0, .int .u64 x.f1, .string x.f2, .int .i64 x.f3, .string x.f4, .string x.f5, .int .u64 x.f6, .int .i64 x.f7, .slice A8 x.f8.length c8, .slice A9 x.f9.length c9] 69)
              generalize wc1.alloc (.cells #[.int .u64 x.f0, .int .u64 x.f1, .string x.f2, .int .i64 x.f3, .string x.f4, .string x.f5, .int .u64 x.f6, .int .i64 x.f7, .slice A8 x.f8.length c8, .slice A9 x.f9.length c9] 69) = wb2 at hbx hbb ⊢
              have o_ := Aside0.mk (Kd.R_below HO.out hbb)
              clear HO
              have HO := o_
              clear o_
              have hd_ := Aside0.mk (below_step HD.out hbb)
              clear HD
              have HD := hd_
              clear hd_
              obtain ⟨g9, hg9⟩ : ∃ g, wc1.heap.size = g := ⟨_, rfl⟩
              rw [hg9] at hbx ⊢
              have BK9 := Aside0.mk hbx
              clear hbx hbb hg9
              refine hK.out _ _ ⟨(blk_cell (blk_below BK3.out HD.out) 0).trans rfl, (blk_cell (blk_below BK3.out HD.out) 1).trans rfl, (blk_cell (blk_below BK3.out HD.out) 2).trans rfl, (blk_cell (blk_below BK3.out HD.out) 3).trans rfl, (blk_cell (blk_below BK3.out HD.out) 4).trans rfl, (blk_cell (blk_below BK3.out HD.out) 5).trans rfl, (blk_cell (blk_below BK3.out HD.out) 6).trans rfl, (blk_cell (blk_below BK3.out HD.out) 7).trans rfl, (blk_cell (blk_below BK3.out HD.out) 8).trans rfl, (blk_cell (blk_below BK3.out HD.out) 9).trans rfl⟩ (fun hHeld => ?_)
              clear hK K
              refine norm_ (a' := ?_) ?_ ?_
              rotate_left
              · show Act.put _ (some 9) _ = _
                simp only [Act.put, List.setIfInBounds_toArray, List.set_cons_zero, List.set_cons_succ, i64_w, i32_w]
                rfl
              exact norm_ (by simp only [putAll, Act.put, List.setIfInBounds_toArray, List.set_cons_zero, List.set_cons_succ]) (hCont (v5, v7, g9) _ ⟨HO.out, BK9.out, HD.out⟩)
            · skip
              refine value_ (w1 := wa0.alloc (.cells #[.int .u64 x.f0, .int .u64 x.f1, .string x.f2, .int .i64 x.f3, .string x.f4, .string x.f5, .int .u64 x.f6, .int .i64 x.f7, .slice A8 x.f8.length c8, .slice A9 x.f9.length c9] 69)) (v := .slice (some ⟨wa0.heap.size, 0, none⟩) 1 1) (by rfl) rfl ?_ ?_
              · go_simp
                try rfl
              have hbx := blk_new wa0 (.cells #[.int .u64 x.f0, .int .u64 x.f1, .string x.f2, .int .i64 x.f3, .string x.f4, .string x.f5, .int .u64 x.f6, .int .i64 x.f7, .slice A8 x.f8.length c8, .slice A9 x.f9.length c9] 69)
              have hbb := below_alloc (Below.refl wa0.heap.size wa0) (.cells #[.int .u64 x.f0, .int .u64 x.f1, .string x.f2, .int .i64 x.f3, .string x.f4, .string x.f5, .int .u64 x.f6, .int .i64 x.f7, .slice A8 x.f8.length c8, .slice A9 x.f9.length c9] 69)
              generalize wa0.alloc (.cells #[.int .u64 x.f0, .int .u64 x.f1, .string x.f2, .int .i64 x.f3, .string x.f4, .string x.f5, .int .u64 x.f6, .int .i64 x.f7, .slice A8 x.f8.length c8, .slice A9 x.f9.length c9] 69) = wb1 at hbx hbb ⊢
              have N59 := Aside0.mk (show some wa0.heap.size ≠ v5.ownBlock from (by rw [← HV5.out]; intro h_; injection h_ with h_; exact absurd h_ (Nat.ne_of_gt (own_lt HO.out HV5.out))))
              have o_ := Aside0.mk (Kd.R_below HO.out hbb)
              clear HO
              have HO := o_
              clear o_
              have hd_ := Aside0.mk (below_step HD.out hbb)
              clear HD
              have HD := hd_
              clear hd_
              obtain ⟨g9, hg9⟩ : ∃ g, wa0.heap.size = g := ⟨_, rfl⟩
              rw [hg9] at hbx N59 ⊢
              have BK9 := Aside0.mk hbx
              clear hbx hbb hg9
              refine hK.out _ _ ⟨(blk_cell (blk_below BK3.out HD.out) 0).trans rfl, (blk_cell (blk_below BK3.out HD.out) 1).trans rfl, (blk_cell (blk_below BK3.out HD.out) 2).trans rfl, (blk_cell (blk_below BK3.out HD.out) 3).trans rfl, (blk_cell (blk_below BK3.out HD.out) 4).trans rfl, (blk_cell (blk_below BK3.out HD.out) 5).trans rfl, (blk_cell (blk_below BK3.out HD.out) 6).trans rfl, (blk_cell (blk_below BK3.out HD.out) 7).trans rfl, (blk_cell (blk_below BK3.out HD.out) 8).trans rfl, (blk_cell (blk_below BK3.out HD.out) 9).trans rfl⟩ (fun hHeld => ?_)
              clear hK K
              refine norm_ (a' := ?_) ?_ ?_
              rotate_left
              · show Act.put _ (some 9) _ = _
                simp only [Act.put, List.setIfInBounds_toArray, List.set_cons_zero, List.set_cons_succ, i64_w, i32_w]
                rfl
              refine one_ (i := 2) (N := some 7) #[true, true, true, true, true, false, false, false, false, false, false, false, false, false, false, false, false, false, false, false, false, false, false] rfl rfl (by kernel_rfl) (by decide) (fun K hK => ?_)
              refine rows_step k69 w wd.heap.size (by rfl) (.tmp 5) (.tmp 6) 67 69 _ 136 (by rfl) Try.underlying67 info69' rfl (by decide) (by omega) v5 [] l A l.length c (by rfl) (by rfl) HO.out (rows_came HC.out (below_step HBd.out HD.out)) HD.out HD.out.size (by have := HLN.out; simp only [List.length_nil]; omega) ?_
              intro v7 wc2 hO hb hg
              have b9_ := Aside0.mk ((hg.block g9 (blk_lt BK9.out) N59.out).trans BK9.out)
              clear BK9 N59
              have BK9 := b9_
              clear b9_
              clear HO HD HV5
              have HO := Aside0.mk hO
              have HD := Aside0.mk hb
              clear hO hb hg
              refine hK.out _ _ ⟨(blk_cell (blk_below BK3.out HD.out) 0).trans rfl, (blk_cell (blk_below BK3.out HD.out) 1).trans rfl, (blk_cell (blk_below BK3.out HD.out) 2).trans rfl, (blk_cell (blk_below BK3.out HD.out) 3).trans rfl, (blk_cell (blk_below BK3.out HD.out) 4).trans rfl, (blk_cell (blk_below BK3.out HD.out) 5).trans rfl, (blk_cell (blk_below BK3.out HD.out) 6).trans rfl, (blk_cell (blk_below BK3.out HD.out) 7).trans rfl, (blk_cell (blk_below BK3.out HD.out) 8).trans rfl, (blk_cell (blk_below BK3.out HD.out) 9).trans rfl⟩ (fun hHeld => ?_)
              clear hK K
              refine norm_ (a' := ?_) ?_ ?_
              rotate_left
              · show Act.put _ (some 7) _ = _
                simp only [Act.put, List.setIfInBounds_toArray, List.set_cons_zero, List.set_cons_succ, i64_w, i32_w]
                rfl
              exact norm_ (by simp only [putAll, Act.put, List.setIfInBounds_toArray, List.set_cons_zero, List.set_cons_succ]) (hCont (v5, v7, g9) _ ⟨HO.out, BK9.out, HD.out⟩)
          · skip
            refine value_ (w1 := wd.alloc (.cells #[.int .u64 x.f0, .int .u64 x.f1, .string x.f2, .int .i64 x.f3, .string x.f4, .string x.f5, .int .u64 x.f6, .int .i64 x.f7, .slice A8 x.f8.length c8, .slice A9 x.f9.length c9] 69)) (v := .slice (some ⟨wd.heap.size, 0, none⟩) 1 1) (by rfl) rfl ?_ ?_
            · go_simp
              try rfl
            have hbx := blk_new wd (.cells #[.int .u64 x.f0, .int .u64 x.f1, .string x.f2, .int .i64 x.f3, .string x.f4, .string x.f5, .int .u64 x.f6, .int .i64 x.f7, .slice A8 x.f8.length c8, .slice A9 x.f9.length c9] 69)
            have hbb := below_alloc (Below.refl wd.heap.size wd) (.cells #[.int .u64 x.f0, .int .u64 x.f1, .string x.f2, .int .i64 x.f3, .string x.f4, .string x.f5, .int .u64 x.f6, .int .i64 x.f7, .slice A8 x.f8.length c8, .slice A9 x.f9.length c9] 69)
            generalize wd.alloc (.cells #[.int .u64 x.f0, .int .u64 x.f1, .string x.f2, .int .i64 x.f3, .string x.f4, .string x.f5, .int .u64 x.f6, .int .i64 x.f7, .slice A8 x.f8.length c8, .slice A9 x.f9.length c9] 69) = wb0 at hbx hbb ⊢
            have hd_ := Aside0.mk (below_step HD.out hbb)
            clear HD
            have HD := hd_
            clear hd_
            obtain ⟨g9, hg9⟩ : ∃ g, wd.heap.size = g := ⟨_, rfl⟩
            rw [hg9] at hbx ⊢
            have BK9 := Aside0.mk hbx
            clear hbx hbb hg9
            refine hK.out _ _ ⟨(blk_cell (blk_below BK3.out HD.out) 0).trans rfl, (blk_cell (blk_below BK3.out HD.out) 1).trans rfl, (blk_cell (blk_below BK3.out HD.out) 2).trans rfl, (blk_cell (blk_below BK3.out HD.out) 3).trans rfl, (blk_cell (blk_below BK3.out HD.out) 4).trans rfl, (blk_cell (blk_below BK3.out HD.out) 5).trans rfl, (blk_cell (blk_below BK3.out HD.out) 6).trans rfl, (blk_cell (blk_below BK3.out HD.out) 7).trans rfl, (blk_cell (blk_below BK3.out HD.out) 8).trans rfl, (blk_cell (blk_below BK3.out HD.out) 9).trans rfl⟩ (fun hHeld => ?_)
            clear hK K
            refine norm_ (a' := ?_) ?_ ?_
            rotate_left
            · show Act.put _ (some 9) _ = _
              simp only [Act.put, List.setIfInBounds_toArray, List.set_cons_zero, List.set_cons_succ, i64_w, i32_w]
              rfl
            refine one_ (i := 0) (N := some 5) #[true, true, false, true, true, false, false, false, false, false, false, false, false, false, false, false, false, false, false, false, false, false, false] rfl rfl (by kernel_rfl) (by decide) (fun K hK => ?_)
            refine value_ (w1 := wb0.alloc (.cells #[] 69)) (v := .slice (some ⟨wb0.heap.size, 0, none⟩) 0 0) (by rfl) rfl ?_ ?_
            · go_simp
              try rfl
            have hbx := blk_new wb0 (.cells #[] 69)
            have hbb := below_alloc (Below.refl wb0.heap.size wb0) (.cells #[] 69)
            generalize wb0.alloc (.cells #[] 69) = wa1 at hbx hbb ⊢
            have N59 := Aside0.mk (show some g9 ≠ (Value.slice (some ⟨wb0.heap.size, 0, none⟩) 0 0).ownBlock from (by intro h_; injection h_ with h_; exact absurd h_ (Nat.ne_of_lt (blk_lt BK9.out))))
            have HO := Aside0.mk (row_empty w wa1 wd.heap.size wb0.heap.size hbx HD.out.size)
            have b9_ := Aside0.mk (blk_below BK9.out hbb)
            clear BK9
            have BK9 := b9_
            clear b9_
            have hd_ := Aside0.mk (below_step HD.out hbb)
            clear HD
            have HD := hd_
            clear hd_
            obtain ⟨v5, hv5⟩ : ∃ v, Value.slice (some ⟨wb0.heap.size, 0, none⟩) 0 0 = v := ⟨_, rfl⟩
            rw [hv5] at HO N59 ⊢
            have HV5 := Aside0.mk hv5
            clear hv5 hbx hbb
            refine hK.out _ _ ⟨(blk_cell (blk_below BK3.out HD.out) 0).trans rfl, (blk_cell (blk_below BK3.out HD.out) 1).trans rfl, (blk_cell (blk_below BK3.out HD.out) 2).trans rfl, (blk_cell (blk_below BK3.out HD.out) 3).trans rfl, (blk_cell (blk_below BK3.out HD.out) 4).trans rfl, (blk_cell (blk_below BK3.out HD.out) 5).trans rfl, (blk_cell (blk_below BK3.out HD.out) 6).trans rfl, (blk_cell (blk_below BK3.out HD.out) 7).trans rfl, (blk_cell (blk_below BK3.out HD.out) 8).trans rfl, (blk_cell (blk_below BK3.out HD.out) 9).trans rfl⟩ (fun hHeld => ?_)
            clear hK K
            refine norm_ (a' := ?_) ?_ ?_
            rotate_left
            · show Act.put _ (some 5) _ = _
              simp only [Act.put, List.setIfInBounds_toArray, List.set_cons_zero, List.set_cons_succ, i64_w, i32_w]
              rfl
            refine one_ (i := 2) (N := some 7) #[true, true, true, true, true, false, false, false, false, false, false, false, false, false, false, false, false, false, false, false, false, false, false] rfl rfl (by kernel_rfl) (by decide) (fun K hK => ?_)
            refine rows_step k69 w wd.heap.size (by rfl) (.tmp 5) (.tmp 6) 67 69 _ 136 (by rfl) Try.underlying67 info69' rfl (by decide) (by omega) v5 [] l A l.length c (by rfl) (by rfl) HO.out (rows_came HC.out (below_step HBd.out HD.out)) HD.out HD.out.size (by have := HLN.out; simp only [List.length_nil]; omega) ?_
            intro v7 wc2 hO hb hg
            have b9_ := Aside0.mk ((hg.block g9 (blk_lt BK9.out) N59.out).trans BK9.out)
            clear BK9 N59
            have BK9 := b9_
            clear b9_
            clear HO HD HV5
            have HO := Aside0.mk hO
            have HD := Aside0.mk hb
            clear hO hb hg
            refine hK.out _ _ ⟨(blk_cell (blk_below BK3.out HD.out) 0).trans rfl, (blk_cell (blk_below BK3.out HD.out) 1).trans rfl, (blk_cell (blk_below BK3.out HD.out) 2).trans rfl, (blk_cell (blk_below BK3.out HD.out) 3).trans rfl, (blk_cell (blk_below BK3.out HD.out) 4).trans rfl, (blk_cell (blk_below BK3.out HD.out) 5).trans rfl, (blk_cell (blk_below BK3.out HD.out) 6).trans rfl, (blk_cell (blk_below BK3.out HD.out) 7).trans rfl, (blk_cell (blk_below BK3.out HD.out) 8).trans rfl, (blk_cell (blk_below BK3.out HD.out) 9).trans rfl⟩ (fun hHeld => ?_)
            clear hK K
            refine norm_ (a' := ?_) ?_ ?_
            rotate_left
            · show Act.put _ (some 7) _ = _
              simp only [Act.put, List.setIfInBounds_toArray, List.set_cons_zero, List.set_cons_succ, i64_w, i32_w]
              rfl
            exact norm_ (by simp only [putAll, Act.put, List.setIfInBounds_toArray, List.set_cons_zero, List.set_cons_succ]) (hCont (v5, v7, g9) _ ⟨HO.out, BK9.out, HD.out⟩)
        rintro ⟨v5, v7, g9⟩ we ⟨hO, hB9, hD⟩
        have HO := Aside0.mk hO
        have BK9 := Aside0.mk hB9
        clear HD
        have HD := Aside0.mk hD
        clear hO hB9 hD
        have hHeld : we.cell? ⟨g3, 0, none⟩ = some (.int .u64 x.f0) ∧ we.cell? ⟨g3, 1, none⟩ = some (.int .u64 x.f1) ∧ we.cell? ⟨g3, 2, none⟩ = some (.string x.f2) ∧ we.cell? ⟨g3, 3, none⟩ = some (.int .i64 x.f3) ∧ we.cell? ⟨g3, 4, none⟩ = some (.string x.f4) ∧ we.cell? ⟨g3, 5, none⟩ = some (.string x.f5) ∧ we.cell? ⟨g3, 6, none⟩ = some (.int .u64 x.f6) ∧ we.cell? ⟨g3, 7, none⟩ = some (.int .i64 x.f7) ∧ we.cell? ⟨g3, 8, none⟩ = some (.slice A8 x.f8.length c8) ∧ we.cell? ⟨g3, 9, none⟩ = some (.slice A9 x.f9.length c9) := ⟨(blk_cell (blk_below BK3.out HD.out) 0).trans rfl, (blk_cell (blk_below BK3.out HD.out) 1).trans rfl, (blk_cell (blk_below BK3.out HD.out) 2).trans rfl, (blk_cell (blk_below BK3.out HD.out) 3).trans rfl, (blk_cell (blk_below BK3.out HD.out) 4).trans rfl, (blk_cell (blk_below BK3.out HD.out) 5).trans rfl, (blk_cell (blk_below BK3.out HD.out) 6).trans rfl, (blk_cell (blk_below BK3.out HD.out) 7).trans rfl, (blk_cell (blk_below BK3.out HD.out) 8).trans rfl, (blk_cell (blk_below BK3.out HD.out) 9).trans rfl⟩
        refine norm_ (a' := ?_) ?_ ?_
        rotate_left
        · simp only [putAll, Act.put, List.setIfInBounds_toArray, List.set_cons_zero, List.set_cons_succ]
          rfl
        refine one_ (i := 5) (N := some 10) #[true, true, true, true, true, true, false, false, false, false, false, false, false, false, false, false, false, false, false, false, false, false, false] rfl rfl (by kernel_rfl) (by decide) (fun K hK => ?_)
        refine rows_step k69 w wd.heap.size (by rfl) (.tmp 7) (.tmp 9) 67 69 _ 136 (by rfl) Try.underlying67 info69' rfl (by decide) (by omega) v7 l [x] (some ⟨g9, 0, none⟩) 1 1 (by rfl) (by rfl) HO.out (row_one w we g9 69 x [.int .u64 x.f0, .int .u64 x.f1, .string x.f2, .int .i64 x.f3, .string x.f4, .string x.f5, .int .u64 x.f6, .int .i64 x.f7, .slice A8 x.f8.length c8, .slice A9 x.f9.length c9] RX.out.k BK9.out) HD.out HD.out.size (by have := HLN.out; omega) ?_
        intro v10 wf hO hb hg
        clear HO HD BK9
        have HD := Aside0.mk hb
        obtain ⟨A10, c10, rfl, hc10, hC10⟩ := rows_read hO (below_step HBd.out HD.out)
        have C10 := Aside0.mk hC10
        have L10 := Aside0.mk hc10
        clear hO hb hg hC10 hc10
        refine hK.out _ _ ⟨(blk_cell (blk_below BK3.out HD.out) 0).trans rfl, (blk_cell (blk_below BK3.out HD.out) 1).trans rfl, (blk_cell (blk_below BK3.out HD.out) 2).trans rfl, (blk_cell (blk_below BK3.out HD.out) 3).trans rfl, (blk_cell (blk_below BK3.out HD.out) 4).trans rfl, (blk_cell (blk_below BK3.out HD.out) 5).trans rfl, (blk_cell (blk_below BK3.out HD.out) 6).trans rfl, (blk_cell (blk_below BK3.out HD.out) 7).trans rfl, (blk_cell (blk_below BK3.out HD.out) 8).trans rfl, (blk_cell (blk_below BK3.out HD.out) 9).trans rfl⟩ (fun hHeld => ?_)
        clear hK K
        refine norm_ (a' := ?_) ?_ ?_
        rotate_left
        · show Act.put _ (some 10) _ = _
          simp only [Act.put, List.setIfInBounds_toArray, List.set_cons_zero, List.set_cons_succ, i64_w, i32_w]
          rfl
        refine one_ (i := 6) (N := some 11) #[true, true, true, true, true, true, true, false, false, false, false, false, false, false, false, false, false, false, false, false, false, false, false] rfl rfl (by kernel_rfl) (by decide) (fun K hK => ?_)
        refine goes_ Try.func73 (by kernel_rfl) rfl #[.slice A10 (l ++ [x]).length c10] (by rfl) rfl rfl (by first | (simp only [List.map_toArray, List.map_cons, List.map_nil]; done) | (simp only [List.map_toArray, List.map_cons, List.map_nil]; rfl)) ?_
        with_reducible refine (lightB A10 c10 (l ++ [x]) true _ C10.out L10.out HLL.out HS.out HL.out).mono ?_
        rintro e wg ⟨rfl, hb⟩
        refine ⟨_, rfl, ?_⟩
        clear C10 L10
        have hd_ := Aside0.mk (below_step HD.out hb)
        clear HD
        have HD := hd_
        clear hd_
        clear hb
        refine hK.out _ _ ⟨(blk_cell (blk_below BK3.out HD.out) 0).trans rfl, (blk_cell (blk_below BK3.out HD.out) 1).trans rfl, (blk_cell (blk_below BK3.out HD.out) 2).trans rfl, (blk_cell (blk_below BK3.out HD.out) 3).trans rfl, (blk_cell (blk_below BK3.out HD.out) 4).trans rfl, (blk_cell (blk_below BK3.out HD.out) 5).trans rfl, (blk_cell (blk_below BK3.out HD.out) 6).trans rfl, (blk_cell (blk_below BK3.out HD.out) 7).trans rfl, (blk_cell (blk_below BK3.out HD.out) 8).trans rfl, (blk_cell (blk_below BK3.out HD.out) 9).trans rfl⟩ (fun hHeld => ?_)
        clear hK K
        refine norm_ (a' := ?_) ?_ ?_
        rotate_left
        · show Act.put _ (some 11) _ = _
          simp only [Act.put, List.setIfInBounds_toArray, List.set_cons_zero, List.set_cons_succ, i64_w, i32_w]
          rfl
        refine pure_ (i := 7) (N := some 12) (v := ?_) (a' := ?_) #[true, true, true, true, true, true, true, true, false, false, false, false, false, false, false, false, false, false, false, false, false, false, false] rfl rfl (by kernel_rfl) (fun _ _ _ h => h) (Or.inl ⟨by rfl, ?_⟩) ?_ ?_
        rotate_left
        · intro w'
          go_simp
          with_reducible rfl
        rotate_left
        · simp only [Act.put, List.setIfInBounds_toArray, List.set_cons_zero, List.set_cons_succ, i64_w, i32_w]
          rfl
        refine pure_ (i := 8) (N := some 13) (v := ?_) (a' := ?_) #[true, true, true, true, true, true, true, true, true, false, false, false, false, false, false, false, false, false, false, false, false, false, false] rfl rfl (by kernel_rfl) (fun _ _ _ h => h) (Or.inl ⟨by rfl, ?_⟩) ?_ ?_
        rotate_left
        · intro w'
          go_simp
          with_reducible rfl
        rotate_left
        · simp only [Act.put, List.setIfInBounds_toArray, List.set_cons_zero, List.set_cons_succ, i64_w, i32_w]
          rfl
        refine pure_ (i := 9) (N := some 14) (v := ?_) (a' := ?_) #[true, true, true, true, true, true, true, true, true, true, false, false, false, false, false, false, false, false, false, false, false, false, false] rfl rfl (by kernel_rfl) (fun _ _ _ h => h) (Or.inl ⟨by rfl, ?_⟩) ?_ ?_
        rotate_left
        · intro w'
          go_simp
          with_reducible rfl
        rotate_left
        · simp only [Act.put, List.setIfInBounds_toArray, List.set_cons_zero, List.set_cons_succ, i64_w, i32_w]
          rfl
        refine pure_ (i := 10) (N := some 15) (v := ?_) (a' := ?_) #[true, true, true, true, true, true, true, true, true, true, true, false, false, false, false, false, false, false, false, false, false, false, false] rfl rfl (by kernel_rfl) (fun _ _ _ h => h) (Or.inl ⟨by rfl, ?_⟩) ?_ ?_
        rotate_left
        · intro w'
          go_simp
          with_reducible rfl
        rotate_left
        · simp only [Act.put, List.setIfInBounds_toArray, List.set_cons_zero, List.set_cons_succ, i64_w, i32_w]
          rfl
        refine pure_ (i := 11) (N := some 16) (v := ?_) (a' := ?_) #[true, true, true, true, true, true, true, true, true, true, true, true, false, false, false, false, false, false, false, false, false, false, false] rfl rfl (by kernel_rfl) (fun _ _ _ h => h) (Or.inl ⟨by rfl, ?_⟩) ?_ ?_
        rotate_left
        · intro w'
          go_simp
          with_reducible rfl
        rotate_left
        · simp only [Act.put, List.setIfInBounds_toArray, List.set_cons_zero, List.set_cons_succ, i64_w, i32_w]
          rfl
        refine pure_ (i := 12) (N := some 17) (v := ?_) (a' := ?_) #[true, true, true, true, true, true, true, true, true, true, true, true, true, false, false, false, false, false, false, false, false, false, false] rfl rfl (by kernel_rfl) (fun _ _ _ h => h) (Or.inl ⟨by rfl, ?_⟩) ?_ ?_
        rotate_left
        · intro w'
          go_simp
          with_reducible rfl
        rotate_left
        · simp only [Act.put, List.setIfInBounds_toArray, List.set_cons_zero, List.set_cons_succ, i64_w, i32_w]
          rfl
        refine pure_ (i := 13) (N := some 18) (v := undef) (a' := ?_) #[true, true, true, true, true, true, true, true, true, true, true, true, true, true, false, false, false, false, false, false, false, false, false] rfl rfl (by kernel_rfl) (fun _ _ _ h => h) (Or.inr ⟨by rfl, rfl⟩) ?_ ?_
        rotate_left
        · simp only [Act.put, List.setIfInBounds_toArray, List.set_cons_zero, List.set_cons_succ, i64_w, i32_w]
          rfl
        refine pure_ (i := 14) (N := some 19) (v := undef) (a' := ?_) #[true, true, true, true, true, true, true, true, true, true, true, true, true, true, true, false, false, false, false, false, false, false, false] rfl rfl (by kernel_rfl) (fun _ _ _ h => h) (Or.inr ⟨by rfl, rfl⟩) ?_ ?_
        rotate_left
        · simp only [Act.put, List.setIfInBounds_toArray, List.set_cons_zero, List.set_cons_succ, i64_w, i32_w]
          rfl
        refine pure_ (i := 15) (N := some 20) (v := undef) (a' := ?_) #[true, true, true, true, true, true, true, true, true, true, true, true, true, true, true, true, false, false, false, false, false, false, false] rfl rfl (by kernel_rfl) (fun _ _ _ h => h) (Or.inr ⟨by rfl, rfl⟩) ?_ ?_
        rotate_left
        · simp only [Act.put, List.setIfInBounds_toArray, List.set_cons_zero, List.set_cons_succ, i64_w, i32_w]
          rfl
        refine pure_ (i := 16) (N := some 21) (v := undef) (a' := ?_) #[true, true, true, true, true, true, true, true, true, true, true, true, true, true, true, true, true, false, false, false, false, false, false] rfl rfl (by kernel_rfl) (fun _ _ _ h => h) (Or.inr ⟨by rfl, rfl⟩) ?_ ?_
        rotate_left
        · simp only [Act.put, List.setIfInBounds_toArray, List.set_cons_zero, List.set_cons_succ, i64_w, i32_w]
          rfl
        refine pure_ (i := 17) (N := some 22) (v := undef) (a' := ?_) #[true, true, true, true, true, true, true, true, true, true, true, true, true, true, true, true, true, true, false, false, false, false, false] rfl rfl (by kernel_rfl) (fun _ _ _ h => h) (Or.inr ⟨by rfl, rfl⟩) ?_ ?_
        rotate_left
        · simp only [Act.put, List.setIfInBounds_toArray, List.set_cons_zero, List.set_cons_succ, i64_w, i32_w]
          rfl
        refine pure_ (i := 18) (N := some 23) (v := undef) (a' := ?_) #[true, true, true, true, true, true, true, true, true, true, true, true, true, true, true, true, true, true, true, false, false, false, false] rfl rfl (by kernel_rfl) (fun _ _ _ h => h) (Or.inr ⟨by rfl, rfl⟩) ?_ ?_
        rotate_left
        · simp only [Act.put, List.setIfInBounds_toArray, List.set_cons_zero, List.set_cons_succ, i64_w, i32_w]
          rfl
        refine pure_ (i := 19) (N := some 24) (v := undef) (a' := ?_) #[true, true, true, true, true, true, true, true, true, true, true, true, true, true, true, true, true, true, true, true, false, false, false] rfl rfl (by kernel_rfl) (fun _ _ _ h => h) (Or.inr ⟨by rfl, rfl⟩) ?_ ?_
        rotate_left
        · simp only [Act.put, List.setIfInBounds_toArray, List.set_cons_zero, List.set_cons_succ, i64_w, i32_w]
          rfl
        refine pure_ (i := 20) (N := some 25) (v := undef) (a' := ?_) #[true, true, true, true, true, true, true, true, true, true, true, true, true, true, true, true, true, true, true, true, true, false, false] rfl rfl (by kernel_rfl) (fun _ _ _ h => h) (Or.inr ⟨by rfl, rfl⟩) ?_ ?_
        rotate_left
        · simp only [Act.put, List.setIfInBounds_toArray, List.set_cons_zero, List.set_cons_succ, i64_w, i32_w]
          rfl
        refine pure_ (i := 21) (N := some 26) (v := ?_) (a' := ?_) #[true, true, true, true, true, true, true, true, true, true, true, true, true, true, true, true, true, true, true, true, true, true, false] rfl rfl (by kernel_rfl) (fun _ _ _ h => h) (Or.inl ⟨by rfl, ?_⟩) ?_ ?_
        rotate_left
        · intro w'
          go_simp
          with_reducible rfl
        rotate_left
        · simp only [Act.put, List.setIfInBounds_toArray, List.set_cons_zero, List.set_cons_succ, i64_w, i32_w]
          rfl
        refine pure_ (i := 22) (N := some 27) (v := ?_) (a' := ?_) #[true, true, true, true, true, true, true, true, true, true, true, true, true, true, true, true, true, true, true, true, true, true, true] rfl rfl (by kernel_rfl) (fun _ _ _ h => h) (Or.inl ⟨by rfl, ?_⟩) ?_ ?_
        rotate_left
        · intro w'
          go_simp
          with_reducible rfl
        rotate_left
        · simp only [Act.put, List.setIfInBounds_toArray, List.set_cons_zero, List.set_cons_succ, i64_w, i32_w]
          rfl
        refine done_ (by kernel_rfl) ?_
        go_wp2
        go_meet
        case rel => exact ⟨rfl, ⟨blk_below BK3.out HD.out⟩, ⟨below_step HBd.out HD.out⟩⟩
  case rest =>
    obtain ⟨rfl, BK3, HB⟩ := hcut
    cases q with
    | true =>
      go_wp2_with (go_at_call 74; (with_reducible refine (alive14 _).mono ?_); rintro e w4 ⟨rfl, hb⟩; have HB4 := Aside0.mk (below_step HB.out hb); clear hb)
      go_ret
      exact ⟨rfl, HB4.out⟩
    | false =>
      obtain rfl : b = true := by cases b; exact absurd HQ.out (by simp); rfl
      have hk := HK.out rfl
      obtain ⟨n, hn⟩ : ∃ n, nextP l x = n := ⟨_, rfl⟩
      have hxk := hk.2 x (by simp)
      have hnk := okX_next l (fun u hu => (hk.2 u (by simp [hu])).1) x hxk.1 hxk.2
      have NA := Aside0.mk (fun W h1 h2 => anext_c A c l x A8 c8 A9 c9 W h1 Hc.out hk.1 (fun u hu => (hk.2 u (by simp [hu])).1) h2 (by have := hxk.2; omega))
      have NR := Aside0.mk (fun W h1 h2 => rnext_c A c l x A8 c8 A9 c9 W h1 Hc.out hk.1 (fun u hu => (hk.2 u (by simp [hu])).1) h2)
      rw [hn] at hnk NA NR
      have NS := Aside0.mk (fun P8 Pd8 P9 Pd9 Q8 Qd8 Q9 Qd9 W h1 h2 => rsame_t n P8 Pd8 P9 Pd9 Q8 Qd8 Q9 Qd9 W h1 hnk h2)
      clear hk hn hxk hnk
      go_wp2
      have b3_ := Aside0.mk (blk_drew BK3.out)
      have hb_ := Aside0.mk (below_drew1 HB.out)
      have HD := Aside0.mk (Below.refl (World.drew wc).heap.size (World.drew wc))
      have HBd := hb_
      clear BK3 HB
      have BK3 := b3_
      clear b3_ hb_
      refine start_ (n := 11) (S := fun w' => w'.cell? ⟨g3, 0, none⟩ = some (.int .u64 x.f0) ∧ w'.cell? ⟨g3, 1, none⟩ = some (.int .u64 x.f1) ∧ w'.cell? ⟨g3, 2, none⟩ = some (.string x.f2) ∧ w'.cell? ⟨g3, 3, none⟩ = some (.int .i64 x.f3) ∧ w'.cell? ⟨g3, 4, none⟩ = some (.string x.f4) ∧ w'.cell? ⟨g3, 5, none⟩ = some (.string x.f5) ∧ w'.cell? ⟨g3, 6, none⟩ = some (.int .u64 x.f6) ∧ w'.cell? ⟨g3, 7, none⟩ = some (.int .i64 x.f7) ∧ w'.cell? ⟨g3, 8, none⟩ = some (.slice A8 x.f8.length c8) ∧ w'.cell? ⟨g3, 9, none⟩ = some (.slice A9 x.f9.length c9)) (ds := []) #[false, false, false, false, false, false, false, false, false, false, false] (by kernel_rfl) rfl rfl ⟨(blk_cell (blk_below BK3.out HD.out) 0).trans rfl, (blk_cell (blk_below BK3.out HD.out) 1).trans rfl, (blk_cell (blk_below BK3.out HD.out) 2).trans rfl, (blk_cell (blk_below BK3.out HD.out) 3).trans rfl, (blk_cell (blk_below BK3.out HD.out) 4).trans rfl, (blk_cell (blk_below BK3.out HD.out) 5).trans rfl, (blk_cell (blk_below BK3.out HD.out) 6).trans rfl, (blk_cell (blk_below BK3.out HD.out) 7).trans rfl, (blk_cell (blk_below BK3.out HD.out) 8).trans rfl, (blk_cell (blk_below BK3.out HD.out) 9).trans rfl⟩ (fun hHeld => ?_)
      generalize World.drew wc = wd at BK3 HBd HD hHeld ⊢
      refine pure_ (i := 0) (N := some 29) (v := ?_) (a' := ?_) #[true, false, false, false, false, false, false, false, false, false, false] rfl rfl (by kernel_rfl) (fun _ _ _ h => h) (Or.inl ⟨by rfl, ?_⟩) ?_ ?_
      rotate_left
      · intro w'
        go_simp
        with_reducible rfl
      rotate_left
      · simp only [Act.put, List.setIfInBounds_toArray, List.set_cons_zero, List.set_cons_succ, i64_w, i32_w]
        rfl
      refine pure_ (i := 3) (N := some 32) (v := ?_) (a' := ?_) #[true, false, false, true, false, false, false, false, false, false, false] rfl rfl (by kernel_rfl) (fun _ _ _ h => h) (Or.inl ⟨by rfl, ?_⟩) ?_ ?_
      rotate_left
      · intro w'
        go_simp
        with_reducible rfl
      rotate_left
      · simp only [Act.put, List.setIfInBounds_toArray, List.set_cons_zero, List.set_cons_succ, i64_w, i32_w]
        rfl
      refine take_ (i := 1) (N := some 30) (v := ?_) (a' := ?_) #[true, true, false, true, false, false, false, false, false, false, false] rfl rfl (by kernel_rfl) (fun _ _ _ h => h) (Or.inl ⟨by rfl, ?_⟩) hHeld ?_ ?_
      rotate_left
      · rintro w' ⟨s0, s1, s2, s3, s4, s5, s6, s7, s8, s9⟩
        go_simp
        with_reducible rfl
      rotate_left
      · simp only [Act.put, List.setIfInBounds_toArray, List.set_cons_zero, List.set_cons_succ, i64_w, i32_w]
        rfl
      refine take_ (i := 4) (N := some 33) (v := ?_) (a' := ?_) #[true, true, false, true, true, false, false, false, false, false, false] rfl rfl (by kernel_rfl) (fun _ _ _ h => h) (Or.inl ⟨by rfl, ?_⟩) hHeld ?_ ?_
      rotate_left
      · rintro w' ⟨s0, s1, s2, s3, s4, s5, s6, s7, s8, s9⟩
        go_simp
        with_reducible rfl
      rotate_left
      · simp only [Act.put, List.setIfInBounds_toArray, List.set_cons_zero, List.set_cons_succ, i64_w, i32_w]
        rfl
      refine one_ (i := 2) (N := some 31) #[true, true, true, true, true, false, false, false, false, false, false] rfl rfl (by kernel_rfl) (by decide) (fun K hK => ?_)
      refine goes_ Try.func76 (by kernel_rfl) rfl #[.slice A l.length c, .agg #[.int .u64 x.f0, .int .u64 x.f1, .string x.f2, .int .i64 x.f3, .string x.f4, .string x.f5, .int .u64 x.f6, .int .i64 x.f7, .slice A8 x.f8.length c8, .slice A9 x.f9.length c9]] (by rfl) rfl rfl (by first | (simp only [List.map_toArray, List.map_cons, List.map_nil]; done) | (simp only [List.map_toArray, List.map_cons, List.map_nil]; rfl)) ?_
      with_reducible refine (NA.out _ (Kd.C_below HC.out (below_step HBd.out HD.out)) (RX.out.below (below_step HBd.out HD.out))).mono ?_
      rintro e wh ⟨P8, Pd8, P9, Pd9, rfl, hR, hb⟩
      refine ⟨_, rfl, ?_⟩
      have RN := Aside0.mk hR
      clear hR
      have hd_ := Aside0.mk (below_step HD.out hb)
      clear HD
      have HD := hd_
      clear hd_
      clear hb
      refine hK.out _ _ ⟨(blk_cell (blk_below BK3.out HD.out) 0).trans rfl, (blk_cell (blk_below BK3.out HD.out) 1).trans rfl, (blk_cell (blk_below BK3.out HD.out) 2).trans rfl, (blk_cell (blk_below BK3.out HD.out) 3).trans rfl, (blk_cell (blk_below BK3.out HD.out) 4).trans rfl, (blk_cell (blk_below BK3.out HD.out) 5).trans rfl, (blk_cell (blk_below BK3.out HD.out) 6).trans rfl, (blk_cell (blk_below BK3.out HD.out) 7).trans rfl, (blk_cell (blk_below BK3.out HD.out) 8).trans rfl, (blk_cell (blk_below BK3.out HD.out) 9).trans rfl⟩ (fun hHeld => ?_)
      clear hK K
      refine norm_ (a' := ?_) ?_ ?_
      rotate_left
      · show Act.put _ (some 31) _ = _
        simp only [Act.put, List.setIfInBounds_toArray, List.set_cons_zero, List.set_cons_succ, i64_w, i32_w]
        rfl
      refine one_ (i := 5) (N := some 34) #[true, true, true, true, true, true, false, false, false, false, false] rfl rfl (by kernel_rfl) (by decide) (fun K hK => ?_)
      refine goes_ Try.func77 (by kernel_rfl) rfl #[.slice A l.length c, .agg #[.int .u64 x.f0, .int .u64 x.f1, .string x.f2, .int .i64 x.f3, .string x.f4, .string x.f5, .int .u64 x.f6, .int .i64 x.f7, .slice A8 x.f8.length c8, .slice A9 x.f9.length c9]] (by rfl) rfl rfl (by first | (simp only [List.map_toArray, List.map_cons, List.map_nil]; done) | (simp only [List.map_toArray, List.map_cons, List.map_nil]; rfl)) ?_
      with_reducible refine (NR.out _ (Kd.C_below HC.out (below_step HBd.out HD.out)) (RX.out.below (below_step HBd.out HD.out))).mono ?_
      rintro e wi ⟨Q8, Qd8, Q9, Qd9, rfl, hR, hb⟩
      refine ⟨_, rfl, ?_⟩
      have RQ := Aside0.mk hR
      clear hR
      have m_ := Aside0.mk (RN.out.below hb)
      clear RN
      have RN := m_
      clear m_
      have hd_ := Aside0.mk (below_step HD.out hb)
      clear HD
      have HD := hd_
      clear hd_
      clear hb
      refine hK.out _ _ ⟨(blk_cell (blk_below BK3.out HD.out) 0).trans rfl, (blk_cell (blk_below BK3.out HD.out) 1).trans rfl, (blk_cell (blk_below BK3.out HD.out) 2).trans rfl, (blk_cell (blk_below BK3.out HD.out) 3).trans rfl, (blk_cell (blk_below BK3.out HD.out) 4).trans rfl, (blk_cell (blk_below BK3.out HD.out) 5).trans rfl, (blk_cell (blk_below BK3.out HD.out) 6).trans rfl, (blk_cell (blk_below BK3.out HD.out) 7).trans rfl, (blk_cell (blk_below BK3.out HD.out) 8).trans rfl, (blk_cell (blk_below BK3.out HD.out) 9).trans rfl⟩ (fun hHeld => ?_)
      clear hK K
      refine norm_ (a' := ?_) ?_ ?_
      rotate_left
      · show Act.put _ (some 34) _ = _
        simp only [Act.put, List.setIfInBounds_toArray, List.set_cons_zero, List.set_cons_succ, i64_w, i32_w]
        rfl
      refine one_ (i := 6) (N := some 35) #[true, true, true, true, true, true, true, false, false, false, false] rfl rfl (by kernel_rfl) (by decide) (fun K hK => ?_)
      refine goes_ Try.func75 (by kernel_rfl) rfl #[.agg #[.int .u64 n.f0, .int .u64 n.f1, .string n.f2, .int .i64 n.f3, .string n.f4, .string n.f5, .int .u64 n.f6, .int .i64 n.f7, .slice P8 n.f8.length Pd8, .slice P9 n.f9.length Pd9], .agg #[.int .u64 n.f0, .int .u64 n.f1, .string n.f2, .int .i64 n.f3, .string n.f4, .string n.f5, .int .u64 n.f6, .int .i64 n.f7, .slice Q8 n.f8.length Qd8, .slice Q9 n.f9.length Qd9]] (by rfl) rfl rfl (by first | (simp only [List.map_toArray, List.map_cons, List.map_nil]; done) | (simp only [List.map_toArray, List.map_cons, List.map_nil]; rfl)) ?_
      with_reducible refine (NS.out _ _ _ _ _ _ _ _ _ RN.out RQ.out).mono ?_
      rintro e wj ⟨rfl, hb⟩
      refine ⟨_, rfl, ?_⟩
      clear RN RQ
      have hd_ := Aside0.mk (below_step HD.out hb)
      clear HD
      have HD := hd_
      clear hd_
      clear hb
      refine hK.out _ _ ⟨(blk_cell (blk_below BK3.out HD.out) 0).trans rfl, (blk_cell (blk_below BK3.out HD.out) 1).trans rfl, (blk_cell (blk_below BK3.out HD.out) 2).trans rfl, (blk_cell (blk_below BK3.out HD.out) 3).trans rfl, (blk_cell (blk_below BK3.out HD.out) 4).trans rfl, (blk_cell (blk_below BK3.out HD.out) 5).trans rfl, (blk_cell (blk_below BK3.out HD.out) 6).trans rfl, (blk_cell (blk_below BK3.out HD.out) 7).trans rfl, (blk_cell (blk_below BK3.out HD.out) 8).trans rfl, (blk_cell (blk_below BK3.out HD.out) 9).trans rfl⟩ (fun hHeld => ?_)
      clear hK K
      refine norm_ (a' := ?_) ?_ ?_
      rotate_left
      · show Act.put _ (some 35) _ = _
        simp only [Act.put, List.setIfInBounds_toArray, List.set_cons_zero, List.set_cons_succ, i64_w, i32_w]
        rfl
      refine pure_ (i := 7) (N := some 36) (v := ?_) (a' := ?_) #[true, true, true, true, true, true, true, true, false, false, false] rfl rfl (by kernel_rfl) (fun _ _ _ h => h) (Or.inl ⟨by rfl, ?_⟩) ?_ ?_
      rotate_left
      · intro w'
        go_simp
        with_reducible rfl
      rotate_left
      · simp only [Act.put, List.setIfInBounds_toArray, List.set_cons_zero, List.set_cons_succ, i64_w, i32_w]
        rfl
      refine one_ (i := 8) (N := some 37) #[true, true, true, true, true, true, true, true, true, false, false] rfl rfl (by kernel_rfl) (by decide) (fun K hK => ?_)
      refine goes_ Try.func74 (by kernel_rfl) rfl #[] (by rfl) rfl rfl (by first | (simp only [List.map_toArray, List.map_cons, List.map_nil]; done) | (simp only [List.map_toArray, List.map_cons, List.map_nil]; rfl)) ?_
      with_reducible refine (alive14 _).mono ?_
      rintro e wk ⟨rfl, hb⟩
      refine ⟨_, rfl, ?_⟩
      have hd_ := Aside0.mk (below_step HD.out hb)
      clear HD
      have HD := hd_
      clear hd_
      clear hb
      refine hK.out _ _ ⟨(blk_cell (blk_below BK3.out HD.out) 0).trans rfl, (blk_cell (blk_below BK3.out HD.out) 1).trans rfl, (blk_cell (blk_below BK3.out HD.out) 2).trans rfl, (blk_cell (blk_below BK3.out HD.out) 3).trans rfl, (blk_cell (blk_below BK3.out HD.out) 4).trans rfl, (blk_cell (blk_below BK3.out HD.out) 5).trans rfl, (blk_cell (blk_below BK3.out HD.out) 6).trans rfl, (blk_cell (blk_below BK3.out HD.out) 7).trans rfl, (blk_cell (blk_below BK3.out HD.out) 8).trans rfl, (blk_cell (blk_below BK3.out HD.out) 9).trans rfl⟩ (fun hHeld => ?_)
      clear hK K
      refine norm_ (a' := ?_) ?_ ?_
      rotate_left
      · show Act.put _ (some 37) _ = _
        simp only [Act.put, List.setIfInBounds_toArray, List.set_cons_zero, List.set_cons_succ, i64_w, i32_w]
        rfl
      refine pure_ (i := 9) (N := some 38) (v := ?_) (a' := ?_) #[true, true, true, true, true, true, true, true, true, true, false] rfl rfl (by kernel_rfl) (fun _ _ _ h => h) (Or.inl ⟨by rfl, ?_⟩) ?_ ?_
      rotate_left
      · intro w'
        go_simp
        with_reducible rfl
      rotate_left
      · simp only [Act.put, List.setIfInBounds_toArray, List.set_cons_zero, List.set_cons_succ, i64_w, i32_w]
        rfl
      refine pure_ (i := 10) (N := some 4) (v := ?_) (a' := ?_) #[true, true, true, true, true, true, true, true, true, true, true] rfl rfl (by kernel_rfl) (fun _ _ _ h => h) (Or.inl ⟨by rfl, ?_⟩) ?_ ?_
      rotate_left
      · intro w'
        go_simp
        with_reducible rfl
      rotate_left
      · simp only [Act.put, List.setIfInBounds_toArray, List.set_cons_zero, List.set_cons_succ, i64_w, i32_w]
        rfl
      refine done_ (by kernel_rfl) ?_
      go_wp2
      go_ret
      exact ⟨rfl, below_step HBd.out HD.out⟩
end Go.Proofs.Ytlnpmodhejakiaa.AV
namespace Go.Proofs.Ytlnpmodhejakiaa.PV
open Go.RowKit Go.Proofs.YtlnpmodhejakiaaW.PrintWords Go.Proofs.YtlnpmodhejakiaaW.PrintLast Go.Proofs.YtlnpmodhejakiaaW.PrintMore Go.Proofs.Ytlnpmodhejakiaa.D Go.Proofs.Ytlnpmodhejakiaa.AV
open Classical in
noncomputable def stelelaw14_AuditNexts.f (l0 : List S69) (a1_0 : Int) (a1_1 : Int) (a1_2 : ByteArray) (a1_3 : Int) (a1_4 : ByteArray) (a1_5 : ByteArray) (a1_6 : Int) (a1_7 : Int) (l1_8 : List Int) (l1_9 : List Int) : Option Bool := if (l0.length + 1) * 136 ≤ 140737488355328 ∧ (∀ y ∈ l0, rawX y) ∧ rawX ⟨a1_0, a1_1, a1_2, a1_3, a1_4, a1_5, a1_6, a1_7, l1_8, l1_9⟩ then some true else none
theorem stelelaw14_AuditNexts.calls (A0 : Option Addr) (c0 : Nat) (l0 : List S69) (a1_0 : Int) (a1_1 : Int) (a1_2 : ByteArray) (a1_3 : Int) (a1_4 : ByteArray) (a1_5 : ByteArray) (a1_6 : Int) (a1_7 : Int) (A1_8 : Option Addr) (c1_8 : Nat) (l1_8 : List Int) (A1_9 : Option Addr) (c1_9 : Nat) (l1_9 : List Int) (r : Bool) (w : World) (hr0 : Kd.C k69 w A0 l0.length l0) (hc0 : l0.length ≤ c0) (hr1_8 : Kd.C (Kd.int .u8) w A1_8 l1_8.length l1_8) (hc1_8 : l1_8.length ≤ c1_8) (hr1_9 : Kd.C (Kd.int .u8) w A1_9 l1_9.length l1_9) (hc1_9 : l1_9.length ≤ c1_9) (h : stelelaw14_AuditNexts.f l0 a1_0 a1_1 a1_2 a1_3 a1_4 a1_5 a1_6 a1_7 l1_8 l1_9 = some r) :
    Calls Try.prog 15 #[.slice A0 l0.length c0, .agg #[.int .u64 a1_0, .int .u64 a1_1, .string a1_2, .int .i64 a1_3, .string a1_4, .string a1_5, .int .u64 a1_6, .int .i64 a1_7, .slice A1_8 l1_8.length c1_8, .slice A1_9 l1_9.length c1_9]] w fun e w' => e = .returned (.bool r) ∧ Below w.heap.size w w' := by
  unfold stelelaw14_AuditNexts.f at h
  split at h
  · rename_i hh
    obtain rfl := Option.some.inj h
    have hall : ∀ u ∈ l0 ++ [(⟨a1_0, a1_1, a1_2, a1_3, a1_4, a1_5, a1_6, a1_7, l1_8, l1_9⟩ : S69)], rawX u := by
      intro u hu
      rcases List.mem_append.1 hu with hu | hu
      · exact hh.2.1 u hu
      · obtain rfl := List.mem_singleton.1 hu; exact hh.2.2
    exact nexts_any A0 c0 l0 ⟨a1_0, a1_1, a1_2, a1_3, a1_4, a1_5, a1_6, a1_7, l1_8, l1_9⟩ A1_8 c1_8 A1_9 c1_9 w hr0 hc0 ⟨hr1_8, hc1_8, hr1_9, hc1_9⟩ hh.1 (fun u hu => (hall u hu).small) (fun hL => ⟨by have := (light_m hL).1; rw [List.length_append, List.length_singleton] at this; omega, fun u hu => ⟨(hall u hu).ok ((light_m hL).2 u hu), (light_m hL).2 u hu⟩⟩)
  · cases h
end Go.Proofs.Ytlnpmodhejakiaa.PV
