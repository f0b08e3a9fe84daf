/- records.ReadUpload: what it computes. -/
import Derived.Test.YtlnpmodhejakiaaYRecH
namespace Go.Proofs.Ytlnpmodhejakiaa.RW
open Go.RowKit Go.Proofs.YtlnpmodhejakiaaW.PrintWords Go.Proofs.YtlnpmodhejakiaaW.PrintLast Go.Proofs.YtlnpmodhejakiaaW.PrintMore Go.Proofs.Ytlnpmodhejakiaa.Sha Go.Proofs.Ytlnpmodhejakiaa.D Go.Proofs.Ytlnpmodhejakiaa.PC Go.Proofs.Ytlnpmodhejakiaa.CP
set_option linter.unusedVariables false
set_option linter.unusedSimpArgs false
set_option maxHeartbeats 32000000 in
set_option maxRecDepth 100000 in
theorem readU (A : Option Addr) (c : Nat) (b : List Int) (w : World) (hC : Kd.C (Kd.int .u8) w A b.length b) (hc : b.length ≤ c) (hl : b.length < 140737488355328) (t0 t1 : List Int) (n2 n3 : Int) (l1 l2 l3 l4 : List Int) (q1 q2 q3 q4 : Bool)
    (e0 : someS b false 115 = (t0, l1, q1)) (k0 : okL b) (e1 : someS l1 q1 115 = (t1, l2, q2)) (k1 : okL l1) (e2 : uintS l2 q2 = (n2, l3, q3)) (k2 : okL l2) (e3 : uintS l3 q3 = (n3, l4, q4)) (k3 : okL l3) (good : Bool) (hg : good = (!false && decide (doneS l4 q4 = 0))) :
    Calls Try.prog 96 #[.slice A b.length c] w fun e w' => e = .returned (if good = true then .tuple #[.agg #[.string (strOfNums t0), .string (strOfNums t1), .int .u64 n2, .int .u64 n3, .slice none 0 0], .int .i64 0] else .tuple #[.agg #[.string ⟨#[]⟩, .string ⟨#[]⟩, .int .u64 0, .int .u64 0, .slice none 0 0], .int .i64 4]) ∧ Below w.heap.size w w' := by
  have hut := Try.underlying101
  have HB := Aside0.mk (Below.refl w.heap.size w)
  have HC := Aside0.mk hC
  have Hc := Aside0.mk hc
  have HLN := Aside0.mk hl
  have E0 := Aside0.mk e0
  have E1 := Aside0.mk e1
  have E2 := Aside0.mk e2
  have E3 := Aside0.mk e3
  have K0 := Aside0.mk k0
  have K1 := Aside0.mk k1
  have K2 := Aside0.mk k2
  have K3 := Aside0.mk k3
  have HG := Aside0.mk hg
  clear hC hc hl e0 e1 e2 e3 k0 k1 k2 k3 hg
  cases good with
  | true =>
      go_enter Try.func96, Try.ntmps96
      go_upto_region 2 with (first
        | ((with_reducible refine gate_dst (N := 2) rfl ?_); refine box_event ?hg (N := 2) ?hd (cs := #[.string ⟨#[]⟩, .string ⟨#[]⟩, .int .u64 0, .int .u64 0, .slice none 0 0]) (t := 101) ?hr ?_; (case hd => rfl); (case hg => rfl); (case hr => first | (go_simp; done) | (go_simp; rfl)); intro g2 hg wa hbox hb; have B2 := Aside0.mk hbox; have GE2 := Aside0.mk (by rw [hg]; exact below_size HB.out : w.heap.size ≤ g2); have nb_ := Aside0.mk (below_step HB.out hb); clear HB; have HB := nb_; clear nb_ hbox hb hg)
        | (go_at_call 151; (with_reducible refine (dread_any A c b _ (Kd.C_below HC.out HB.out) Hc.out HLN.out).mono ?_); rintro e wb ⟨g, gr, rfl, hge, hgr, hd, hb⟩; have N2 := Aside0.mk (show g2 ≠ gr from Nat.ne_of_lt (Nat.lt_of_lt_of_le (blk_lt B2.out) hgr)); have N2g := Aside0.mk (show g ≠ g2 from Nat.ne_of_gt (Nat.lt_of_lt_of_le (blk_lt B2.out) hge)); have x_ := Aside0.mk (blk_below B2.out hb); have GR := Aside0.mk (show w.heap.size ≤ gr from Nat.le_trans HB.out.size hgr); have NE := Aside0.mk hd.ne; have BG := Aside0.mk hd.blk; have HI := Aside0.mk hd.rd; have nb_ := Aside0.mk (below_step HB.out hb); clear B2 HB hge hgr hd hb; have B2 := x_; have HB := nb_; clear x_ nb_))
      (try simp only [Act.put, List.setIfInBounds_toArray, List.set_cons_zero, List.set_cons_succ])
      have M0 := Aside0.mk (fun W h => text_any gr b false W h K0.out)
      rw [E0.out] at M0
      have M1 := Aside0.mk (fun W h => text_any gr l1 q1 W h K1.out)
      rw [E1.out] at M1
      have M2 := Aside0.mk (fun W h => uint_any gr l2 q2 W h K2.out)
      rw [E2.out] at M2
      have M3 := Aside0.mk (fun W h => uint_any gr l3 q3 W h K3.out)
      rw [E3.out] at M3
      have WC := Aside0.mk (fun W h => whole_U g gr l4 q4 false (strOfNums t0) (strOfNums t1) n2 n3 W h true HG.out)
      rw [if_pos rfl] at WC
      have g_ := Aside0.mk (blk_drew BG.out)
      have x_ := Aside0.mk (blk_drew B2.out)
      have i_ := Aside0.mk (HI.out.below (below_drew1 (Below.refl _ _)))
      have nb_ := Aside0.mk (below_drew1 HB.out)
      clear BG B2 HI HB
      have BG := g_
      have B2 := x_
      have HI := i_
      have HB := nb_
      clear g_ x_ i_ nb_
      refine start_ (n := 27) (S := fun w' => w'.cell? ⟨g, 0, none⟩ = some (.pointer (some ⟨gr, 0, none⟩))) (ds := []) #[false, false, false, false, false, false, false, false, false, false, false, false, false, false, false, false, false, false, false, false, false, false, false, false, false, false, false] (by kernel_rfl) rfl rfl ((blk_cell BG.out 0).trans rfl) (fun hHeld => ?_)
      generalize World.drew wb = wd at BG B2 HI HB hHeld ⊢
      refine pure_ (i := 0) (N := some 7) (v := ?_) (a' := ?_) #[true, false, false, false, false, false, false, false, false, false, false, false, false, false, false, false, false, false, false, false, false, false, false, false, false, false, false] rfl rfl (by kernel_rfl) (fun _ _ _ h => h) (Or.inl ⟨by rfl, ?_⟩) ?_ ?_
      rotate_left
      · intro w'
        go_simp
        with_reducible rfl
      rotate_left
      · simp only [Act.put, List.setIfInBounds_toArray, List.set_cons_zero, List.set_cons_succ, i64_w, i32_w]
        rfl
      refine pure_ (i := 1) (N := some 8) (v := ?_) (a' := ?_) #[true, true, false, false, false, false, false, false, false, false, false, false, false, false, false, false, false, false, false, false, false, false, false, false, false, false, false] rfl rfl (by kernel_rfl) (fun _ _ _ h => h) (Or.inl ⟨by rfl, ?_⟩) ?_ ?_
      rotate_left
      · intro w'
        go_simp
        with_reducible rfl
      rotate_left
      · simp only [Act.put, List.setIfInBounds_toArray, List.set_cons_zero, List.set_cons_succ, i64_w, i32_w]
        rfl
      refine pure_ (i := 2) (N := some 9) (v := ?_) (a' := ?_) #[true, true, true, false, false, false, false, false, false, false, false, false, false, false, false, false, false, false, false, false, false, false, false, false, false, false, false] rfl rfl (by kernel_rfl) (fun _ _ _ h => h) (Or.inl ⟨by rfl, ?_⟩) ?_ ?_
      rotate_left
      · intro w'
        go_simp
        with_reducible rfl
      rotate_left
      · simp only [Act.put, List.setIfInBounds_toArray, List.set_cons_zero, List.set_cons_succ, i64_w, i32_w]
        rfl
      refine pure_ (i := 3) (N := some 10) (v := ?_) (a' := ?_) #[true, true, true, true, false, false, false, false, false, false, false, false, false, false, false, false, false, false, false, false, false, false, false, false, false, false, false] rfl rfl (by kernel_rfl) (fun _ _ _ h => h) (Or.inl ⟨by rfl, ?_⟩) ?_ ?_
      rotate_left
      · intro w'
        go_simp
        with_reducible rfl
      rotate_left
      · simp only [Act.put, List.setIfInBounds_toArray, List.set_cons_zero, List.set_cons_succ, i64_w, i32_w]
        rfl
      refine pure_ (i := 6) (N := some 13) (v := ?_) (a' := ?_) #[true, true, true, true, false, false, true, false, false, false, false, false, false, false, false, false, false, false, false, false, false, false, false, false, false, false, false] rfl rfl (by kernel_rfl) (fun _ _ _ h => h) (Or.inl ⟨by rfl, ?_⟩) ?_ ?_
      rotate_left
      · intro w'
        go_simp
        with_reducible rfl
      rotate_left
      · simp only [Act.put, List.setIfInBounds_toArray, List.set_cons_zero, List.set_cons_succ, i64_w, i32_w]
        rfl
      refine pure_ (i := 7) (N := some 14) (v := ?_) (a' := ?_) #[true, true, true, true, false, false, true, true, false, false, false, false, false, false, false, false, false, false, false, false, false, false, false, false, false, false, false] rfl rfl (by kernel_rfl) (fun _ _ _ h => h) (Or.inl ⟨by rfl, ?_⟩) ?_ ?_
      rotate_left
      · intro w'
        go_simp
        with_reducible rfl
      rotate_left
      · simp only [Act.put, List.setIfInBounds_toArray, List.set_cons_zero, List.set_cons_succ, i64_w, i32_w]
        rfl
      refine pure_ (i := 8) (N := some 15) (v := ?_) (a' := ?_) #[true, true, true, true, false, false, true, true, true, false, false, false, false, false, false, false, false, false, false, false, false, false, false, false, false, false, false] rfl rfl (by kernel_rfl) (fun _ _ _ h => h) (Or.inl ⟨by rfl, ?_⟩) ?_ ?_
      rotate_left
      · intro w'
        go_simp
        with_reducible rfl
      rotate_left
      · simp only [Act.put, List.setIfInBounds_toArray, List.set_cons_zero, List.set_cons_succ, i64_w, i32_w]
        rfl
      refine pure_ (i := 11) (N := some 18) (v := ?_) (a' := ?_) #[true, true, true, true, false, false, true, true, true, false, false, true, false, false, false, false, false, false, false, false, false, false, false, false, false, false, false] rfl rfl (by kernel_rfl) (fun _ _ _ h => h) (Or.inl ⟨by rfl, ?_⟩) ?_ ?_
      rotate_left
      · intro w'
        go_simp
        with_reducible rfl
      rotate_left
      · simp only [Act.put, List.setIfInBounds_toArray, List.set_cons_zero, List.set_cons_succ, i64_w, i32_w]
        rfl
      refine pure_ (i := 12) (N := some 19) (v := ?_) (a' := ?_) #[true, true, true, true, false, false, true, true, true, false, false, true, true, false, false, false, false, false, false, false, false, false, false, false, false, false, false] rfl rfl (by kernel_rfl) (fun _ _ _ h => h) (Or.inl ⟨by rfl, ?_⟩) ?_ ?_
      rotate_left
      · intro w'
        go_simp
        with_reducible rfl
      rotate_left
      · simp only [Act.put, List.setIfInBounds_toArray, List.set_cons_zero, List.set_cons_succ, i64_w, i32_w]
        rfl
      refine pure_ (i := 13) (N := some 20) (v := ?_) (a' := ?_) #[true, true, true, true, false, false, true, true, true, false, false, true, true, true, false, false, false, false, false, false, false, false, false, false, false, false, false] rfl rfl (by kernel_rfl) (fun _ _ _ h => h) (Or.inl ⟨by rfl, ?_⟩) ?_ ?_
      rotate_left
      · intro w'
        go_simp
        with_reducible rfl
      rotate_left
      · simp only [Act.put, List.setIfInBounds_toArray, List.set_cons_zero, List.set_cons_succ, i64_w, i32_w]
        rfl
      refine pure_ (i := 16) (N := some 23) (v := ?_) (a' := ?_) #[true, true, true, true, false, false, true, true, true, false, false, true, true, true, false, false, true, false, false, false, false, false, false, false, false, false, false] rfl rfl (by kernel_rfl) (fun _ _ _ h => h) (Or.inl ⟨by rfl, ?_⟩) ?_ ?_
      rotate_left
      · intro w'
        go_simp
        with_reducible rfl
      rotate_left
      · simp only [Act.put, List.setIfInBounds_toArray, List.set_cons_zero, List.set_cons_succ, i64_w, i32_w]
        rfl
      refine pure_ (i := 17) (N := some 24) (v := ?_) (a' := ?_) #[true, true, true, true, false, false, true, true, true, false, false, true, true, true, false, false, true, true, false, false, false, false, false, false, false, false, false] rfl rfl (by kernel_rfl) (fun _ _ _ h => h) (Or.inl ⟨by rfl, ?_⟩) ?_ ?_
      rotate_left
      · intro w'
        go_simp
        with_reducible rfl
      rotate_left
      · simp only [Act.put, List.setIfInBounds_toArray, List.set_cons_zero, List.set_cons_succ, i64_w, i32_w]
        rfl
      refine pure_ (i := 18) (N := some 25) (v := ?_) (a' := ?_) #[true, true, true, true, false, false, true, true, true, false, false, true, true, true, false, false, true, true, true, false, false, false, false, false, false, false, false] rfl rfl (by kernel_rfl) (fun _ _ _ h => h) (Or.inl ⟨by rfl, ?_⟩) ?_ ?_
      rotate_left
      · intro w'
        go_simp
        with_reducible rfl
      rotate_left
      · simp only [Act.put, List.setIfInBounds_toArray, List.set_cons_zero, List.set_cons_succ, i64_w, i32_w]
        rfl
      refine take_ (i := 4) (N := some 11) (v := ?_) (a' := ?_) #[true, true, true, true, true, false, true, true, true, false, false, true, true, true, false, false, true, true, true, false, false, false, false, false, false, false, false] rfl rfl (by kernel_rfl) (fun _ _ _ h => h) (Or.inl ⟨by rfl, ?_⟩) hHeld ?_ ?_
      rotate_left
      · intro w' s0
        go_simp
        with_reducible rfl
      rotate_left
      · simp only [Act.put, List.setIfInBounds_toArray, List.set_cons_zero, List.set_cons_succ, i64_w, i32_w]
        rfl
      refine take_ (i := 9) (N := some 16) (v := ?_) (a' := ?_) #[true, true, true, true, true, false, true, true, true, true, false, true, true, true, false, false, true, true, true, false, false, false, false, false, false, false, false] rfl rfl (by kernel_rfl) (fun _ _ _ h => h) (Or.inl ⟨by rfl, ?_⟩) hHeld ?_ ?_
      rotate_left
      · intro w' s0
        go_simp
        with_reducible rfl
      rotate_left
      · simp only [Act.put, List.setIfInBounds_toArray, List.set_cons_zero, List.set_cons_succ, i64_w, i32_w]
        rfl
      refine take_ (i := 14) (N := some 21) (v := ?_) (a' := ?_) #[true, true, true, true, true, false, true, true, true, true, false, true, true, true, true, false, true, true, true, false, false, false, false, false, false, false, false] rfl rfl (by kernel_rfl) (fun _ _ _ h => h) (Or.inl ⟨by rfl, ?_⟩) hHeld ?_ ?_
      rotate_left
      · intro w' s0
        go_simp
        with_reducible rfl
      rotate_left
      · simp only [Act.put, List.setIfInBounds_toArray, List.set_cons_zero, List.set_cons_succ, i64_w, i32_w]
        rfl
      refine take_ (i := 19) (N := some 26) (v := ?_) (a' := ?_) #[true, true, true, true, true, false, true, true, true, true, false, true, true, true, true, false, true, true, true, true, false, false, false, false, false, false, false] rfl rfl (by kernel_rfl) (fun _ _ _ h => h) (Or.inl ⟨by rfl, ?_⟩) hHeld ?_ ?_
      rotate_left
      · intro w' s0
        go_simp
        with_reducible rfl
      rotate_left
      · simp only [Act.put, List.setIfInBounds_toArray, List.set_cons_zero, List.set_cons_succ, i64_w, i32_w]
        rfl
      refine one_ (i := 5) (N := some 12) #[true, true, true, true, true, true, true, true, true, true, false, true, true, true, true, false, true, true, true, true, false, false, false, false, false, false, false] rfl rfl (by kernel_rfl) (by decide) (fun K hK => ?_)
      refine goes_ Try.func61 (by kernel_rfl) rfl #[.pointer (some ⟨gr, 0, none⟩)] (by rfl) rfl rfl (by first | (simp only [List.map_toArray, List.map_cons, List.map_nil]; done) | (simp only [List.map_toArray, List.map_cons, List.map_nil]; rfl)) ?_
      with_reducible refine (M0.out _ HI.out).mono ?_
      rintro e w1 ⟨rfl, hi, hw⟩
      refine ⟨_, rfl, ?_⟩
      have g_ := Aside0.mk (hw.blk BG.out (blk_lt BG.out) (Ne.symm NE.out))
      have x_ := Aside0.mk (hw.blk B2.out (blk_lt B2.out) N2.out)
      have nb_ := Aside0.mk (HB.out.trans ((hw.lower HB.out.size).below GR.out))
      clear BG B2 HB HI
      have BG := g_
      have B2 := x_
      have HB := nb_
      have HI := Aside0.mk hi
      clear g_ x_ nb_ hi hw
      refine hK.out _ _ ((blk_cell BG.out 0).trans rfl) (fun hHeld => ?_)
      clear hK K
      refine norm_ (a' := ?_) ?_ ?_
      rotate_left
      · show Act.put _ (some 12) _ = _
        simp only [Act.put, List.setIfInBounds_toArray, List.set_cons_zero, List.set_cons_succ, i64_w, i32_w]
        rfl
      refine one_ (i := 10) (N := some 17) #[true, true, true, true, true, true, true, true, true, true, true, true, true, true, true, false, true, true, true, true, false, false, false, false, false, false, false] rfl rfl (by kernel_rfl) (by decide) (fun K hK => ?_)
      refine goes_ Try.func61 (by kernel_rfl) rfl #[.pointer (some ⟨gr, 0, none⟩)] (by rfl) rfl rfl (by first | (simp only [List.map_toArray, List.map_cons, List.map_nil]; done) | (simp only [List.map_toArray, List.map_cons, List.map_nil]; rfl)) ?_
      with_reducible refine (M1.out _ HI.out).mono ?_
      rintro e w2 ⟨rfl, hi, hw⟩
      refine ⟨_, rfl, ?_⟩
      have g_ := Aside0.mk (hw.blk BG.out (blk_lt BG.out) (Ne.symm NE.out))
      have x_ := Aside0.mk (hw.blk B2.out (blk_lt B2.out) N2.out)
      have nb_ := Aside0.mk (HB.out.trans ((hw.lower HB.out.size).below GR.out))
      clear BG B2 HB HI
      have BG := g_
      have B2 := x_
      have HB := nb_
      have HI := Aside0.mk hi
      clear g_ x_ nb_ hi hw
      refine hK.out _ _ ((blk_cell BG.out 0).trans rfl) (fun hHeld => ?_)
      clear hK K
      refine norm_ (a' := ?_) ?_ ?_
      rotate_left
      · show Act.put _ (some 17) _ = _
        simp only [Act.put, List.setIfInBounds_toArray, List.set_cons_zero, List.set_cons_succ, i64_w, i32_w]
        rfl
      refine one_ (i := 15) (N := some 22) #[true, true, true, true, true, true, true, true, true, true, true, true, true, true, true, true, true, true, true, true, false, false, false, false, false, false, false] rfl rfl (by kernel_rfl) (by decide) (fun K hK => ?_)
      refine goes_ Try.func57 (by kernel_rfl) rfl #[.pointer (some ⟨gr, 0, none⟩)] (by rfl) rfl rfl (by first | (simp only [List.map_toArray, List.map_cons, List.map_nil]; done) | (simp only [List.map_toArray, List.map_cons, List.map_nil]; rfl)) ?_
      with_reducible refine (M2.out _ HI.out).mono ?_
      rintro e w3 ⟨rfl, hi, hw⟩
      refine ⟨_, rfl, ?_⟩
      have g_ := Aside0.mk (hw.blk BG.out (blk_lt BG.out) (Ne.symm NE.out))
      have x_ := Aside0.mk (hw.blk B2.out (blk_lt B2.out) N2.out)
      have nb_ := Aside0.mk (HB.out.trans ((hw.lower HB.out.size).below GR.out))
      clear BG B2 HB HI
      have BG := g_
      have B2 := x_
      have HB := nb_
      have HI := Aside0.mk hi
      clear g_ x_ nb_ hi hw
      refine hK.out _ _ ((blk_cell BG.out 0).trans rfl) (fun hHeld => ?_)
      clear hK K
      refine norm_ (a' := ?_) ?_ ?_
      rotate_left
      · show Act.put _ (some 22) _ = _
        simp only [Act.put, List.setIfInBounds_toArray, List.set_cons_zero, List.set_cons_succ, i64_w, i32_w]
        rfl
      refine one_ (i := 20) (N := some 27) #[true, true, true, true, true, true, true, true, true, true, true, true, true, true, true, true, true, true, true, true, true, false, false, false, false, false, false] rfl rfl (by kernel_rfl) (by decide) (fun K hK => ?_)
      refine goes_ Try.func57 (by kernel_rfl) rfl #[.pointer (some ⟨gr, 0, none⟩)] (by rfl) rfl rfl (by first | (simp only [List.map_toArray, List.map_cons, List.map_nil]; done) | (simp only [List.map_toArray, List.map_cons, List.map_nil]; rfl)) ?_
      with_reducible refine (M3.out _ HI.out).mono ?_
      rintro e w4 ⟨rfl, hi, hw⟩
      refine ⟨_, rfl, ?_⟩
      have g_ := Aside0.mk (hw.blk BG.out (blk_lt BG.out) (Ne.symm NE.out))
      have x_ := Aside0.mk (hw.blk B2.out (blk_lt B2.out) N2.out)
      have nb_ := Aside0.mk (HB.out.trans ((hw.lower HB.out.size).below GR.out))
      clear BG B2 HB HI
      have BG := g_
      have B2 := x_
      have HB := nb_
      have HI := Aside0.mk hi
      clear g_ x_ nb_ hi hw
      refine hK.out _ _ ((blk_cell BG.out 0).trans rfl) (fun hHeld => ?_)
      clear hK K
      refine norm_ (a' := ?_) ?_ ?_
      rotate_left
      · show Act.put _ (some 27) _ = _
        simp only [Act.put, List.setIfInBounds_toArray, List.set_cons_zero, List.set_cons_succ, i64_w, i32_w]
        rfl
      refine pure_ (i := 21) (N := some 28) (v := ?_) (a' := ?_) #[true, true, true, true, true, true, true, true, true, true, true, true, true, true, true, true, true, true, true, true, true, true, false, false, false, false, false] rfl rfl (by kernel_rfl) (fun _ _ _ h => h) (Or.inl ⟨by rfl, ?_⟩) ?_ ?_
      rotate_left
      · intro w'
        go_simp
        with_reducible rfl
      rotate_left
      · simp only [Act.put, List.setIfInBounds_toArray, List.set_cons_zero, List.set_cons_succ, i64_w, i32_w]
        rfl
      refine one_ (i := 22) (N := some 29) #[true, true, true, true, true, true, true, true, true, true, true, true, true, true, true, true, true, true, true, true, true, true, true, false, false, false, false] rfl rfl (by kernel_rfl) (by decide) (fun K hK => ?_)
      refine goes_ Try.func157 (by kernel_rfl) rfl #[.pointer (some ⟨g, 0, none⟩), .agg #[.string (strOfNums t0), .string (strOfNums t1), .int .u64 n2, .int .u64 n3, .slice none 0 0]] (by rfl) rfl rfl (by first | (simp only [List.map_toArray, List.map_cons, List.map_nil]; done) | (simp only [List.map_toArray, List.map_cons, List.map_nil]; rfl)) ?_
      with_reducible refine (WC.out _ ⟨BG.out, NE.out, HI.out⟩).mono ?_
      rintro e w5 ⟨rfl, hb⟩
      refine ⟨_, rfl, ?_⟩
      have g_ := Aside0.mk (blk_below BG.out hb)
      have x_ := Aside0.mk (blk_below B2.out hb)
      have nb_ := Aside0.mk (below_step HB.out hb)
      clear BG B2 HB HI hb
      have BG := g_
      have B2 := x_
      have HB := nb_
      clear g_ x_ nb_
      have hx0 := (blk_cell B2.out 0).trans (show _ = some (.string ⟨#[]⟩) from rfl)
      have hx1 := (blk_cell B2.out 1).trans (show _ = some (.string ⟨#[]⟩) from rfl)
      have hx2 := (blk_cell B2.out 2).trans (show _ = some (.int .u64 0) from rfl)
      have hx3 := (blk_cell B2.out 3).trans (show _ = some (.int .u64 0) from rfl)
      have hx4 := (blk_cell B2.out 4).trans (show _ = some (.slice none 0 0) from rfl)
      have fx0 := blk_frozen B2.out 0
      have fx1 := blk_frozen B2.out 1
      have fx2 := blk_frozen B2.out 2
      have fx3 := blk_frozen B2.out 3
      have fx4 := blk_frozen B2.out 4
      refine hK.out _ _ ((blk_cell BG.out 0).trans rfl) (fun hHeld => ?_)
      clear hK K
      refine norm_ (a' := ?_) ?_ ?_
      rotate_left
      · show Act.put _ (some 29) _ = _
        simp only [Act.put, List.setIfInBounds_toArray, List.set_cons_zero, List.set_cons_succ, i64_w, i32_w]
        rfl
      refine pure_ (i := 23) (N := some 30) (v := ?_) (a' := ?_) #[true, true, true, true, true, true, true, true, true, true, true, true, true, true, true, true, true, true, true, true, true, true, true, true, false, false, false] rfl rfl (by kernel_rfl) (fun _ _ _ h => h) (Or.inl ⟨by rfl, ?_⟩) ?_ ?_
      rotate_left
      · intro w'
        go_simp
        with_reducible rfl
      rotate_left
      · simp only [Act.put, List.setIfInBounds_toArray, List.set_cons_zero, List.set_cons_succ, i64_w, i32_w]
        rfl
      refine pure_ (i := 24) (N := some 31) (v := ?_) (a' := ?_) #[true, true, true, true, true, true, true, true, true, true, true, true, true, true, true, true, true, true, true, true, true, true, true, true, true, false, false] rfl rfl (by kernel_rfl) (fun _ _ _ h => h) (Or.inl ⟨by rfl, ?_⟩) ?_ ?_
      rotate_left
      · intro w'
        go_simp
        with_reducible rfl
      rotate_left
      · simp only [Act.put, List.setIfInBounds_toArray, List.set_cons_zero, List.set_cons_succ, i64_w, i32_w]
        rfl
      refine one_ (i := 25) (N := none) #[true, true, true, true, true, true, true, true, true, true, true, true, true, true, true, true, true, true, true, true, true, true, true, true, true, true, false] rfl rfl (by kernel_rfl) (by decide) (fun K hK => ?_)
      refine skip_ (w1 := (((((w5.setCell ⟨g2, 0, none⟩ (.string (strOfNums t0))).setCell ⟨g2, 1, none⟩ (.string (strOfNums t1))).setCell ⟨g2, 2, none⟩ (.int .u64 n2)).setCell ⟨g2, 3, none⟩ (.int .u64 n3)).setCell ⟨g2, 4, none⟩ (.slice none 0 0))) (by rfl) rfl ?_ ?_
      · go_simp
        try rfl
      have x_ := Aside0.mk (show (((((w5.setCell ⟨g2, 0, none⟩ (.string (strOfNums t0))).setCell ⟨g2, 1, none⟩ (.string (strOfNums t1))).setCell ⟨g2, 2, none⟩ (.int .u64 n2)).setCell ⟨g2, 3, none⟩ (.int .u64 n3)).setCell ⟨g2, 4, none⟩ (.slice none 0 0)).heap[g2]? = some (.cells #[.string (strOfNums t0), .string (strOfNums t1), .int .u64 n2, .int .u64 n3, .slice none 0 0] 101 (0, 0)) from (by refine blk_put (cs := #[.string (strOfNums t0), .string (strOfNums t1), .int .u64 n2, .int .u64 n3, .slice none 0 0]) ?_ 4 _ rfl; refine blk_put (cs := #[.string (strOfNums t0), .string (strOfNums t1), .int .u64 n2, .int .u64 0, .slice none 0 0]) ?_ 3 _ rfl; refine blk_put (cs := #[.string (strOfNums t0), .string (strOfNums t1), .int .u64 0, .int .u64 0, .slice none 0 0]) ?_ 2 _ rfl; refine blk_put (cs := #[.string (strOfNums t0), .string ⟨#[]⟩, .int .u64 0, .int .u64 0, .slice none 0 0]) ?_ 1 _ rfl; refine blk_put (cs := #[.string ⟨#[]⟩, .string ⟨#[]⟩, .int .u64 0, .int .u64 0, .slice none 0 0]) ?_ 0 _ rfl; exact B2.out))
      have g_ := Aside0.mk (show (((((w5.setCell ⟨g2, 0, none⟩ (.string (strOfNums t0))).setCell ⟨g2, 1, none⟩ (.string (strOfNums t1))).setCell ⟨g2, 2, none⟩ (.int .u64 n2)).setCell ⟨g2, 3, none⟩ (.int .u64 n3)).setCell ⟨g2, 4, none⟩ (.slice none 0 0)).heap[g]? = some (.cells #[.pointer (some ⟨gr, 0, none⟩), .bool false] 178 (0, 0)) from (by (iterate 5 (refine blk_far ?_ N2g.out _)); exact BG.out))
      have nb_ := Aside0.mk (show Below w.heap.size w (((((w5.setCell ⟨g2, 0, none⟩ (.string (strOfNums t0))).setCell ⟨g2, 1, none⟩ (.string (strOfNums t1))).setCell ⟨g2, 2, none⟩ (.int .u64 n2)).setCell ⟨g2, 3, none⟩ (.int .u64 n3)).setCell ⟨g2, 4, none⟩ (.slice none 0 0)) from (by (iterate 5 (refine below_set ?_ GE2.out)); exact HB.out))
      clear B2 BG HB hx0 fx0 hx1 fx1 hx2 fx2 hx3 fx3 hx4 fx4
      generalize (((((w5.setCell ⟨g2, 0, none⟩ (.string (strOfNums t0))).setCell ⟨g2, 1, none⟩ (.string (strOfNums t1))).setCell ⟨g2, 2, none⟩ (.int .u64 n2)).setCell ⟨g2, 3, none⟩ (.int .u64 n3)).setCell ⟨g2, 4, none⟩ (.slice none 0 0)) = w6 at x_ g_ nb_ ⊢
      have B2 := x_
      have BG := g_
      have HB := nb_
      clear x_ g_ nb_
      refine hK.out _ _ ((blk_cell BG.out 0).trans rfl) (fun hHeld => ?_)
      clear hK K
      refine pure_ (i := 26) (N := some 3) (v := ?_) (a' := ?_) #[true, true, true, true, true, true, true, true, true, true, true, true, true, true, true, true, true, true, true, true, true, true, true, true, true, true, true] rfl rfl (by kernel_rfl) (fun _ _ _ h => h) (Or.inl ⟨by rfl, ?_⟩) ?_ ?_
      rotate_left
      · intro w'
        go_simp
        with_reducible rfl
      rotate_left
      · simp only [Act.put, List.setIfInBounds_toArray, List.set_cons_zero, List.set_cons_succ, i64_w, i32_w]
        rfl
      refine done_ (by kernel_rfl) ?_
      go_wp2
      refine bodyPost_ret (results_cell_tmpR rfl _ _ g2 101 #[.string (strOfNums t0), .string (strOfNums t1), .int .u64 n2, .int .u64 n3, .slice none 0 0] (0, 0) _ (.int .i64 0) rfl B2.out Try.underlying101 rfl (by kernel_rfl) rfl) rfl ?_
      exact ⟨rfl, HB.out⟩
  | false =>
      go_enter Try.func96, Try.ntmps96
      go_upto_region 2 with (first
        | ((with_reducible refine gate_dst (N := 2) rfl ?_); refine box_event ?hg (N := 2) ?hd (cs := #[.string ⟨#[]⟩, .string ⟨#[]⟩, .int .u64 0, .int .u64 0, .slice none 0 0]) (t := 101) ?hr ?_; (case hd => rfl); (case hg => rfl); (case hr => first | (go_simp; done) | (go_simp; rfl)); intro g2 hg wa hbox hb; have B2 := Aside0.mk hbox; have GE2 := Aside0.mk (by rw [hg]; exact below_size HB.out : w.heap.size ≤ g2); have nb_ := Aside0.mk (below_step HB.out hb); clear HB; have HB := nb_; clear nb_ hbox hb hg)
        | (go_at_call 151; (with_reducible refine (dread_any A c b _ (Kd.C_below HC.out HB.out) Hc.out HLN.out).mono ?_); rintro e wb ⟨g, gr, rfl, hge, hgr, hd, hb⟩; have N2 := Aside0.mk (show g2 ≠ gr from Nat.ne_of_lt (Nat.lt_of_lt_of_le (blk_lt B2.out) hgr)); have N2g := Aside0.mk (show g ≠ g2 from Nat.ne_of_gt (Nat.lt_of_lt_of_le (blk_lt B2.out) hge)); have x_ := Aside0.mk (blk_below B2.out hb); have GR := Aside0.mk (show w.heap.size ≤ gr from Nat.le_trans HB.out.size hgr); have NE := Aside0.mk hd.ne; have BG := Aside0.mk hd.blk; have HI := Aside0.mk hd.rd; have nb_ := Aside0.mk (below_step HB.out hb); clear B2 HB hge hgr hd hb; have B2 := x_; have HB := nb_; clear x_ nb_))
      (try simp only [Act.put, List.setIfInBounds_toArray, List.set_cons_zero, List.set_cons_succ])
      have M0 := Aside0.mk (fun W h => text_any gr b false W h K0.out)
      rw [E0.out] at M0
      have M1 := Aside0.mk (fun W h => text_any gr l1 q1 W h K1.out)
      rw [E1.out] at M1
      have M2 := Aside0.mk (fun W h => uint_any gr l2 q2 W h K2.out)
      rw [E2.out] at M2
      have M3 := Aside0.mk (fun W h => uint_any gr l3 q3 W h K3.out)
      rw [E3.out] at M3
      have WC := Aside0.mk (fun W h => whole_U g gr l4 q4 false (strOfNums t0) (strOfNums t1) n2 n3 W h false HG.out)
      rw [if_neg (by decide)] at WC
      have g_ := Aside0.mk (blk_drew BG.out)
      have x_ := Aside0.mk (blk_drew B2.out)
      have i_ := Aside0.mk (HI.out.below (below_drew1 (Below.refl _ _)))
      have nb_ := Aside0.mk (below_drew1 HB.out)
      clear BG B2 HI HB
      have BG := g_
      have B2 := x_
      have HI := i_
      have HB := nb_
      clear g_ x_ i_ nb_
      refine start_ (n := 27) (S := fun w' => w'.cell? ⟨g, 0, none⟩ = some (.pointer (some ⟨gr, 0, none⟩))) (ds := []) #[false, false, false, false, false, false, false, false, false, false, false, false, false, false, false, false, false, false, false, false, false, false, false, false, false, false, false] (by kernel_rfl) rfl rfl ((blk_cell BG.out 0).trans rfl) (fun hHeld => ?_)
      generalize World.drew wb = wd at BG B2 HI HB hHeld ⊢
      refine pure_ (i := 0) (N := some 7) (v := ?_) (a' := ?_) #[true, false, false, false, false, false, false, false, false, false, false, false, false, false, false, false, false, false, false, false, false, false, false, false, false, false, false] rfl rfl (by kernel_rfl) (fun _ _ _ h => h) (Or.inl ⟨by rfl, ?_⟩) ?_ ?_
      rotate_left
      · intro w'
        go_simp
        with_reducible rfl
      rotate_left
      · simp only [Act.put, List.setIfInBounds_toArray, List.set_cons_zero, List.set_cons_succ, i64_w, i32_w]
        rfl
      refine pure_ (i := 1) (N := some 8) (v := ?_) (a' := ?_) #[true, true, false, false, false, false, false, false, false, false, false, false, false, false, false, false, false, false, false, false, false, false, false, false, false, false, false] rfl rfl (by kernel_rfl) (fun _ _ _ h => h) (Or.inl ⟨by rfl, ?_⟩) ?_ ?_
      rotate_left
      · intro w'
        go_simp
        with_reducible rfl
      rotate_left
      · simp only [Act.put, List.setIfInBounds_toArray, List.set_cons_zero, List.set_cons_succ, i64_w, i32_w]
        rfl
      refine pure_ (i := 2) (N := some 9) (v := ?_) (a' := ?_) #[true, true, true, false, false, false, false, false, false, false, false, false, false, false, false, false, false, false, false, false, false, false, false, false, false, false, false] rfl rfl (by kernel_rfl) (fun _ _ _ h => h) (Or.inl ⟨by rfl, ?_⟩) ?_ ?_
      rotate_left
      · intro w'
        go_simp
        with_reducible rfl
      rotate_left
      · simp only [Act.put, List.setIfInBounds_toArray, List.set_cons_zero, List.set_cons_succ, i64_w, i32_w]
        rfl
      refine pure_ (i := 3) (N := some 10) (v := ?_) (a' := ?_) #[true, true, true, true, false, false, false, false, false, false, false, false, false, false, false, false, false, false, false, false, false, false, false, false, false, false, false] rfl rfl (by kernel_rfl) (fun _ _ _ h => h) (Or.inl ⟨by rfl, ?_⟩) ?_ ?_
      rotate_left
      · intro w'
        go_simp
        with_reducible rfl
      rotate_left
      · simp only [Act.put, List.setIfInBounds_toArray, List.set_cons_zero, List.set_cons_succ, i64_w, i32_w]
        rfl
      refine pure_ (i := 6) (N := some 13) (v := ?_) (a' := ?_) #[true, true, true, true, false, false, true, false, false, false, false, false, false, false, false, false, false, false, false, false, false, false, false, false, false, false, false] rfl rfl (by kernel_rfl) (fun _ _ _ h => h) (Or.inl ⟨by rfl, ?_⟩) ?_ ?_
      rotate_left
      · intro w'
        go_simp
        with_reducible rfl
      rotate_left
      · simp only [Act.put, List.setIfInBounds_toArray, List.set_cons_zero, List.set_cons_succ, i64_w, i32_w]
        rfl
      refine pure_ (i := 7) (N := some 14) (v := ?_) (a' := ?_) #[true, true, true, true, false, false, true, true, false, false, false, false, false, false, false, false, false, false, false, false, false, false, false, false, false, false, false] rfl rfl (by kernel_rfl) (fun _ _ _ h => h) (Or.inl ⟨by rfl, ?_⟩) ?_ ?_
      rotate_left
      · intro w'
        go_simp
        with_reducible rfl
      rotate_left
      · simp only [Act.put, List.setIfInBounds_toArray, List.set_cons_zero, List.set_cons_succ, i64_w, i32_w]
        rfl
      refine pure_ (i := 8) (N := some 15) (v := ?_) (a' := ?_) #[true, true, true, true, false, false, true, true, true, false, false, false, false, false, false, false, false, false, false, false, false, false, false, false, false, false, false] rfl rfl (by kernel_rfl) (fun _ _ _ h => h) (Or.inl ⟨by rfl, ?_⟩) ?_ ?_
      rotate_left
      · intro w'
        go_simp
        with_reducible rfl
      rotate_left
      · simp only [Act.put, List.setIfInBounds_toArray, List.set_cons_zero, List.set_cons_succ, i64_w, i32_w]
        rfl
      refine pure_ (i := 11) (N := some 18) (v := ?_) (a' := ?_) #[true, true, true, true, false, false, true, true, true, false, false, true, false, false, false, false, false, false, false, false, false, false, false, false, false, false, false] rfl rfl (by kernel_rfl) (fun _ _ _ h => h) (Or.inl ⟨by rfl, ?_⟩) ?_ ?_
      rotate_left
      · intro w'
        go_simp
        with_reducible rfl
      rotate_left
      · simp only [Act.put, List.setIfInBounds_toArray, List.set_cons_zero, List.set_cons_succ, i64_w, i32_w]
        rfl
      refine pure_ (i := 12) (N := some 19) (v := ?_) (a' := ?_) #[true, true, true, true, false, false, true, true, true, false, false, true, true, false, false, false, false, false, false, false, false, false, false, false, false, false, false] rfl rfl (by kernel_rfl) (fun _ _ _ h => h) (Or.inl ⟨by rfl, ?_⟩) ?_ ?_
      rotate_left
      · intro w'
        go_simp
        with_reducible rfl
      rotate_left
      · simp only [Act.put, List.setIfInBounds_toArray, List.set_cons_zero, List.set_cons_succ, i64_w, i32_w]
        rfl
      refine pure_ (i := 13) (N := some 20) (v := ?_) (a' := ?_) #[true, true, true, true, false, false, true, true, true, false, false, true, true, true, false, false, false, false, false, false, false, false, false, false, false, false, false] rfl rfl (by kernel_rfl) (fun _ _ _ h => h) (Or.inl ⟨by rfl, ?_⟩) ?_ ?_
      rotate_left
      · intro w'
        go_simp
        with_reducible rfl
      rotate_left
      · simp only [Act.put, List.setIfInBounds_toArray, List.set_cons_zero, List.set_cons_succ, i64_w, i32_w]
        rfl
      refine pure_ (i := 16) (N := some 23) (v := ?_) (a' := ?_) #[true, true, true, true, false, false, true, true, true, false, false, true, true, true, false, false, true, false, false, false, false, false, false, false, false, false, false] rfl rfl (by kernel_rfl) (fun _ _ _ h => h) (Or.inl ⟨by rfl, ?_⟩) ?_ ?_
      rotate_left
      · intro w'
        go_simp
        with_reducible rfl
      rotate_left
      · simp only [Act.put, List.setIfInBounds_toArray, List.set_cons_zero, List.set_cons_succ, i64_w, i32_w]
        rfl
      refine pure_ (i := 17) (N := some 24) (v := ?_) (a' := ?_) #[true, true, true, true, false, false, true, true, true, false, false, true, true, true, false, false, true, true, false, false, false, false, false, false, false, false, false] rfl rfl (by kernel_rfl) (fun _ _ _ h => h) (Or.inl ⟨by rfl, ?_⟩) ?_ ?_
      rotate_left
      · intro w'
        go_simp
        with_reducible rfl
      rotate_left
      · simp only [Act.put, List.setIfInBounds_toArray, List.set_cons_zero, List.set_cons_succ, i64_w, i32_w]
        rfl
      refine pure_ (i := 18) (N := some 25) (v := ?_) (a' := ?_) #[true, true, true, true, false, false, true, true, true, false, false, true, true, true, false, false, true, true, true, false, false, false, false, false, false, false, false] rfl rfl (by kernel_rfl) (fun _ _ _ h => h) (Or.inl ⟨by rfl, ?_⟩) ?_ ?_
      rotate_left
      · intro w'
        go_simp
        with_reducible rfl
      rotate_left
      · simp only [Act.put, List.setIfInBounds_toArray, List.set_cons_zero, List.set_cons_succ, i64_w, i32_w]
        rfl
      refine take_ (i := 4) (N := some 11) (v := ?_) (a' := ?_) #[true, true, true, true, true, false, true, true, true, false, false, true, true, true, false, false, true, true, true, false, false, false, false, false, false, false, false] rfl rfl (by kernel_rfl) (fun _ _ _ h => h) (Or.inl ⟨by rfl, ?_⟩) hHeld ?_ ?_
      rotate_left
      · intro w' s0
        go_simp
        with_reducible rfl
      rotate_left
      · simp only [Act.put, List.setIfInBounds_toArray, List.set_cons_zero, List.set_cons_succ, i64_w, i32_w]
        rfl
      refine take_ (i := 9) (N := some 16) (v := ?_) (a' := ?_) #[true, true, true, true, true, false, true, true, true, true, false, true, true, true, false, false, true, true, true, false, false, false, false, false, false, false, false] rfl rfl (by kernel_rfl) (fun _ _ _ h => h) (Or.inl ⟨by rfl, ?_⟩) hHeld ?_ ?_
      rotate_left
      · intro w' s0
        go_simp
        with_reducible rfl
      rotate_left
      · simp only [Act.put, List.setIfInBounds_toArray, List.set_cons_zero, List.set_cons_succ, i64_w, i32_w]
        rfl
      refine take_ (i := 14) (N := some 21) (v := ?_) (a' := ?_) #[true, true, true, true, true, false, true, true, true, true, false, true, true, true, true, false, true, true, true, false, false, false, false, false, false, false, false] rfl rfl (by kernel_rfl) (fun _ _ _ h => h) (Or.inl ⟨by rfl, ?_⟩) hHeld ?_ ?_
      rotate_left
      · intro w' s0
        go_simp
        with_reducible rfl
      rotate_left
      · simp only [Act.put, List.setIfInBounds_toArray, List.set_cons_zero, List.set_cons_succ, i64_w, i32_w]
        rfl
      refine take_ (i := 19) (N := some 26) (v := ?_) (a' := ?_) #[true, true, true, true, true, false, true, true, true, true, false, true, true, true, true, false, true, true, true, true, false, false, false, false, false, false, false] rfl rfl (by kernel_rfl) (fun _ _ _ h => h) (Or.inl ⟨by rfl, ?_⟩) hHeld ?_ ?_
      rotate_left
      · intro w' s0
        go_simp
        with_reducible rfl
      rotate_left
      · simp only [Act.put, List.setIfInBounds_toArray, List.set_cons_zero, List.set_cons_succ, i64_w, i32_w]
        rfl
      refine one_ (i := 5) (N := some 12) #[true, true, true, true, true, true, true, true, true, true, false, true, true, true, true, false, true, true, true, true, false, false, false, false, false, false, false] rfl rfl (by kernel_rfl) (by decide) (fun K hK => ?_)
      refine goes_ Try.func61 (by kernel_rfl) rfl #[.pointer (some ⟨gr, 0, none⟩)] (by rfl) rfl rfl (by first | (simp only [List.map_toArray, List.map_cons, List.map_nil]; done) | (simp only [List.map_toArray, List.map_cons, List.map_nil]; rfl)) ?_
      with_reducible refine (M0.out _ HI.out).mono ?_
      rintro e w1 ⟨rfl, hi, hw⟩
      refine ⟨_, rfl, ?_⟩
      have g_ := Aside0.mk (hw.blk BG.out (blk_lt BG.out) (Ne.symm NE.out))
      have x_ := Aside0.mk (hw.blk B2.out (blk_lt B2.out) N2.out)
      have nb_ := Aside0.mk (HB.out.trans ((hw.lower HB.out.size).below GR.out))
      clear BG B2 HB HI
      have BG := g_
      have B2 := x_
      have HB := nb_
      have HI := Aside0.mk hi
      clear g_ x_ nb_ hi hw
      refine hK.out _ _ ((blk_cell BG.out 0).trans rfl) (fun hHeld => ?_)
      clear hK K
      refine norm_ (a' := ?_) ?_ ?_
      rotate_left
      · show Act.put _ (some 12) _ = _
        simp only [Act.put, List.setIfInBounds_toArray, List.set_cons_zero, List.set_cons_succ, i64_w, i32_w]
        rfl
      refine one_ (i := 10) (N := some 17) #[true, true, true, true, true, true, true, true, true, true, true, true, true, true, true, false, true, true, true, true, false, false, false, false, false, false, false] rfl rfl (by kernel_rfl) (by decide) (fun K hK => ?_)
      refine goes_ Try.func61 (by kernel_rfl) rfl #[.pointer (some ⟨gr, 0, none⟩)] (by rfl) rfl rfl (by first | (simp only [List.map_toArray, List.map_cons, List.map_nil]; done) | (simp only [List.map_toArray, List.map_cons, List.map_nil]; rfl)) ?_
      with_reducible refine (M1.out _ HI.out).mono ?_
      rintro e w2 ⟨rfl, hi, hw⟩
      refine ⟨_, rfl, ?_⟩
      have g_ := Aside0.mk (hw.blk BG.out (blk_lt BG.out) (Ne.symm NE.out))
      have x_ := Aside0.mk (hw.blk B2.out (blk_lt B2.out) N2.out)
      have nb_ := Aside0.mk (HB.out.trans ((hw.lower HB.out.size).below GR.out))
      clear BG B2 HB HI
      have BG := g_
      have B2 := x_
      have HB := nb_
      have HI := Aside0.mk hi
      clear g_ x_ nb_ hi hw
      refine hK.out _ _ ((blk_cell BG.out 0).trans rfl) (fun hHeld => ?_)
      clear hK K
      refine norm_ (a' := ?_) ?_ ?_
      rotate_left
      · show Act.put _ (some 17) _ = _
        simp only [Act.put, List.setIfInBounds_toArray, List.set_cons_zero, List.set_cons_succ, i64_w, i32_w]
        rfl
      refine one_ (i := 15) (N := some 22) #[true, true, true, true, true, true, true, true, true, true, true, true, true, true, true, true, true, true, true, true, false, false, false, false, false, false, false] rfl rfl (by kernel_rfl) (by decide) (fun K hK => ?_)
      refine goes_ Try.func57 (by kernel_rfl) rfl #[.pointer (some ⟨gr, 0, none⟩)] (by rfl) rfl rfl (by first | (simp only [List.map_toArray, List.map_cons, List.map_nil]; done) | (simp only [List.map_toArray, List.map_cons, List.map_nil]; rfl)) ?_
      with_reducible refine (M2.out _ HI.out).mono ?_
      rintro e w3 ⟨rfl, hi, hw⟩
      refine ⟨_, rfl, ?_⟩
      have g_ := Aside0.mk (hw.blk BG.out (blk_lt BG.out) (Ne.symm NE.out))
      have x_ := Aside0.mk (hw.blk B2.out (blk_lt B2.out) N2.out)
      have nb_ := Aside0.mk (HB.out.trans ((hw.lower HB.out.size).below GR.out))
      clear BG B2 HB HI
      have BG := g_
      have B2 := x_
      have HB := nb_
      have HI := Aside0.mk hi
      clear g_ x_ nb_ hi hw
      refine hK.out _ _ ((blk_cell BG.out 0).trans rfl) (fun hHeld => ?_)
      clear hK K
      refine norm_ (a' := ?_) ?_ ?_
      rotate_left
      · show Act.put _ (some 22) _ = _
        simp only [Act.put, List.setIfInBounds_toArray, List.set_cons_zero, List.set_cons_succ, i64_w, i32_w]
        rfl
      refine one_ (i := 20) (N := some 27) #[true, true, true, true, true, true, true, true, true, true, true, true, true, true, true, true, true, true, true, true, true, false, false, false, false, false, false] rfl rfl (by kernel_rfl) (by decide) (fun K hK => ?_)
      refine goes_ Try.func57 (by kernel_rfl) rfl #[.pointer (some ⟨gr, 0, none⟩)] (by rfl) rfl rfl (by first | (simp only [List.map_toArray, List.map_cons, List.map_nil]; done) | (simp only [List.map_toArray, List.map_cons, List.map_nil]; rfl)) ?_
      with_reducible refine (M3.out _ HI.out).mono ?_
      rintro e w4 ⟨rfl, hi, hw⟩
      refine ⟨_, rfl, ?_⟩
      have g_ := Aside0.mk (hw.blk BG.out (blk_lt BG.out) (Ne.symm NE.out))
      have x_ := Aside0.mk (hw.blk B2.out (blk_lt B2.out) N2.out)
      have nb_ := Aside0.mk (HB.out.trans ((hw.lower HB.out.size).below GR.out))
      clear BG B2 HB HI
      have BG := g_
      have B2 := x_
      have HB := nb_
      have HI := Aside0.mk hi
      clear g_ x_ nb_ hi hw
      refine hK.out _ _ ((blk_cell BG.out 0).trans rfl) (fun hHeld => ?_)
      clear hK K
      refine norm_ (a' := ?_) ?_ ?_
      rotate_left
      · show Act.put _ (some 27) _ = _
        simp only [Act.put, List.setIfInBounds_toArray, List.set_cons_zero, List.set_cons_succ, i64_w, i32_w]
        rfl
      refine pure_ (i := 21) (N := some 28) (v := ?_) (a' := ?_) #[true, true, true, true, true, true, true, true, true, true, true, true, true, true, true, true, true, true, true, true, true, true, false, false, false, false, false] rfl rfl (by kernel_rfl) (fun _ _ _ h => h) (Or.inl ⟨by rfl, ?_⟩) ?_ ?_
      rotate_left
      · intro w'
        go_simp
        with_reducible rfl
      rotate_left
      · simp only [Act.put, List.setIfInBounds_toArray, List.set_cons_zero, List.set_cons_succ, i64_w, i32_w]
        rfl
      refine one_ (i := 22) (N := some 29) #[true, true, true, true, true, true, true, true, true, true, true, true, true, true, true, true, true, true, true, true, true, true, true, false, false, false, false] rfl rfl (by kernel_rfl) (by decide) (fun K hK => ?_)
      refine goes_ Try.func157 (by kernel_rfl) rfl #[.pointer (some ⟨g, 0, none⟩), .agg #[.string (strOfNums t0), .string (strOfNums t1), .int .u64 n2, .int .u64 n3, .slice none 0 0]] (by rfl) rfl rfl (by first | (simp only [List.map_toArray, List.map_cons, List.map_nil]; done) | (simp only [List.map_toArray, List.map_cons, List.map_nil]; rfl)) ?_
      with_reducible refine (WC.out _ ⟨BG.out, NE.out, HI.out⟩).mono ?_
      rintro e w5 ⟨rfl, hb⟩
      refine ⟨_, rfl, ?_⟩
      have g_ := Aside0.mk (blk_below BG.out hb)
      have x_ := Aside0.mk (blk_below B2.out hb)
      have nb_ := Aside0.mk (below_step HB.out hb)
      clear BG B2 HB HI hb
      have BG := g_
      have B2 := x_
      have HB := nb_
      clear g_ x_ nb_
      have hx0 := (blk_cell B2.out 0).trans (show _ = some (.string ⟨#[]⟩) from rfl)
      have hx1 := (blk_cell B2.out 1).trans (show _ = some (.string ⟨#[]⟩) from rfl)
      have hx2 := (blk_cell B2.out 2).trans (show _ = some (.int .u64 0) from rfl)
      have hx3 := (blk_cell B2.out 3).trans (show _ = some (.int .u64 0) from rfl)
      have hx4 := (blk_cell B2.out 4).trans (show _ = some (.slice none 0 0) from rfl)
      have fx0 := blk_frozen B2.out 0
      have fx1 := blk_frozen B2.out 1
      have fx2 := blk_frozen B2.out 2
      have fx3 := blk_frozen B2.out 3
      have fx4 := blk_frozen B2.out 4
      refine hK.out _ _ ((blk_cell BG.out 0).trans rfl) (fun hHeld => ?_)
      clear hK K
      refine norm_ (a' := ?_) ?_ ?_
      rotate_left
      · show Act.put _ (some 29) _ = _
        simp only [Act.put, List.setIfInBounds_toArray, List.set_cons_zero, List.set_cons_succ, i64_w, i32_w]
        rfl
      refine pure_ (i := 23) (N := some 30) (v := ?_) (a' := ?_) #[true, true, true, true, true, true, true, true, true, true, true, true, true, true, true, true, true, true, true, true, true, true, true, true, false, false, false] rfl rfl (by kernel_rfl) (fun _ _ _ h => h) (Or.inl ⟨by rfl, ?_⟩) ?_ ?_
      rotate_left
      · intro w'
        go_simp
        with_reducible rfl
      rotate_left
      · simp only [Act.put, List.setIfInBounds_toArray, List.set_cons_zero, List.set_cons_succ, i64_w, i32_w]
        rfl
      refine pure_ (i := 24) (N := some 31) (v := ?_) (a' := ?_) #[true, true, true, true, true, true, true, true, true, true, true, true, true, true, true, true, true, true, true, true, true, true, true, true, true, false, false] rfl rfl (by kernel_rfl) (fun _ _ _ h => h) (Or.inl ⟨by rfl, ?_⟩) ?_ ?_
      rotate_left
      · intro w'
        go_simp
        with_reducible rfl
      rotate_left
      · simp only [Act.put, List.setIfInBounds_toArray, List.set_cons_zero, List.set_cons_succ, i64_w, i32_w]
        rfl
      refine one_ (i := 25) (N := none) #[true, true, true, true, true, true, true, true, true, true, true, true, true, true, true, true, true, true, true, true, true, true, true, true, true, true, false] rfl rfl (by kernel_rfl) (by decide) (fun K hK => ?_)
      refine skip_ (w1 := (((((w5.setCell ⟨g2, 0, none⟩ (.string ⟨#[]⟩)).setCell ⟨g2, 1, none⟩ (.string ⟨#[]⟩)).setCell ⟨g2, 2, none⟩ (.int .u64 0)).setCell ⟨g2, 3, none⟩ (.int .u64 0)).setCell ⟨g2, 4, none⟩ (.slice none 0 0))) (by rfl) rfl ?_ ?_
      · go_simp
        try rfl
      have x_ := Aside0.mk (show (((((w5.setCell ⟨g2, 0, none⟩ (.string ⟨#[]⟩)).setCell ⟨g2, 1, none⟩ (.string ⟨#[]⟩)).setCell ⟨g2, 2, none⟩ (.int .u64 0)).setCell ⟨g2, 3, none⟩ (.int .u64 0)).setCell ⟨g2, 4, none⟩ (.slice none 0 0)).heap[g2]? = some (.cells #[.string ⟨#[]⟩, .string ⟨#[]⟩, .int .u64 0, .int .u64 0, .slice none 0 0] 101 (0, 0)) from (by refine blk_put (cs := #[.string ⟨#[]⟩, .string ⟨#[]⟩, .int .u64 0, .int .u64 0, .slice none 0 0]) ?_ 4 _ rfl; refine blk_put (cs := #[.string ⟨#[]⟩, .string ⟨#[]⟩, .int .u64 0, .int .u64 0, .slice none 0 0]) ?_ 3 _ rfl; refine blk_put (cs := #[.string ⟨#[]⟩, .string ⟨#[]⟩, .int .u64 0, .int .u64 0, .slice none 0 0]) ?_ 2 _ rfl; refine blk_put (cs := #[.string ⟨#[]⟩, .string ⟨#[]⟩, .int .u64 0, .int .u64 0, .slice none 0 0]) ?_ 1 _ rfl; refine blk_put (cs := #[.string ⟨#[]⟩, .string ⟨#[]⟩, .int .u64 0, .int .u64 0, .slice none 0 0]) ?_ 0 _ rfl; exact B2.out))
      have g_ := Aside0.mk (show (((((w5.setCell ⟨g2, 0, none⟩ (.string ⟨#[]⟩)).setCell ⟨g2, 1, none⟩ (.string ⟨#[]⟩)).setCell ⟨g2, 2, none⟩ (.int .u64 0)).setCell ⟨g2, 3, none⟩ (.int .u64 0)).setCell ⟨g2, 4, none⟩ (.slice none 0 0)).heap[g]? = some (.cells #[.pointer (some ⟨gr, 0, none⟩), .bool false] 178 (0, 0)) from (by (iterate 5 (refine blk_far ?_ N2g.out _)); exact BG.out))
      have nb_ := Aside0.mk (show Below w.heap.size w (((((w5.setCell ⟨g2, 0, none⟩ (.string ⟨#[]⟩)).setCell ⟨g2, 1, none⟩ (.string ⟨#[]⟩)).setCell ⟨g2, 2, none⟩ (.int .u64 0)).setCell ⟨g2, 3, none⟩ (.int .u64 0)).setCell ⟨g2, 4, none⟩ (.slice none 0 0)) from (by (iterate 5 (refine below_set ?_ GE2.out)); exact HB.out))
      clear B2 BG HB hx0 fx0 hx1 fx1 hx2 fx2 hx3 fx3 hx4 fx4
      generalize (((((w5.setCell ⟨g2, 0, none⟩ (.string ⟨#[]⟩)).setCell ⟨g2, 1, none⟩ (.string ⟨#[]⟩)).setCell ⟨g2, 2, none⟩ (.int .u64 0)).setCell ⟨g2, 3, none⟩ (.int .u64 0)).setCell ⟨g2, 4, none⟩ (.slice none 0 0)) = w6 at x_ g_ nb_ ⊢
      have B2 := x_
      have BG := g_
      have HB := nb_
      clear x_ g_ nb_
      refine hK.out _ _ ((blk_cell BG.out 0).trans rfl) (fun hHeld => ?_)
      clear hK K
      refine pure_ (i := 26) (N := some 3) (v := ?_) (a' := ?_) #[true, true, true, true, true, true, true, true, true, true, true, true, true, true, true, true, true, true, true, true, true, true, true, true, true, true, true] rfl rfl (by kernel_rfl) (fun _ _ _ h => h) (Or.inl ⟨by rfl, ?_⟩) ?_ ?_
      rotate_left
      · intro w'
        go_simp
        with_reducible rfl
      rotate_left
      · simp only [Act.put, List.setIfInBounds_toArray, List.set_cons_zero, List.set_cons_succ, i64_w, i32_w]
        rfl
      refine done_ (by kernel_rfl) ?_
      go_wp2
      refine bodyPost_ret (results_cell_tmpR rfl _ _ g2 101 #[.string ⟨#[]⟩, .string ⟨#[]⟩, .int .u64 0, .int .u64 0, .slice none 0 0] (0, 0) _ (.int .i64 4) rfl B2.out Try.underlying101 rfl (by kernel_rfl) rfl) rfl ?_
      exact ⟨rfl, HB.out⟩
end Go.Proofs.Ytlnpmodhejakiaa.RW
