/- records.ReadBucket, ReadVersion, ReadClock: what they compute. -/
import Derived.Test.YtlnpmodhejakiaaYRecH
namespace Go.Proofs.Ytlnpmodhejakiaa.RW
open Go.RowKit Go.Proofs.YtlnpmodhejakiaaW.PrintWords Go.Proofs.YtlnpmodhejakiaaW.PrintLast Go.Proofs.YtlnpmodhejakiaaW.PrintMore Go.Proofs.Ytlnpmodhejakiaa.Sha Go.Proofs.Ytlnpmodhejakiaa.D Go.Proofs.Ytlnpmodhejakiaa.PC Go.Proofs.Ytlnpmodhejakiaa.CP
set_option linter.unusedVariables false
set_option linter.unusedSimpArgs false
theorem Wd.blk {g gr k : Nat} {w w' : World} {o : Obj} (h : Wd g gr w w') (hk : w.heap[k]? = some o) (h1 : k ≠ g) (h2 : k ≠ gr) : w'.heap[k]? = some o :=
  (h.block k (by have := Array.getElem?_eq_some_iff.1 hk; exact this.1) h1 h2).trans hk
theorem IsD.after {g gr : Nat} {w w' : World} {l l' : List Int} {bad bad' big : Bool} (h : IsD g gr w l bad big) (hr : IsR gr w' l' bad') (hW : Wr w.heap.size gr w w') : IsD g gr w' l' bad' big ∧ Wd g gr w w' :=
  ⟨⟨hW.blk h.blk (blk_lt h.blk) (Ne.symm h.ne), h.ne, hr⟩, Wd.of hW⟩
theorem dtext_any (g gr : Nat) (l : List Int) (bad big : Bool) (w : World) (h : IsD g gr w l bad big) (ho : okL l) :
    Calls Try.prog 61 #[.pointer (some ⟨gr, 0, none⟩)] w fun e w' => e = .returned (.string (strOfNums (someS l bad 115).1)) ∧ IsD g gr w' (someS l bad 115).2.1 (someS l bad 115).2.2 big ∧ Wd g gr w w' :=
  (text_any gr l bad w h.rd ho).mono fun e w' ⟨he, hi, hw⟩ => ⟨he, (h.after hi hw).1, (h.after hi hw).2⟩
theorem dbool_any (g gr : Nat) (l : List Int) (bad big : Bool) (w : World) (h : IsD g gr w l bad big) (ho : okL l) :
    Calls Try.prog 63 #[.pointer (some ⟨gr, 0, none⟩)] w fun e w' => e = .returned (.bool (boolS l bad).1) ∧ IsD g gr w' (boolS l bad).2.1 (boolS l bad).2.2 big ∧ Wd g gr w w' :=
  (bool_any gr l bad w h.rd ho).mono fun e w' ⟨he, hi, hw⟩ => ⟨he, (h.after hi hw).1, (h.after hi hw).2⟩
theorem IsR.box {gx g : Nat} {w w' : World} {l : List Int} {bad : Bool} {cs : Array Value} {T : TypeId} (h : IsR g w l bad) (hx : w.heap[gx]? = some (.cells cs T (0, 0))) (hno : ∀ v ∈ cs.toList, ∀ x, v ≠ Value.int .u8 x) (hW : Wr w.heap.size gx w w') (hne : g ≠ gx) : IsR g w' l bad := by
  obtain ⟨A, k, h1, h2, h3, h4⟩ := h
  refine ⟨A, k, hW.blk h1 (blk_lt h1) hne, C_wr' h2 hW (fun h0 ad hA hb => ?_), h3, h4⟩
  obtain ⟨ad', e, hc⟩ := C_at h2 0 h0
  rw [hA] at e
  cases e
  have hb' : (ad.add 0).block = gx := by rw [← hb]; unfold Addr.add; split <;> rfl
  exact hno _ (cell_inR hc (by rw [hb']; exact hx)) _ rfl
theorem IsD.box {gx g gr : Nat} {w w' : World} {l : List Int} {bad big : Bool} {cs : Array Value} {T : TypeId} (h : IsD g gr w l bad big) (hx : w.heap[gx]? = some (.cells cs T (0, 0))) (hno : ∀ v ∈ cs.toList, ∀ x, v ≠ Value.int .u8 x) (hW : Wr w.heap.size gx w w') (h1 : g ≠ gx) (h2 : gr ≠ gx) : IsD g gr w' l bad big :=
  ⟨hW.blk h.blk (blk_lt h.blk) h1, h.ne, IsR.box h.rd hx hno hW h2⟩
set_option maxHeartbeats 64000000 in
set_option maxRecDepth 100000 in
theorem readB (A : Option Addr) (c : Nat) (b : List Int) (w : World) (hC : Kd.C (Kd.int .u8) w A b.length b) (hc : b.length ≤ c) (hl : b.length < 140737488355328) (v0 : List Int) (v1 : Int) (v2 : Bool) (v3 : Bool) (v4 : Int) (v5 : Int) (v6 : List Int) (v7 : Int) (v8 : Int) (l1 l2 l3 l4 l5 l6 l7 l8 l9 : List Int) (q1 q2 q3 q4 q5 q6 q7 q8 q9 : Bool)
    (e0 : someS b false 115 = (v0, l1, q1)) (k0 : okL b) (e1 : uintS l1 q1 = (v1, l2, q2)) (k1 : okL l1) (e2 : boolS l2 q2 = (v2, l3, q3)) (k2 : okL l2) (e3 : boolS l3 q3 = (v3, l4, q4)) (k3 : okL l3) (e4 : uintS l4 q4 = (v4, l5, q5)) (k4 : okL l4) (e5 : uintS l5 q5 = (v5, l6, q6)) (k5 : okL l5) (e6 : someS l6 q6 115 = (v6, l7, q7)) (k6 : okL l6) (e7 : uintS l7 q7 = (v7, l8, q8)) (k7 : okL l7) (e8 : uintS l8 q8 = (v8, l9, q9)) (k8 : okL l8) (g1 : 0 ≤ v1 ∧ v1 ≤ 18446744073709551615) (g4 : 0 ≤ v4 ∧ v4 ≤ 18446744073709551615) (g5 : 0 ≤ v5 ∧ v5 ≤ 18446744073709551615) (g7 : 0 ≤ v7 ∧ v7 ≤ 18446744073709551615) (g8 : 0 ≤ v8 ∧ v8 ≤ 18446744073709551615) (good : Bool) (hg : good = (!(((((false || decide (2147483647 < v1)) || decide (2147483647 < v4)) || decide (2147483647 < v5)) || decide (2147483647 < v7)) || decide (2147483647 < v8)) && decide (doneS l9 q9 = 0))) :
    Calls Try.prog 91 #[.slice A b.length c] w fun e w' => e = .returned (if good = true then .tuple #[.agg #[.string (strOfNums v0), .int .i64 (mn v1 2147483647), .bool v2, .bool v3, .int .i64 (mn v4 2147483647), .int .i64 (mn v5 2147483647), .string (strOfNums v6), .int .i64 (mn v7 2147483647), .int .i64 (mn v8 2147483647)], .int .i64 0] else .tuple #[.agg #[.string ⟨#[]⟩, .int .i64 0, .bool false, .bool false, .int .i64 0, .int .i64 0, .string ⟨#[]⟩, .int .i64 0, .int .i64 0], .int .i64 4]) ∧ Below w.heap.size w w' := by
  have hut := Try.underlying89
  have HB := Aside0.mk (Below.refl w.heap.size w)
  have HC := Aside0.mk hC
  have Hc := Aside0.mk hc
  have HLN := Aside0.mk hl
  have HG := Aside0.mk hg
  have E0 := Aside0.mk e0
  have K0 := Aside0.mk k0
  have E1 := Aside0.mk e1
  have K1 := Aside0.mk k1
  have E2 := Aside0.mk e2
  have K2 := Aside0.mk k2
  have E3 := Aside0.mk e3
  have K3 := Aside0.mk k3
  have E4 := Aside0.mk e4
  have K4 := Aside0.mk k4
  have E5 := Aside0.mk e5
  have K5 := Aside0.mk k5
  have E6 := Aside0.mk e6
  have K6 := Aside0.mk k6
  have E7 := Aside0.mk e7
  have K7 := Aside0.mk k7
  have E8 := Aside0.mk e8
  have K8 := Aside0.mk k8
  have G1 := Aside0.mk g1
  have G4 := Aside0.mk g4
  have G5 := Aside0.mk g5
  have G7 := Aside0.mk g7
  have G8 := Aside0.mk g8
  clear hC hc hl hg e0 k0 e1 k1 e2 k2 e3 k3 e4 k4 e5 k5 e6 k6 e7 k7 e8 k8 g1 g4 g5 g7 g8
  go_enter Try.func91, Try.ntmps91
  go_upto_region 2 with (first
    | ((with_reducible refine gate_dst (N := 2) rfl ?_); refine box_event ?hg (N := 2) ?hd (cs := #[.string ⟨#[]⟩, .int .i64 0, .bool false, .bool false, .int .i64 0, .int .i64 0, .string ⟨#[]⟩, .int .i64 0, .int .i64 0]) (t := 89) ?hr ?_; (case hd => rfl); (case hg => rfl); (case hr => first | (go_simp; done) | (go_simp; rfl)); intro g2 hg wa hbox hb; have B2 := Aside0.mk hbox; have GE2 := Aside0.mk (by rw [hg]; exact below_size HB.out : w.heap.size ≤ g2); have nb_ := Aside0.mk (below_step HB.out hb); clear HB; have HB := nb_; clear nb_ hbox hb hg)
    | (go_at_call 151; (with_reducible refine (dread_any A c b _ (Kd.C_below HC.out HB.out) Hc.out HLN.out).mono ?_); rintro e wb ⟨g, gr, rfl, hge, hgr, hd, hb⟩; have N2r := Aside0.mk (show g2 ≠ gr from Nat.ne_of_lt (Nat.lt_of_lt_of_le (blk_lt B2.out) hgr)); have N2g := Aside0.mk (show g2 ≠ g from Nat.ne_of_lt (Nat.lt_of_lt_of_le (blk_lt B2.out) hge)); have x_ := Aside0.mk (blk_below B2.out hb); have GR := Aside0.mk (show w.heap.size ≤ gr from Nat.le_trans HB.out.size hgr); have GG := Aside0.mk (show w.heap.size ≤ g from Nat.le_trans HB.out.size hge); have HD := Aside0.mk hd; have nb_ := Aside0.mk (below_step HB.out hb); clear B2 HB hge hgr hd hb; have B2 := x_; have HB := nb_; clear x_ nb_))
  (try simp only [Act.put, List.setIfInBounds_toArray, List.set_cons_zero, List.set_cons_succ])
  have M0 := Aside0.mk (fun W h => dtext_any g gr b false false W h K0.out)
  rw [E0.out] at M0
  have M1 := Aside0.mk (fun W h => dint_any g gr l1 q1 false W h K1.out v1 l2 q2 E1.out G1.out (false || decide (2147483647 < v1)) rfl)
  have M2 := Aside0.mk (fun W h => dbool_any g gr l2 q2 (false || decide (2147483647 < v1)) W h K2.out)
  rw [E2.out] at M2
  have M3 := Aside0.mk (fun W h => dbool_any g gr l3 q3 (false || decide (2147483647 < v1)) W h K3.out)
  rw [E3.out] at M3
  have M4 := Aside0.mk (fun W h => dint_any g gr l4 q4 (false || decide (2147483647 < v1)) W h K4.out v4 l5 q5 E4.out G4.out ((false || decide (2147483647 < v1)) || decide (2147483647 < v4)) rfl)
  have M5 := Aside0.mk (fun W h => dint_any g gr l5 q5 ((false || decide (2147483647 < v1)) || decide (2147483647 < v4)) W h K5.out v5 l6 q6 E5.out G5.out (((false || decide (2147483647 < v1)) || decide (2147483647 < v4)) || decide (2147483647 < v5)) rfl)
  have M6 := Aside0.mk (fun W h => dtext_any g gr l6 q6 (((false || decide (2147483647 < v1)) || decide (2147483647 < v4)) || decide (2147483647 < v5)) W h K6.out)
  rw [E6.out] at M6
  have M7 := Aside0.mk (fun W h => dint_any g gr l7 q7 (((false || decide (2147483647 < v1)) || decide (2147483647 < v4)) || decide (2147483647 < v5)) W h K7.out v7 l8 q8 E7.out G7.out ((((false || decide (2147483647 < v1)) || decide (2147483647 < v4)) || decide (2147483647 < v5)) || decide (2147483647 < v7)) rfl)
  have M8 := Aside0.mk (fun W h => dint_any g gr l8 q8 ((((false || decide (2147483647 < v1)) || decide (2147483647 < v4)) || decide (2147483647 < v5)) || decide (2147483647 < v7)) W h K8.out v8 l9 q9 E8.out G8.out (((((false || decide (2147483647 < v1)) || decide (2147483647 < v4)) || decide (2147483647 < v5)) || decide (2147483647 < v7)) || decide (2147483647 < v8)) rfl)
  have HD_ := Aside0.mk (HD.out.below (below_drew1 (Below.refl _ _)))
  have B2_ := Aside0.mk (blk_drew B2.out)
  have HB_ := Aside0.mk (below_drew1 HB.out)
  clear HD B2 HB 
  have HD := HD_
  have B2 := B2_
  have HB := HB_
  clear HD_ B2_ HB_
  refine start_ (n := 20) (S := fun w' => w'.cell? ⟨g, 0, none⟩ = some (.pointer (some ⟨gr, 0, none⟩))) (ds := []) #[false, false, false, false, false, false, false, false, false, false, false, false, false, false, false, false, false, false, false, false] (by kernel_rfl) rfl rfl ((blk_cell HD.out.blk 0).trans rfl) (fun hHeld => ?_)
  generalize World.drew wb = wd2 at HD B2 HB hHeld ⊢
  refine pure_ (i := 0) (N := some 8) (v := ?_) (a' := ?_) #[true, false, false, false, false, false, false, false, false, false, false, false, false, false, false, false, false, false, false, false] rfl rfl (by kernel_rfl) (fun _ _ _ h => h) (Or.inl ⟨by rfl, ?_⟩) ?_ ?_
  rotate_left
  · intro w'
    go_simp
    with_reducible rfl
  rotate_left
  · simp only [Act.put, List.setIfInBounds_toArray, List.set_cons_zero, List.set_cons_succ, i64_w, i32_w]
    rfl
  refine pure_ (i := 1) (N := some 9) (v := ?_) (a' := ?_) #[true, true, false, false, false, false, false, false, false, false, false, false, false, false, false, false, false, false, false, false] rfl rfl (by kernel_rfl) (fun _ _ _ h => h) (Or.inl ⟨by rfl, ?_⟩) ?_ ?_
  rotate_left
  · intro w'
    go_simp
    with_reducible rfl
  rotate_left
  · simp only [Act.put, List.setIfInBounds_toArray, List.set_cons_zero, List.set_cons_succ, i64_w, i32_w]
    rfl
  refine pure_ (i := 2) (N := some 10) (v := ?_) (a' := ?_) #[true, true, true, false, false, false, false, false, false, false, false, false, false, false, false, false, false, false, false, false] rfl rfl (by kernel_rfl) (fun _ _ _ h => h) (Or.inl ⟨by rfl, ?_⟩) ?_ ?_
  rotate_left
  · intro w'
    go_simp
    with_reducible rfl
  rotate_left
  · simp only [Act.put, List.setIfInBounds_toArray, List.set_cons_zero, List.set_cons_succ, i64_w, i32_w]
    rfl
  refine pure_ (i := 5) (N := some 13) (v := ?_) (a' := ?_) #[true, true, true, false, false, true, false, false, false, false, false, false, false, false, false, false, false, false, false, false] rfl rfl (by kernel_rfl) (fun _ _ _ h => h) (Or.inl ⟨by rfl, ?_⟩) ?_ ?_
  rotate_left
  · intro w'
    go_simp
    with_reducible rfl
  rotate_left
  · simp only [Act.put, List.setIfInBounds_toArray, List.set_cons_zero, List.set_cons_succ, i64_w, i32_w]
    rfl
  refine pure_ (i := 7) (N := some 15) (v := ?_) (a' := ?_) #[true, true, true, false, false, true, false, true, false, false, false, false, false, false, false, false, false, false, false, false] rfl rfl (by kernel_rfl) (fun _ _ _ h => h) (Or.inl ⟨by rfl, ?_⟩) ?_ ?_
  rotate_left
  · intro w'
    go_simp
    with_reducible rfl
  rotate_left
  · simp only [Act.put, List.setIfInBounds_toArray, List.set_cons_zero, List.set_cons_succ, i64_w, i32_w]
    rfl
  refine pure_ (i := 8) (N := some 16) (v := ?_) (a' := ?_) #[true, true, true, false, false, true, false, true, true, false, false, false, false, false, false, false, false, false, false, false] rfl rfl (by kernel_rfl) (fun _ _ _ h => h) (Or.inl ⟨by rfl, ?_⟩) ?_ ?_
  rotate_left
  · intro w'
    go_simp
    with_reducible rfl
  rotate_left
  · simp only [Act.put, List.setIfInBounds_toArray, List.set_cons_zero, List.set_cons_succ, i64_w, i32_w]
    rfl
  refine pure_ (i := 9) (N := some 17) (v := ?_) (a' := ?_) #[true, true, true, false, false, true, false, true, true, true, false, false, false, false, false, false, false, false, false, false] rfl rfl (by kernel_rfl) (fun _ _ _ h => h) (Or.inl ⟨by rfl, ?_⟩) ?_ ?_
  rotate_left
  · intro w'
    go_simp
    with_reducible rfl
  rotate_left
  · simp only [Act.put, List.setIfInBounds_toArray, List.set_cons_zero, List.set_cons_succ, i64_w, i32_w]
    rfl
  refine pure_ (i := 12) (N := some 20) (v := ?_) (a' := ?_) #[true, true, true, false, false, true, false, true, true, true, false, false, true, false, false, false, false, false, false, false] rfl rfl (by kernel_rfl) (fun _ _ _ h => h) (Or.inl ⟨by rfl, ?_⟩) ?_ ?_
  rotate_left
  · intro w'
    go_simp
    with_reducible rfl
  rotate_left
  · simp only [Act.put, List.setIfInBounds_toArray, List.set_cons_zero, List.set_cons_succ, i64_w, i32_w]
    rfl
  refine pure_ (i := 13) (N := some 21) (v := ?_) (a' := ?_) #[true, true, true, false, false, true, false, true, true, true, false, false, true, true, false, false, false, false, false, false] rfl rfl (by kernel_rfl) (fun _ _ _ h => h) (Or.inl ⟨by rfl, ?_⟩) ?_ ?_
  rotate_left
  · intro w'
    go_simp
    with_reducible rfl
  rotate_left
  · simp only [Act.put, List.setIfInBounds_toArray, List.set_cons_zero, List.set_cons_succ, i64_w, i32_w]
    rfl
  refine pure_ (i := 14) (N := some 22) (v := ?_) (a' := ?_) #[true, true, true, false, false, true, false, true, true, true, false, false, true, true, true, false, false, false, false, false] rfl rfl (by kernel_rfl) (fun _ _ _ h => h) (Or.inl ⟨by rfl, ?_⟩) ?_ ?_
  rotate_left
  · intro w'
    go_simp
    with_reducible rfl
  rotate_left
  · simp only [Act.put, List.setIfInBounds_toArray, List.set_cons_zero, List.set_cons_succ, i64_w, i32_w]
    rfl
  refine take_ (i := 3) (N := some 11) (v := ?_) (a' := ?_) #[true, true, true, true, false, true, false, true, true, true, false, false, true, true, true, false, false, false, false, false] rfl rfl (by kernel_rfl) (fun _ _ _ h => h) (Or.inl ⟨by rfl, ?_⟩) hHeld ?_ ?_
  rotate_left
  · intro w' s0
    go_simp
    with_reducible rfl
  rotate_left
  · simp only [Act.put, List.setIfInBounds_toArray, List.set_cons_zero, List.set_cons_succ, i64_w, i32_w]
    rfl
  refine take_ (i := 10) (N := some 18) (v := ?_) (a' := ?_) #[true, true, true, true, false, true, false, true, true, true, true, false, true, true, true, false, false, false, false, false] rfl rfl (by kernel_rfl) (fun _ _ _ h => h) (Or.inl ⟨by rfl, ?_⟩) hHeld ?_ ?_
  rotate_left
  · intro w' s0
    go_simp
    with_reducible rfl
  rotate_left
  · simp only [Act.put, List.setIfInBounds_toArray, List.set_cons_zero, List.set_cons_succ, i64_w, i32_w]
    rfl
  refine take_ (i := 15) (N := some 23) (v := ?_) (a' := ?_) #[true, true, true, true, false, true, false, true, true, true, true, false, true, true, true, true, false, false, false, false] rfl rfl (by kernel_rfl) (fun _ _ _ h => h) (Or.inl ⟨by rfl, ?_⟩) hHeld ?_ ?_
  rotate_left
  · intro w' s0
    go_simp
    with_reducible rfl
  rotate_left
  · simp only [Act.put, List.setIfInBounds_toArray, List.set_cons_zero, List.set_cons_succ, i64_w, i32_w]
    rfl
  refine join_ (σ := Nat) 1 #[true, true, true, true, true, true, true, true, true, true, true, true, true, true, true, true, true, true, true, false] (fun s => [(12, .string (strOfNums v0)), (14, .int .i64 (mn v1 2147483647)), (19, .bool v2), (24, .bool v3), (5, .pointer (some ⟨s, 0, none⟩)), (25, .agg #[.string (strOfNums v0), .int .i64 (mn v1 2147483647), .bool v2, .bool v3, .int .i64 0, .int .i64 0, .string ⟨#[]⟩, .int .i64 0, .int .i64 0])]) (fun s w' => IsD g gr w' l4 q4 (false || decide (2147483647 < v1)) ∧ w'.heap[g2]? = some (.cells #[.string ⟨#[]⟩, .int .i64 0, .bool false, .bool false, .int .i64 0, .int .i64 0, .string ⟨#[]⟩, .int .i64 0, .int .i64 0] 89 (0, 0)) ∧ w'.heap[s]? = some (.cells #[.string ⟨#[]⟩, .int .i64 0, .bool false, .bool false, .int .i64 0, .int .i64 0, .string ⟨#[]⟩, .int .i64 0, .int .i64 0] 89 (0, 0)) ∧ Below w.heap.size w w' ∧ s ≠ g ∧ s ≠ gr ∧ g2 ≠ s ∧ w.heap.size ≤ s) ?_ ?_
  rotate_left
  · intro hCont
    refine two_ (i := 4) (j := 18) (Ni := some 12) (Nj := some 5) #[true, true, true, true, true, true, false, true, true, true, true, false, true, true, true, true, false, false, false, false] #[true, true, true, true, false, true, false, true, true, true, true, false, true, true, true, true, false, false, true, false] rfl rfl rfl rfl (by kernel_rfl) (by decide) (by decide) (fun K hK => ?_) (fun K hK => ?_)
    · skip
      refine goes_ Try.func61 (by kernel_rfl) rfl #[.pointer (some ⟨gr, 0, none⟩)] (by rfl) rfl rfl (by first | (simp only [List.map_toArray, List.map_cons, List.map_nil]; done) | (simp only [List.map_toArray, List.map_cons, List.map_nil]; rfl)) ?_
      with_reducible refine (M0.out _ HD.out).mono ?_
      rintro e w2_4 ⟨rfl, hd, hw⟩
      refine ⟨_, rfl, ?_⟩
      have HD_ := Aside0.mk hd
      have HB_ := Aside0.mk (HB.out.trans (hw.below GG.out GR.out HB.out.size))
      have B2_ := Aside0.mk (hw.blk B2.out N2g.out N2r.out)
      clear HD HB B2 hd hw
      have HD := HD_
      have HB := HB_
      have B2 := B2_
      clear HD_ HB_ B2_
      refine hK.out _ _ ((blk_cell HD.out.blk 0).trans rfl) (fun hHeld => ?_)
      clear hK K
      refine norm_ (a' := ?_) ?_ ?_
      rotate_left
      · show Act.put _ (some 12) _ = _
        simp only [Act.put, List.setIfInBounds_toArray, List.set_cons_zero, List.set_cons_succ, i64_w, i32_w]
        rfl
      refine two_ (i := 6) (j := 18) (Ni := some 14) (Nj := some 5) #[true, true, true, true, true, true, true, true, true, true, true, false, true, true, true, true, false, false, false, false] #[true, true, true, true, true, true, false, true, true, true, true, false, true, true, true, true, false, false, true, false] rfl rfl rfl rfl (by kernel_rfl) (by decide) (by decide) (fun K hK => ?_) (fun K hK => ?_)
      · skip
        refine goes_ Try.func152 (by kernel_rfl) rfl #[.pointer (some ⟨g, 0, none⟩)] (by rfl) rfl rfl (by first | (simp only [List.map_toArray, List.map_cons, List.map_nil]; done) | (simp only [List.map_toArray, List.map_cons, List.map_nil]; rfl)) ?_
        with_reducible refine (M1.out _ HD.out).mono ?_
        rintro e w2_6 ⟨rfl, hd, hw⟩
        refine ⟨_, rfl, ?_⟩
        have HD_ := Aside0.mk hd
        have HB_ := Aside0.mk (HB.out.trans (hw.below GG.out GR.out HB.out.size))
        have B2_ := Aside0.mk (hw.blk B2.out N2g.out N2r.out)
        clear HD HB B2 hd hw
        have HD := HD_
        have HB := HB_
        have B2 := B2_
        clear HD_ HB_ B2_
        refine hK.out _ _ ((blk_cell HD.out.blk 0).trans rfl) (fun hHeld => ?_)
        clear hK K
        refine norm_ (a' := ?_) ?_ ?_
        rotate_left
        · show Act.put _ (some 14) _ = _
          simp only [Act.put, List.setIfInBounds_toArray, List.set_cons_zero, List.set_cons_succ, i64_w, i32_w]
          rfl
        refine two_ (i := 11) (j := 18) (Ni := some 19) (Nj := some 5) #[true, true, true, true, true, true, true, true, true, true, true, true, true, true, true, true, false, false, false, false] #[true, true, true, true, true, true, true, true, true, true, true, false, true, true, true, true, false, false, true, false] rfl rfl rfl rfl (by kernel_rfl) (by decide) (by decide) (fun K hK => ?_) (fun K hK => ?_)
        · skip
          refine goes_ Try.func63 (by kernel_rfl) rfl #[.pointer (some ⟨gr, 0, none⟩)] (by rfl) rfl rfl (by first | (simp only [List.map_toArray, List.map_cons, List.map_nil]; done) | (simp only [List.map_toArray, List.map_cons, List.map_nil]; rfl)) ?_
          with_reducible refine (M2.out _ HD.out).mono ?_
          rintro e w2_11 ⟨rfl, hd, hw⟩
          refine ⟨_, rfl, ?_⟩
          have HD_ := Aside0.mk hd
          have HB_ := Aside0.mk (HB.out.trans (hw.below GG.out GR.out HB.out.size))
          have B2_ := Aside0.mk (hw.blk B2.out N2g.out N2r.out)
          clear HD HB B2 hd hw
          have HD := HD_
          have HB := HB_
          have B2 := B2_
          clear HD_ HB_ B2_
          refine hK.out _ _ ((blk_cell HD.out.blk 0).trans rfl) (fun hHeld => ?_)
          clear hK K
          refine norm_ (a' := ?_) ?_ ?_
          rotate_left
          · show Act.put _ (some 19) _ = _
            simp only [Act.put, List.setIfInBounds_toArray, List.set_cons_zero, List.set_cons_succ, i64_w, i32_w]
            rfl
          refine two_ (i := 16) (j := 18) (Ni := some 24) (Nj := some 5) #[true, true, true, true, true, true, true, true, true, true, true, true, true, true, true, true, true, false, false, false] #[true, true, true, true, true, true, true, true, true, true, true, true, true, true, true, true, false, false, true, false] rfl rfl rfl rfl (by kernel_rfl) (by decide) (by decide) (fun K hK => ?_) (fun K hK => ?_)
          · skip
            refine goes_ Try.func63 (by kernel_rfl) rfl #[.pointer (some ⟨gr, 0, none⟩)] (by rfl) rfl rfl (by first | (simp only [List.map_toArray, List.map_cons, List.map_nil]; done) | (simp only [List.map_toArray, List.map_cons, List.map_nil]; rfl)) ?_
            with_reducible refine (M3.out _ HD.out).mono ?_
            rintro e w2_16 ⟨rfl, hd, hw⟩
            refine ⟨_, rfl, ?_⟩
            have HD_ := Aside0.mk hd
            have HB_ := Aside0.mk (HB.out.trans (hw.below GG.out GR.out HB.out.size))
            have B2_ := Aside0.mk (hw.blk B2.out N2g.out N2r.out)
            clear HD HB B2 hd hw
            have HD := HD_
            have HB := HB_
            have B2 := B2_
            clear HD_ HB_ B2_
            refine hK.out _ _ ((blk_cell HD.out.blk 0).trans rfl) (fun hHeld => ?_)
            clear hK K
            refine norm_ (a' := ?_) ?_ ?_
            rotate_left
            · show Act.put _ (some 24) _ = _
              simp only [Act.put, List.setIfInBounds_toArray, List.set_cons_zero, List.set_cons_succ, i64_w, i32_w]
              rfl
            refine pure_ (i := 17) (N := some 25) (v := ?_) (a' := ?_) #[true, true, true, true, true, true, true, true, true, true, true, true, true, true, true, true, true, true, false, false] rfl rfl (by kernel_rfl) (fun _ _ _ h => h) (Or.inl ⟨by rfl, ?_⟩) ?_ ?_
            rotate_left
            · intro w'
              go_simp
              with_reducible rfl
            rotate_left
            · simp only [Act.put, List.setIfInBounds_toArray, List.set_cons_zero, List.set_cons_succ, i64_w, i32_w]
              rfl
            refine one_ (i := 18) (N := some 5) #[true, true, true, true, true, true, true, true, true, true, true, true, true, true, true, true, true, true, true, false] rfl rfl (by kernel_rfl) (by decide) (fun K hK => ?_)
            refine value_ (w1 := w2_16.alloc (.cells #[.string ⟨#[]⟩, .int .i64 0, .bool false, .bool false, .int .i64 0, .int .i64 0, .string ⟨#[]⟩, .int .i64 0, .int .i64 0] 89)) (v := .pointer (some ⟨w2_16.heap.size, 0, none⟩)) (by rfl) rfl ?_ ?_
            · go_simp
              try rfl
            have hbx := blk_new w2_16 (.cells #[.string ⟨#[]⟩, .int .i64 0, .bool false, .bool false, .int .i64 0, .int .i64 0, .string ⟨#[]⟩, .int .i64 0, .int .i64 0] 89)
            have hbb := below_alloc (Below.refl w2_16.heap.size w2_16) (.cells #[.string ⟨#[]⟩, .int .i64 0, .bool false, .bool false, .int .i64 0, .int .i64 0, .string ⟨#[]⟩, .int .i64 0, .int .i64 0] 89)
            obtain ⟨g5, hg5⟩ : ∃ g, w2_16.heap.size = g := ⟨_, rfl⟩
            have N5g := Aside0.mk (show g5 ≠ g from by rw [← hg5]; exact Nat.ne_of_gt (blk_lt HD.out.blk))
            have N5r := Aside0.mk (show g5 ≠ gr from by rw [← hg5]; exact Nat.ne_of_gt (HD.out.rd.lt))
            have N25 := Aside0.mk (show g2 ≠ g5 from by rw [← hg5]; exact Nat.ne_of_lt (blk_lt B2.out))
            have GE5 := Aside0.mk (show w.heap.size ≤ g5 from by rw [← hg5]; exact HB.out.size)
            generalize w2_16.alloc (.cells #[.string ⟨#[]⟩, .int .i64 0, .bool false, .bool false, .int .i64 0, .int .i64 0, .string ⟨#[]⟩, .int .i64 0, .int .i64 0] 89) = wa2 at hbx hbb ⊢
            rw [hg5] at hbx ⊢
            have HD_ := Aside0.mk (HD.out.below hbb)
            have B2_ := Aside0.mk (blk_below B2.out hbb)
            have HB_ := Aside0.mk (below_step HB.out hbb)
            clear HD B2 HB hbb hg5
            have HD := HD_
            have B2 := B2_
            have HB := HB_
            clear HD_ B2_ HB_
            have B5 := Aside0.mk hbx
            clear hbx
            refine hK.out _ _ ((blk_cell HD.out.blk 0).trans rfl) (fun hHeld => ?_)
            clear hK K
            refine norm_ (a' := ?_) ?_ ?_
            rotate_left
            · show Act.put _ (some 5) _ = _
              simp only [Act.put, List.setIfInBounds_toArray, List.set_cons_zero, List.set_cons_succ, i64_w, i32_w]
              rfl
            exact norm_ (by simp only [putAll, Act.put, List.setIfInBounds_toArray, List.set_cons_zero, List.set_cons_succ]) (hCont g5 _ ⟨HD.out, B2.out, B5.out, HB.out, N5g.out, N5r.out, N25.out, GE5.out⟩)
          · skip
            refine value_ (w1 := w2_11.alloc (.cells #[.string ⟨#[]⟩, .int .i64 0, .bool false, .bool false, .int .i64 0, .int .i64 0, .string ⟨#[]⟩, .int .i64 0, .int .i64 0] 89)) (v := .pointer (some ⟨w2_11.heap.size, 0, none⟩)) (by rfl) rfl ?_ ?_
            · go_simp
              try rfl
            have hbx := blk_new w2_11 (.cells #[.string ⟨#[]⟩, .int .i64 0, .bool false, .bool false, .int .i64 0, .int .i64 0, .string ⟨#[]⟩, .int .i64 0, .int .i64 0] 89)
            have hbb := below_alloc (Below.refl w2_11.heap.size w2_11) (.cells #[.string ⟨#[]⟩, .int .i64 0, .bool false, .bool false, .int .i64 0, .int .i64 0, .string ⟨#[]⟩, .int .i64 0, .int .i64 0] 89)
            obtain ⟨g5, hg5⟩ : ∃ g, w2_11.heap.size = g := ⟨_, rfl⟩
            have N5g := Aside0.mk (show g5 ≠ g from by rw [← hg5]; exact Nat.ne_of_gt (blk_lt HD.out.blk))
            have N5r := Aside0.mk (show g5 ≠ gr from by rw [← hg5]; exact Nat.ne_of_gt (HD.out.rd.lt))
            have N25 := Aside0.mk (show g2 ≠ g5 from by rw [← hg5]; exact Nat.ne_of_lt (blk_lt B2.out))
            have GE5 := Aside0.mk (show w.heap.size ≤ g5 from by rw [← hg5]; exact HB.out.size)
            generalize w2_11.alloc (.cells #[.string ⟨#[]⟩, .int .i64 0, .bool false, .bool false, .int .i64 0, .int .i64 0, .string ⟨#[]⟩, .int .i64 0, .int .i64 0] 89) = wa2 at hbx hbb ⊢
            rw [hg5] at hbx ⊢
            have HD_ := Aside0.mk (HD.out.below hbb)
            have B2_ := Aside0.mk (blk_below B2.out hbb)
            have HB_ := Aside0.mk (below_step HB.out hbb)
            clear HD B2 HB hbb hg5
            have HD := HD_
            have B2 := B2_
            have HB := HB_
            clear HD_ B2_ HB_
            have B5 := Aside0.mk hbx
            clear hbx
            refine hK.out _ _ ((blk_cell HD.out.blk 0).trans rfl) (fun hHeld => ?_)
            clear hK K
            refine norm_ (a' := ?_) ?_ ?_
            rotate_left
            · show Act.put _ (some 5) _ = _
              simp only [Act.put, List.setIfInBounds_toArray, List.set_cons_zero, List.set_cons_succ, i64_w, i32_w]
              rfl
            refine one_ (i := 16) (N := some 24) #[true, true, true, true, true, true, true, true, true, true, true, true, true, true, true, true, true, false, true, false] rfl rfl (by kernel_rfl) (by decide) (fun K hK => ?_)
            refine goes_ Try.func63 (by kernel_rfl) rfl #[.pointer (some ⟨gr, 0, none⟩)] (by rfl) rfl rfl (by first | (simp only [List.map_toArray, List.map_cons, List.map_nil]; done) | (simp only [List.map_toArray, List.map_cons, List.map_nil]; rfl)) ?_
            with_reducible refine (M3.out _ HD.out).mono ?_
            rintro e w2_16 ⟨rfl, hd, hw⟩
            refine ⟨_, rfl, ?_⟩
            have HD_ := Aside0.mk hd
            have HB_ := Aside0.mk (HB.out.trans (hw.below GG.out GR.out HB.out.size))
            have B2_ := Aside0.mk (hw.blk B2.out N2g.out N2r.out)
            have B5_ := Aside0.mk (hw.blk B5.out N5g.out N5r.out)
            clear HD HB B2 B5 hd hw
            have HD := HD_
            have HB := HB_
            have B2 := B2_
            have B5 := B5_
            clear HD_ HB_ B2_ B5_
            refine hK.out _ _ ((blk_cell HD.out.blk 0).trans rfl) (fun hHeld => ?_)
            clear hK K
            refine norm_ (a' := ?_) ?_ ?_
            rotate_left
            · show Act.put _ (some 24) _ = _
              simp only [Act.put, List.setIfInBounds_toArray, List.set_cons_zero, List.set_cons_succ, i64_w, i32_w]
              rfl
            refine pure_ (i := 17) (N := some 25) (v := ?_) (a' := ?_) #[true, true, true, true, true, true, true, true, true, true, true, true, true, true, true, true, true, true, true, false] rfl rfl (by kernel_rfl) (fun _ _ _ h => h) (Or.inl ⟨by rfl, ?_⟩) ?_ ?_
            rotate_left
            · intro w'
              go_simp
              with_reducible rfl
            rotate_left
            · simp only [Act.put, List.setIfInBounds_toArray, List.set_cons_zero, List.set_cons_succ, i64_w, i32_w]
              rfl
            exact norm_ (by simp only [putAll, Act.put, List.setIfInBounds_toArray, List.set_cons_zero, List.set_cons_succ]) (hCont g5 _ ⟨HD.out, B2.out, B5.out, HB.out, N5g.out, N5r.out, N25.out, GE5.out⟩)
        · skip
          refine value_ (w1 := w2_6.alloc (.cells #[.string ⟨#[]⟩, .int .i64 0, .bool false, .bool false, .int .i64 0, .int .i64 0, .string ⟨#[]⟩, .int .i64 0, .int .i64 0] 89)) (v := .pointer (some ⟨w2_6.heap.size, 0, none⟩)) (by rfl) rfl ?_ ?_
          · go_simp
            try rfl
          have hbx := blk_new w2_6 (.cells #[.string ⟨#[]⟩, .int .i64 0, .bool false, .bool false, .int .i64 0, .int .i64 0, .string ⟨#[]⟩, .int .i64 0, .int .i64 0] 89)
          have hbb := below_alloc (Below.refl w2_6.heap.size w2_6) (.cells #[.string ⟨#[]⟩, .int .i64 0, .bool false, .bool false, .int .i64 0, .int .i64 0, .string ⟨#[]⟩, .int .i64 0, .int .i64 0] 89)
          obtain ⟨g5, hg5⟩ : ∃ g, w2_6.heap.size = g := ⟨_, rfl⟩
          have N5g := Aside0.mk (show g5 ≠ g from by rw [← hg5]; exact Nat.ne_of_gt (blk_lt HD.out.blk))
          have N5r := Aside0.mk (show g5 ≠ gr from by rw [← hg5]; exact Nat.ne_of_gt (HD.out.rd.lt))
          have N25 := Aside0.mk (show g2 ≠ g5 from by rw [← hg5]; exact Nat.ne_of_lt (blk_lt B2.out))
          have GE5 := Aside0.mk (show w.heap.size ≤ g5 from by rw [← hg5]; exact HB.out.size)
          generalize w2_6.alloc (.cells #[.string ⟨#[]⟩, .int .i64 0, .bool false, .bool false, .int .i64 0, .int .i64 0, .string ⟨#[]⟩, .int .i64 0, .int .i64 0] 89) = wa2 at hbx hbb ⊢
          rw [hg5] at hbx ⊢
          have HD_ := Aside0.mk (HD.out.below hbb)
          have B2_ := Aside0.mk (blk_below B2.out hbb)
          have HB_ := Aside0.mk (below_step HB.out hbb)
          clear HD B2 HB hbb hg5
          have HD := HD_
          have B2 := B2_
          have HB := HB_
          clear HD_ B2_ HB_
          have B5 := Aside0.mk hbx
          clear hbx
          refine hK.out _ _ ((blk_cell HD.out.blk 0).trans rfl) (fun hHeld => ?_)
          clear hK K
          refine norm_ (a' := ?_) ?_ ?_
          rotate_left
          · show Act.put _ (some 5) _ = _
            simp only [Act.put, List.setIfInBounds_toArray, List.set_cons_zero, List.set_cons_succ, i64_w, i32_w]
            rfl
          refine one_ (i := 11) (N := some 19) #[true, true, true, true, true, true, true, true, true, true, true, true, true, true, true, true, false, false, true, false] rfl rfl (by kernel_rfl) (by decide) (fun K hK => ?_)
          refine goes_ Try.func63 (by kernel_rfl) rfl #[.pointer (some ⟨gr, 0, none⟩)] (by rfl) rfl rfl (by first | (simp only [List.map_toArray, List.map_cons, List.map_nil]; done) | (simp only [List.map_toArray, List.map_cons, List.map_nil]; rfl)) ?_
          with_reducible refine (M2.out _ HD.out).mono ?_
          rintro e w2_11 ⟨rfl, hd, hw⟩
          refine ⟨_, rfl, ?_⟩
          have HD_ := Aside0.mk hd
          have HB_ := Aside0.mk (HB.out.trans (hw.below GG.out GR.out HB.out.size))
          have B2_ := Aside0.mk (hw.blk B2.out N2g.out N2r.out)
          have B5_ := Aside0.mk (hw.blk B5.out N5g.out N5r.out)
          clear HD HB B2 B5 hd hw
          have HD := HD_
          have HB := HB_
          have B2 := B2_
          have B5 := B5_
          clear HD_ HB_ B2_ B5_
          refine hK.out _ _ ((blk_cell HD.out.blk 0).trans rfl) (fun hHeld => ?_)
          clear hK K
          refine norm_ (a' := ?_) ?_ ?_
          rotate_left
          · show Act.put _ (some 19) _ = _
            simp only [Act.put, List.setIfInBounds_toArray, List.set_cons_zero, List.set_cons_succ, i64_w, i32_w]
            rfl
          refine one_ (i := 16) (N := some 24) #[true, true, true, true, true, true, true, true, true, true, true, true, true, true, true, true, true, false, true, false] rfl rfl (by kernel_rfl) (by decide) (fun K hK => ?_)
          refine goes_ Try.func63 (by kernel_rfl) rfl #[.pointer (some ⟨gr, 0, none⟩)] (by rfl) rfl rfl (by first | (simp only [List.map_toArray, List.map_cons, List.map_nil]; done) | (simp only [List.map_toArray, List.map_cons, List.map_nil]; rfl)) ?_
          with_reducible refine (M3.out _ HD.out).mono ?_
          rintro e w2_16 ⟨rfl, hd, hw⟩
          refine ⟨_, rfl, ?_⟩
          have HD_ := Aside0.mk hd
          have HB_ := Aside0.mk (HB.out.trans (hw.below GG.out GR.out HB.out.size))
          have B2_ := Aside0.mk (hw.blk B2.out N2g.out N2r.out)
          have B5_ := Aside0.mk (hw.blk B5.out N5g.out N5r.out)
          clear HD HB B2 B5 hd hw
          have HD := HD_
          have HB := HB_
          have B2 := B2_
          have B5 := B5_
          clear HD_ HB_ B2_ B5_
          refine hK.out _ _ ((blk_cell HD.out.blk 0).trans rfl) (fun hHeld => ?_)
          clear hK K
          refine norm_ (a' := ?_) ?_ ?_
          rotate_left
          · show Act.put _ (some 24) _ = _
            simp only [Act.put, List.setIfInBounds_toArray, List.set_cons_zero, List.set_cons_succ, i64_w, i32_w]
            rfl
          refine pure_ (i := 17) (N := some 25) (v := ?_) (a' := ?_) #[true, true, true, true, true, true, true, true, true, true, true, true, true, true, true, true, true, true, true, false] rfl rfl (by kernel_rfl) (fun _ _ _ h => h) (Or.inl ⟨by rfl, ?_⟩) ?_ ?_
          rotate_left
          · intro w'
            go_simp
            with_reducible rfl
          rotate_left
          · simp only [Act.put, List.setIfInBounds_toArray, List.set_cons_zero, List.set_cons_succ, i64_w, i32_w]
            rfl
          exact norm_ (by simp only [putAll, Act.put, List.setIfInBounds_toArray, List.set_cons_zero, List.set_cons_succ]) (hCont g5 _ ⟨HD.out, B2.out, B5.out, HB.out, N5g.out, N5r.out, N25.out, GE5.out⟩)
      · skip
        refine value_ (w1 := w2_4.alloc (.cells #[.string ⟨#[]⟩, .int .i64 0, .bool false, .bool false, .int .i64 0, .int .i64 0, .string ⟨#[]⟩, .int .i64 0, .int .i64 0] 89)) (v := .pointer (some ⟨w2_4.heap.size, 0, none⟩)) (by rfl) rfl ?_ ?_
        · go_simp
          try rfl
        have hbx := blk_new w2_4 (.cells #[.string ⟨#[]⟩, .int .i64 0, .bool false, .bool false, .int .i64 0, .int .i64 0, .string ⟨#[]⟩, .int .i64 0, .int .i64 0] 89)
        have hbb := below_alloc (Below.refl w2_4.heap.size w2_4) (.cells #[.string ⟨#[]⟩, .int .i64 0, .bool false, .bool false, .int .i64 0, .int .i64 0, .string ⟨#[]⟩, .int .i64 0, .int .i64 0] 89)
        obtain ⟨g5, hg5⟩ : ∃ g, w2_4.heap.size = g := ⟨_, rfl⟩
        have N5g := Aside0.mk (show g5 ≠ g from by rw [← hg5]; exact Nat.ne_of_gt (blk_lt HD.out.blk))
        have N5r := Aside0.mk (show g5 ≠ gr from by rw [← hg5]; exact Nat.ne_of_gt (HD.out.rd.lt))
        have N25 := Aside0.mk (show g2 ≠ g5 from by rw [← hg5]; exact Nat.ne_of_lt (blk_lt B2.out))
        have GE5 := Aside0.mk (show w.heap.size ≤ g5 from by rw [← hg5]; exact HB.out.size)
        generalize w2_4.alloc (.cells #[.string ⟨#[]⟩, .int .i64 0, .bool false, .bool false, .int .i64 0, .int .i64 0, .string ⟨#[]⟩, .int .i64 0, .int .i64 0] 89) = wa2 at hbx hbb ⊢
        rw [hg5] at hbx ⊢
        have HD_ := Aside0.mk (HD.out.below hbb)
        have B2_ := Aside0.mk (blk_below B2.out hbb)
        have HB_ := Aside0.mk (below_step HB.out hbb)
        clear HD B2 HB hbb hg5
        have HD := HD_
        have B2 := B2_
        have HB := HB_
        clear HD_ B2_ HB_
        have B5 := Aside0.mk hbx
        clear hbx
        refine hK.out _ _ ((blk_cell HD.out.blk 0).trans rfl) (fun hHeld => ?_)
        clear hK K
        refine norm_ (a' := ?_) ?_ ?_
        rotate_left
        · show Act.put _ (some 5) _ = _
          simp only [Act.put, List.setIfInBounds_toArray, List.set_cons_zero, List.set_cons_succ, i64_w, i32_w]
          rfl
        refine one_ (i := 6) (N := some 14) #[true, true, true, true, true, true, true, true, true, true, true, false, true, true, true, true, false, false, true, false] rfl rfl (by kernel_rfl) (by decide) (fun K hK => ?_)
        refine goes_ Try.func152 (by kernel_rfl) rfl #[.pointer (some ⟨g, 0, none⟩)] (by rfl) rfl rfl (by first | (simp only [List.map_toArray, List.map_cons, List.map_nil]; done) | (simp only [List.map_toArray, List.map_cons, List.map_nil]; rfl)) ?_
        with_reducible refine (M1.out _ HD.out).mono ?_
        rintro e w2_6 ⟨rfl, hd, hw⟩
        refine ⟨_, rfl, ?_⟩
        have HD_ := Aside0.mk hd
        have HB_ := Aside0.mk (HB.out.trans (hw.below GG.out GR.out HB.out.size))
        have B2_ := Aside0.mk (hw.blk B2.out N2g.out N2r.out)
        have B5_ := Aside0.mk (hw.blk B5.out N5g.out N5r.out)
        clear HD HB B2 B5 hd hw
        have HD := HD_
        have HB := HB_
        have B2 := B2_
        have B5 := B5_
        clear HD_ HB_ B2_ B5_
        refine hK.out _ _ ((blk_cell HD.out.blk 0).trans rfl) (fun hHeld => ?_)
        clear hK K
        refine norm_ (a' := ?_) ?_ ?_
        rotate_left
        · show Act.put _ (some 14) _ = _
          simp only [Act.put, List.setIfInBounds_toArray, List.set_cons_zero, List.set_cons_succ, i64_w, i32_w]
          rfl
        refine one_ (i := 11) (N := some 19) #[true, true, true, true, true, true, true, true, true, true, true, true, true, true, true, true, false, false, true, false] rfl rfl (by kernel_rfl) (by decide) (fun K hK => ?_)
        refine goes_ Try.func63 (by kernel_rfl) rfl #[.pointer (some ⟨gr, 0, none⟩)] (by rfl) rfl rfl (by first | (simp only [List.map_toArray, List.map_cons, List.map_nil]; done) | (simp only [List.map_toArray, List.map_cons, List.map_nil]; rfl)) ?_
        with_reducible refine (M2.out _ HD.out).mono ?_
        rintro e w2_11 ⟨rfl, hd, hw⟩
        refine ⟨_, rfl, ?_⟩
        have HD_ := Aside0.mk hd
        have HB_ := Aside0.mk (HB.out.trans (hw.below GG.out GR.out HB.out.size))
        have B2_ := Aside0.mk (hw.blk B2.out N2g.out N2r.out)
        have B5_ := Aside0.mk (hw.blk B5.out N5g.out N5r.out)
        clear HD HB B2 B5 hd hw
        have HD := HD_
        have HB := HB_
        have B2 := B2_
        have B5 := B5_
        clear HD_ HB_ B2_ B5_
        refine hK.out _ _ ((blk_cell HD.out.blk 0).trans rfl) (fun hHeld => ?_)
        clear hK K
        refine norm_ (a' := ?_) ?_ ?_
        rotate_left
        · show Act.put _ (some 19) _ = _
          simp only [Act.put, List.setIfInBounds_toArray, List.set_cons_zero, List.set_cons_succ, i64_w, i32_w]
          rfl
        refine one_ (i := 16) (N := some 24) #[true, true, true, true, true, true, true, true, true, true, true, true, true, true, true, true, true, false, true, false] rfl rfl (by kernel_rfl) (by decide) (fun K hK => ?_)
        refine goes_ Try.func63 (by kernel_rfl) rfl #[.pointer (some ⟨gr, 0, none⟩)] (by rfl) rfl rfl (by first | (simp only [List.map_toArray, List.map_cons, List.map_nil]; done) | (simp only [List.map_toArray, List.map_cons, List.map_nil]; rfl)) ?_
        with_reducible refine (M3.out _ HD.out).mono ?_
        rintro e w2_16 ⟨rfl, hd, hw⟩
        refine ⟨_, rfl, ?_⟩
        have HD_ := Aside0.mk hd
        have HB_ := Aside0.mk (HB.out.trans (hw.below GG.out GR.out HB.out.size))
        have B2_ := Aside0.mk (hw.blk B2.out N2g.out N2r.out)
        have B5_ := Aside0.mk (hw.blk B5.out N5g.out N5r.out)
        clear HD HB B2 B5 hd hw
        have HD := HD_
        have HB := HB_
        have B2 := B2_
        have B5 := B5_
        clear HD_ HB_ B2_ B5_
        refine hK.out _ _ ((blk_cell HD.out.blk 0).trans rfl) (fun hHeld => ?_)
        clear hK K
        refine norm_ (a' := ?_) ?_ ?_
        rotate_left
        · show Act.put _ (some 24) _ = _
          simp only [Act.put, List.setIfInBounds_toArray, List.set_cons_zero, List.set_cons_succ, i64_w, i32_w]
          rfl
        refine pure_ (i := 17) (N := some 25) (v := ?_) (a' := ?_) #[true, true, true, true, true, true, true, true, true, true, true, true, true, true, true, true, true, true, true, false] rfl rfl (by kernel_rfl) (fun _ _ _ h => h) (Or.inl ⟨by rfl, ?_⟩) ?_ ?_
        rotate_left
        · intro w'
          go_simp
          with_reducible rfl
        rotate_left
        · simp only [Act.put, List.setIfInBounds_toArray, List.set_cons_zero, List.set_cons_succ, i64_w, i32_w]
          rfl
        exact norm_ (by simp only [putAll, Act.put, List.setIfInBounds_toArray, List.set_cons_zero, List.set_cons_succ]) (hCont g5 _ ⟨HD.out, B2.out, B5.out, HB.out, N5g.out, N5r.out, N25.out, GE5.out⟩)
    · skip
      refine value_ (w1 := wd2.alloc (.cells #[.string ⟨#[]⟩, .int .i64 0, .bool false, .bool false, .int .i64 0, .int .i64 0, .string ⟨#[]⟩, .int .i64 0, .int .i64 0] 89)) (v := .pointer (some ⟨wd2.heap.size, 0, none⟩)) (by rfl) rfl ?_ ?_
      · go_simp
        try rfl
      have hbx := blk_new wd2 (.cells #[.string ⟨#[]⟩, .int .i64 0, .bool false, .bool false, .int .i64 0, .int .i64 0, .string ⟨#[]⟩, .int .i64 0, .int .i64 0] 89)
      have hbb := below_alloc (Below.refl wd2.heap.size wd2) (.cells #[.string ⟨#[]⟩, .int .i64 0, .bool false, .bool false, .int .i64 0, .int .i64 0, .string ⟨#[]⟩, .int .i64 0, .int .i64 0] 89)
      obtain ⟨g5, hg5⟩ : ∃ g, wd2.heap.size = g := ⟨_, rfl⟩
      have N5g := Aside0.mk (show g5 ≠ g from by rw [← hg5]; exact Nat.ne_of_gt (blk_lt HD.out.blk))
      have N5r := Aside0.mk (show g5 ≠ gr from by rw [← hg5]; exact Nat.ne_of_gt (HD.out.rd.lt))
      have N25 := Aside0.mk (show g2 ≠ g5 from by rw [← hg5]; exact Nat.ne_of_lt (blk_lt B2.out))
      have GE5 := Aside0.mk (show w.heap.size ≤ g5 from by rw [← hg5]; exact HB.out.size)
      generalize wd2.alloc (.cells #[.string ⟨#[]⟩, .int .i64 0, .bool false, .bool false, .int .i64 0, .int .i64 0, .string ⟨#[]⟩, .int .i64 0, .int .i64 0] 89) = wa2 at hbx hbb ⊢
      rw [hg5] at hbx ⊢
      have HD_ := Aside0.mk (HD.out.below hbb)
      have B2_ := Aside0.mk (blk_below B2.out hbb)
      have HB_ := Aside0.mk (below_step HB.out hbb)
      clear HD B2 HB hbb hg5
      have HD := HD_
      have B2 := B2_
      have HB := HB_
      clear HD_ B2_ HB_
      have B5 := Aside0.mk hbx
      clear hbx
      refine hK.out _ _ ((blk_cell HD.out.blk 0).trans rfl) (fun hHeld => ?_)
      clear hK K
      refine norm_ (a' := ?_) ?_ ?_
      rotate_left
      · show Act.put _ (some 5) _ = _
        simp only [Act.put, List.setIfInBounds_toArray, List.set_cons_zero, List.set_cons_succ, i64_w, i32_w]
        rfl
      refine one_ (i := 4) (N := some 12) #[true, true, true, true, true, true, false, true, true, true, true, false, true, true, true, true, false, false, true, false] rfl rfl (by kernel_rfl) (by decide) (fun K hK => ?_)
      refine goes_ Try.func61 (by kernel_rfl) rfl #[.pointer (some ⟨gr, 0, none⟩)] (by rfl) rfl rfl (by first | (simp only [List.map_toArray, List.map_cons, List.map_nil]; done) | (simp only [List.map_toArray, List.map_cons, List.map_nil]; rfl)) ?_
      with_reducible refine (M0.out _ HD.out).mono ?_
      rintro e w2_4 ⟨rfl, hd, hw⟩
      refine ⟨_, rfl, ?_⟩
      have HD_ := Aside0.mk hd
      have HB_ := Aside0.mk (HB.out.trans (hw.below GG.out GR.out HB.out.size))
      have B2_ := Aside0.mk (hw.blk B2.out N2g.out N2r.out)
      have B5_ := Aside0.mk (hw.blk B5.out N5g.out N5r.out)
      clear HD HB B2 B5 hd hw
      have HD := HD_
      have HB := HB_
      have B2 := B2_
      have B5 := B5_
      clear HD_ HB_ B2_ B5_
      refine hK.out _ _ ((blk_cell HD.out.blk 0).trans rfl) (fun hHeld => ?_)
      clear hK K
      refine norm_ (a' := ?_) ?_ ?_
      rotate_left
      · show Act.put _ (some 12) _ = _
        simp only [Act.put, List.setIfInBounds_toArray, List.set_cons_zero, List.set_cons_succ, i64_w, i32_w]
        rfl
      refine one_ (i := 6) (N := some 14) #[true, true, true, true, true, true, true, true, true, true, true, false, true, true, true, true, false, false, true, false] rfl rfl (by kernel_rfl) (by decide) (fun K hK => ?_)
      refine goes_ Try.func152 (by kernel_rfl) rfl #[.pointer (some ⟨g, 0, none⟩)] (by rfl) rfl rfl (by first | (simp only [List.map_toArray, List.map_cons, List.map_nil]; done) | (simp only [List.map_toArray, List.map_cons, List.map_nil]; rfl)) ?_
      with_reducible refine (M1.out _ HD.out).mono ?_
      rintro e w2_6 ⟨rfl, hd, hw⟩
      refine ⟨_, rfl, ?_⟩
      have HD_ := Aside0.mk hd
      have HB_ := Aside0.mk (HB.out.trans (hw.below GG.out GR.out HB.out.size))
      have B2_ := Aside0.mk (hw.blk B2.out N2g.out N2r.out)
      have B5_ := Aside0.mk (hw.blk B5.out N5g.out N5r.out)
      clear HD HB B2 B5 hd hw
      have HD := HD_
      have HB := HB_
      have B2 := B2_
      have B5 := B5_
      clear HD_ HB_ B2_ B5_
      refine hK.out _ _ ((blk_cell HD.out.blk 0).trans rfl) (fun hHeld => ?_)
      clear hK K
      refine norm_ (a' := ?_) ?_ ?_
      rotate_left
      · show Act.put _ (some 14) _ = _
        simp only [Act.put, List.setIfInBounds_toArray, List.set_cons_zero, List.set_cons_succ, i64_w, i32_w]
        rfl
      refine one_ (i := 11) (N := some 19) #[true, true, true, true, true, true, true, true, true, true, true, true, true, true, true, true, false, false, true, false] rfl rfl (by kernel_rfl) (by decide) (fun K hK => ?_)
      refine goes_ Try.func63 (by kernel_rfl) rfl #[.pointer (some ⟨gr, 0, none⟩)] (by rfl) rfl rfl (by first | (simp only [List.map_toArray, List.map_cons, List.map_nil]; done) | (simp only [List.map_toArray, List.map_cons, List.map_nil]; rfl)) ?_
      with_reducible refine (M2.out _ HD.out).mono ?_
      rintro e w2_11 ⟨rfl, hd, hw⟩
      refine ⟨_, rfl, ?_⟩
      have HD_ := Aside0.mk hd
      have HB_ := Aside0.mk (HB.out.trans (hw.below GG.out GR.out HB.out.size))
      have B2_ := Aside0.mk (hw.blk B2.out N2g.out N2r.out)
      have B5_ := Aside0.mk (hw.blk B5.out N5g.out N5r.out)
      clear HD HB B2 B5 hd hw
      have HD := HD_
      have HB := HB_
      have B2 := B2_
      have B5 := B5_
      clear HD_ HB_ B2_ B5_
      refine hK.out _ _ ((blk_cell HD.out.blk 0).trans rfl) (fun hHeld => ?_)
      clear hK K
      refine norm_ (a' := ?_) ?_ ?_
      rotate_left
      · show Act.put _ (some 19) _ = _
        simp only [Act.put, List.setIfInBounds_toArray, List.set_cons_zero, List.set_cons_succ, i64_w, i32_w]
        rfl
      refine one_ (i := 16) (N := some 24) #[true, true, true, true, true, true, true, true, true, true, true, true, true, true, true, true, true, false, true, false] rfl rfl (by kernel_rfl) (by decide) (fun K hK => ?_)
      refine goes_ Try.func63 (by kernel_rfl) rfl #[.pointer (some ⟨gr, 0, none⟩)] (by rfl) rfl rfl (by first | (simp only [List.map_toArray, List.map_cons, List.map_nil]; done) | (simp only [List.map_toArray, List.map_cons, List.map_nil]; rfl)) ?_
      with_reducible refine (M3.out _ HD.out).mono ?_
      rintro e w2_16 ⟨rfl, hd, hw⟩
      refine ⟨_, rfl, ?_⟩
      have HD_ := Aside0.mk hd
      have HB_ := Aside0.mk (HB.out.trans (hw.below GG.out GR.out HB.out.size))
      have B2_ := Aside0.mk (hw.blk B2.out N2g.out N2r.out)
      have B5_ := Aside0.mk (hw.blk B5.out N5g.out N5r.out)
      clear HD HB B2 B5 hd hw
      have HD := HD_
      have HB := HB_
      have B2 := B2_
      have B5 := B5_
      clear HD_ HB_ B2_ B5_
      refine hK.out _ _ ((blk_cell HD.out.blk 0).trans rfl) (fun hHeld => ?_)
      clear hK K
      refine norm_ (a' := ?_) ?_ ?_
      rotate_left
      · show Act.put _ (some 24) _ = _
        simp only [Act.put, List.setIfInBounds_toArray, List.set_cons_zero, List.set_cons_succ, i64_w, i32_w]
        rfl
      refine pure_ (i := 17) (N := some 25) (v := ?_) (a' := ?_) #[true, true, true, true, true, true, true, true, true, true, true, true, true, true, true, true, true, true, true, false] rfl rfl (by kernel_rfl) (fun _ _ _ h => h) (Or.inl ⟨by rfl, ?_⟩) ?_ ?_
      rotate_left
      · intro w'
        go_simp
        with_reducible rfl
      rotate_left
      · simp only [Act.put, List.setIfInBounds_toArray, List.set_cons_zero, List.set_cons_succ, i64_w, i32_w]
        rfl
      exact norm_ (by simp only [putAll, Act.put, List.setIfInBounds_toArray, List.set_cons_zero, List.set_cons_succ]) (hCont g5 _ ⟨HD.out, B2.out, B5.out, HB.out, N5g.out, N5r.out, N25.out, GE5.out⟩)
  rintro g5 we ⟨h1, h2, h3, h4, h5, h6, h7, h8⟩
  clear HD B2 HB
  have HD := Aside0.mk h1
  have B2 := Aside0.mk h2
  have B5 := Aside0.mk h3
  have HB := Aside0.mk h4
  have N5g := Aside0.mk h5
  have N5r := Aside0.mk h6
  have N25 := Aside0.mk h7
  have GE5 := Aside0.mk h8
  clear h1 h2 h3 h4 h5 h6 h7 h8
  have hHeld : we.cell? ⟨g, 0, none⟩ = some (.pointer (some ⟨gr, 0, none⟩)) := (blk_cell HD.out.blk 0).trans rfl
  refine norm_ (a' := ?_) ?_ ?_
  rotate_left
  · simp only [putAll, Act.put, List.setIfInBounds_toArray, List.set_cons_zero, List.set_cons_succ]
    rfl
  refine one_ (i := 19) (N := none) #[true, true, true, true, true, true, true, true, true, true, true, true, true, true, true, true, true, true, true, true] rfl rfl (by kernel_rfl) (by decide) (fun K hK => ?_)
  have hx0 := (blk_cell B5.out 0).trans (show _ = some (.string ⟨#[]⟩) from rfl)
  have hx1 := (blk_cell B5.out 1).trans (show _ = some (.int .i64 0) from rfl)
  have hx2 := (blk_cell B5.out 2).trans (show _ = some (.bool false) from rfl)
  have hx3 := (blk_cell B5.out 3).trans (show _ = some (.bool false) from rfl)
  have hx4 := (blk_cell B5.out 4).trans (show _ = some (.int .i64 0) from rfl)
  have hx5 := (blk_cell B5.out 5).trans (show _ = some (.int .i64 0) from rfl)
  have hx6 := (blk_cell B5.out 6).trans (show _ = some (.string ⟨#[]⟩) from rfl)
  have hx7 := (blk_cell B5.out 7).trans (show _ = some (.int .i64 0) from rfl)
  have hx8 := (blk_cell B5.out 8).trans (show _ = some (.int .i64 0) from rfl)
  have fx0 := blk_frozen B5.out 0
  have fx1 := blk_frozen B5.out 1
  have fx2 := blk_frozen B5.out 2
  have fx3 := blk_frozen B5.out 3
  have fx4 := blk_frozen B5.out 4
  have fx5 := blk_frozen B5.out 5
  have fx6 := blk_frozen B5.out 6
  have fx7 := blk_frozen B5.out 7
  have fx8 := blk_frozen B5.out 8
  refine skip_ (w1 := (((((((((we.setCell ⟨g5, 0, none⟩ (.string (strOfNums v0))).setCell ⟨g5, 1, none⟩ (.int .i64 (mn v1 2147483647))).setCell ⟨g5, 2, none⟩ (.bool v2)).setCell ⟨g5, 3, none⟩ (.bool v3)).setCell ⟨g5, 4, none⟩ (.int .i64 0)).setCell ⟨g5, 5, none⟩ (.int .i64 0)).setCell ⟨g5, 6, none⟩ (.string ⟨#[]⟩)).setCell ⟨g5, 7, none⟩ (.int .i64 0)).setCell ⟨g5, 8, none⟩ (.int .i64 0))) (by rfl) rfl ?_ ?_
  · go_simp
    try rfl
  clear hx0 fx0 hx1 fx1 hx2 fx2 hx3 fx3 hx4 fx4 hx5 fx5 hx6 fx6 hx7 fx7 hx8 fx8
  have HD_ := Aside0.mk (show IsD g gr (((((((((we.setCell ⟨g5, 0, none⟩ (.string (strOfNums v0))).setCell ⟨g5, 1, none⟩ (.int .i64 (mn v1 2147483647))).setCell ⟨g5, 2, none⟩ (.bool v2)).setCell ⟨g5, 3, none⟩ (.bool v3)).setCell ⟨g5, 4, none⟩ (.int .i64 0)).setCell ⟨g5, 5, none⟩ (.int .i64 0)).setCell ⟨g5, 6, none⟩ (.string ⟨#[]⟩)).setCell ⟨g5, 7, none⟩ (.int .i64 0)).setCell ⟨g5, 8, none⟩ (.int .i64 0)) _ _ _ from IsD.box HD.out B5.out (by intro v hv x; simp only [List.mem_cons, List.not_mem_nil, or_false] at hv; rcases hv with rfl | rfl | rfl | rfl | rfl | rfl | rfl | rfl | rfl <;> (intro h_; cases h_)) ((((((((((Wr.refl _ g5 _).setCell 0 _).setCell 1 _).setCell 2 _).setCell 3 _).setCell 4 _).setCell 5 _).setCell 6 _).setCell 7 _).setCell 8 _) (Ne.symm N5g.out) (Ne.symm N5r.out))
  have B5_ := Aside0.mk (show (((((((((we.setCell ⟨g5, 0, none⟩ (.string (strOfNums v0))).setCell ⟨g5, 1, none⟩ (.int .i64 (mn v1 2147483647))).setCell ⟨g5, 2, none⟩ (.bool v2)).setCell ⟨g5, 3, none⟩ (.bool v3)).setCell ⟨g5, 4, none⟩ (.int .i64 0)).setCell ⟨g5, 5, none⟩ (.int .i64 0)).setCell ⟨g5, 6, none⟩ (.string ⟨#[]⟩)).setCell ⟨g5, 7, none⟩ (.int .i64 0)).setCell ⟨g5, 8, none⟩ (.int .i64 0)).heap[g5]? = some (.cells #[.string (strOfNums v0), .int .i64 (mn v1 2147483647), .bool v2, .bool v3, .int .i64 0, .int .i64 0, .string ⟨#[]⟩, .int .i64 0, .int .i64 0] 89 (0, 0)) from (by refine blk_put (cs := #[.string (strOfNums v0), .int .i64 (mn v1 2147483647), .bool v2, .bool v3, .int .i64 0, .int .i64 0, .string ⟨#[]⟩, .int .i64 0, .int .i64 0]) ?_ 8 _ rfl; refine blk_put (cs := #[.string (strOfNums v0), .int .i64 (mn v1 2147483647), .bool v2, .bool v3, .int .i64 0, .int .i64 0, .string ⟨#[]⟩, .int .i64 0, .int .i64 0]) ?_ 7 _ rfl; refine blk_put (cs := #[.string (strOfNums v0), .int .i64 (mn v1 2147483647), .bool v2, .bool v3, .int .i64 0, .int .i64 0, .string ⟨#[]⟩, .int .i64 0, .int .i64 0]) ?_ 6 _ rfl; refine blk_put (cs := #[.string (strOfNums v0), .int .i64 (mn v1 2147483647), .bool v2, .bool v3, .int .i64 0, .int .i64 0, .string ⟨#[]⟩, .int .i64 0, .int .i64 0]) ?_ 5 _ rfl; refine blk_put (cs := #[.string (strOfNums v0), .int .i64 (mn v1 2147483647), .bool v2, .bool v3, .int .i64 0, .int .i64 0, .string ⟨#[]⟩, .int .i64 0, .int .i64 0]) ?_ 4 _ rfl; refine blk_put (cs := #[.string (strOfNums v0), .int .i64 (mn v1 2147483647), .bool v2, .bool false, .int .i64 0, .int .i64 0, .string ⟨#[]⟩, .int .i64 0, .int .i64 0]) ?_ 3 _ rfl; refine blk_put (cs := #[.string (strOfNums v0), .int .i64 (mn v1 2147483647), .bool false, .bool false, .int .i64 0, .int .i64 0, .string ⟨#[]⟩, .int .i64 0, .int .i64 0]) ?_ 2 _ rfl; refine blk_put (cs := #[.string (strOfNums v0), .int .i64 0, .bool false, .bool false, .int .i64 0, .int .i64 0, .string ⟨#[]⟩, .int .i64 0, .int .i64 0]) ?_ 1 _ rfl; refine blk_put (cs := #[.string ⟨#[]⟩, .int .i64 0, .bool false, .bool false, .int .i64 0, .int .i64 0, .string ⟨#[]⟩, .int .i64 0, .int .i64 0]) ?_ 0 _ rfl; exact B5.out))
  have B2_ := Aside0.mk (show (((((((((we.setCell ⟨g5, 0, none⟩ (.string (strOfNums v0))).setCell ⟨g5, 1, none⟩ (.int .i64 (mn v1 2147483647))).setCell ⟨g5, 2, none⟩ (.bool v2)).setCell ⟨g5, 3, none⟩ (.bool v3)).setCell ⟨g5, 4, none⟩ (.int .i64 0)).setCell ⟨g5, 5, none⟩ (.int .i64 0)).setCell ⟨g5, 6, none⟩ (.string ⟨#[]⟩)).setCell ⟨g5, 7, none⟩ (.int .i64 0)).setCell ⟨g5, 8, none⟩ (.int .i64 0)).heap[g2]? = some (.cells #[.string ⟨#[]⟩, .int .i64 0, .bool false, .bool false, .int .i64 0, .int .i64 0, .string ⟨#[]⟩, .int .i64 0, .int .i64 0] 89 (0, 0)) from (by (iterate 9 (refine blk_far ?_ N25.out _)); exact B2.out))
  have HB_ := Aside0.mk (show Below w.heap.size w (((((((((we.setCell ⟨g5, 0, none⟩ (.string (strOfNums v0))).setCell ⟨g5, 1, none⟩ (.int .i64 (mn v1 2147483647))).setCell ⟨g5, 2, none⟩ (.bool v2)).setCell ⟨g5, 3, none⟩ (.bool v3)).setCell ⟨g5, 4, none⟩ (.int .i64 0)).setCell ⟨g5, 5, none⟩ (.int .i64 0)).setCell ⟨g5, 6, none⟩ (.string ⟨#[]⟩)).setCell ⟨g5, 7, none⟩ (.int .i64 0)).setCell ⟨g5, 8, none⟩ (.int .i64 0)) from (by (iterate 9 (refine below_set ?_ GE5.out)); exact HB.out))
  clear HD B5 B2 HB
  generalize (((((((((we.setCell ⟨g5, 0, none⟩ (.string (strOfNums v0))).setCell ⟨g5, 1, none⟩ (.int .i64 (mn v1 2147483647))).setCell ⟨g5, 2, none⟩ (.bool v2)).setCell ⟨g5, 3, none⟩ (.bool v3)).setCell ⟨g5, 4, none⟩ (.int .i64 0)).setCell ⟨g5, 5, none⟩ (.int .i64 0)).setCell ⟨g5, 6, none⟩ (.string ⟨#[]⟩)).setCell ⟨g5, 7, none⟩ (.int .i64 0)).setCell ⟨g5, 8, none⟩ (.int .i64 0)) = ws2 at HD_ B5_ B2_ HB_ ⊢
  have HD := HD_
  have B5 := B5_
  have B2 := B2_
  have HB := HB_
  clear HD_ B5_ B2_ HB_
  refine hK.out _ _ ((blk_cell HD.out.blk 0).trans rfl) (fun hHeld => ?_)
  clear hK K
  refine done_ (by kernel_rfl) ?_
  go_upto_region 3 with (fail)
  (try simp only [Act.put, List.setIfInBounds_toArray, List.set_cons_zero, List.set_cons_succ])
  have HD_ := Aside0.mk (HD.out.below (below_drew1 (Below.refl _ _)))
  have B2_ := Aside0.mk (blk_drew B2.out)
  have HB_ := Aside0.mk (below_drew1 HB.out)
  have B5_ := Aside0.mk (blk_drew B5.out)
  clear HD B2 HB B5 
  have HD := HD_
  have B2 := B2_
  have HB := HB_
  have B5 := B5_
  clear HD_ B2_ HB_ B5_
  refine start_ (n := 15) (S := fun w' => w'.cell? ⟨g, 0, none⟩ = some (.pointer (some ⟨gr, 0, none⟩))) (ds := []) #[false, false, false, false, false, false, false, false, false, false, false, false, false, false, false] (by kernel_rfl) rfl rfl ((blk_cell HD.out.blk 0).trans rfl) (fun hHeld => ?_)
  generalize World.drew ws2 = wd3 at HD B2 HB B5 hHeld ⊢
  refine pure_ (i := 0) (N := some 26) (v := ?_) (a' := ?_) #[true, false, false, false, false, false, false, false, false, false, false, false, false, false, false] rfl rfl (by kernel_rfl) (fun _ _ _ h => h) (Or.inl ⟨by rfl, ?_⟩) ?_ ?_
  rotate_left
  · intro w'
    go_simp
    with_reducible rfl
  rotate_left
  · simp only [Act.put, List.setIfInBounds_toArray, List.set_cons_zero, List.set_cons_succ, i64_w, i32_w]
    rfl
  refine pure_ (i := 2) (N := some 28) (v := ?_) (a' := ?_) #[true, false, true, false, false, false, false, false, false, false, false, false, false, false, false] rfl rfl (by kernel_rfl) (fun _ _ _ h => h) (Or.inl ⟨by rfl, ?_⟩) ?_ ?_
  rotate_left
  · intro w'
    go_simp
    with_reducible rfl
  rotate_left
  · simp only [Act.put, List.setIfInBounds_toArray, List.set_cons_zero, List.set_cons_succ, i64_w, i32_w]
    rfl
  refine pure_ (i := 4) (N := some 30) (v := ?_) (a' := ?_) #[true, false, true, false, true, false, false, false, false, false, false, false, false, false, false] rfl rfl (by kernel_rfl) (fun _ _ _ h => h) (Or.inl ⟨by rfl, ?_⟩) ?_ ?_
  rotate_left
  · intro w'
    go_simp
    with_reducible rfl
  rotate_left
  · simp only [Act.put, List.setIfInBounds_toArray, List.set_cons_zero, List.set_cons_succ, i64_w, i32_w]
    rfl
  refine pure_ (i := 5) (N := some 31) (v := ?_) (a' := ?_) #[true, false, true, false, true, true, false, false, false, false, false, false, false, false, false] rfl rfl (by kernel_rfl) (fun _ _ _ h => h) (Or.inl ⟨by rfl, ?_⟩) ?_ ?_
  rotate_left
  · intro w'
    go_simp
    with_reducible rfl
  rotate_left
  · simp only [Act.put, List.setIfInBounds_toArray, List.set_cons_zero, List.set_cons_succ, i64_w, i32_w]
    rfl
  refine pure_ (i := 6) (N := some 32) (v := ?_) (a' := ?_) #[true, false, true, false, true, true, true, false, false, false, false, false, false, false, false] rfl rfl (by kernel_rfl) (fun _ _ _ h => h) (Or.inl ⟨by rfl, ?_⟩) ?_ ?_
  rotate_left
  · intro w'
    go_simp
    with_reducible rfl
  rotate_left
  · simp only [Act.put, List.setIfInBounds_toArray, List.set_cons_zero, List.set_cons_succ, i64_w, i32_w]
    rfl
  refine take_ (i := 7) (N := some 33) (v := ?_) (a' := ?_) #[true, false, true, false, true, true, true, true, false, false, false, false, false, false, false] rfl rfl (by kernel_rfl) (fun _ _ _ h => h) (Or.inl ⟨by rfl, ?_⟩) hHeld ?_ ?_
  rotate_left
  · intro w' s0
    go_simp
    with_reducible rfl
  rotate_left
  · simp only [Act.put, List.setIfInBounds_toArray, List.set_cons_zero, List.set_cons_succ, i64_w, i32_w]
    rfl
  refine one_ (i := 1) (N := some 27) #[true, true, true, false, true, true, true, true, false, false, false, false, false, false, false] rfl rfl (by kernel_rfl) (by decide) (fun K hK => ?_)
  refine goes_ Try.func152 (by kernel_rfl) rfl #[.pointer (some ⟨g, 0, none⟩)] (by rfl) rfl rfl (by first | (simp only [List.map_toArray, List.map_cons, List.map_nil]; done) | (simp only [List.map_toArray, List.map_cons, List.map_nil]; rfl)) ?_
  with_reducible refine (M4.out _ HD.out).mono ?_
  rintro e w3_1 ⟨rfl, hd, hw⟩
  refine ⟨_, rfl, ?_⟩
  have HD_ := Aside0.mk hd
  have HB_ := Aside0.mk (HB.out.trans (hw.below GG.out GR.out HB.out.size))
  have B2_ := Aside0.mk (hw.blk B2.out N2g.out N2r.out)
  have B5_ := Aside0.mk (hw.blk B5.out N5g.out N5r.out)
  clear HD HB B2 B5 hd hw
  have HD := HD_
  have HB := HB_
  have B2 := B2_
  have B5 := B5_
  clear HD_ HB_ B2_ B5_
  refine hK.out _ _ ((blk_cell HD.out.blk 0).trans rfl) (fun hHeld => ?_)
  clear hK K
  refine norm_ (a' := ?_) ?_ ?_
  rotate_left
  · show Act.put _ (some 27) _ = _
    simp only [Act.put, List.setIfInBounds_toArray, List.set_cons_zero, List.set_cons_succ, i64_w, i32_w]
    rfl
  refine pure_ (i := 9) (N := some 35) (v := ?_) (a' := ?_) #[true, true, true, false, true, true, true, true, false, true, false, false, false, false, false] rfl rfl (by kernel_rfl) (fun _ _ _ h => h) (Or.inl ⟨by rfl, ?_⟩) ?_ ?_
  rotate_left
  · intro w'
    go_simp
    with_reducible rfl
  rotate_left
  · simp only [Act.put, List.setIfInBounds_toArray, List.set_cons_zero, List.set_cons_succ, i64_w, i32_w]
    rfl
  refine one_ (i := 3) (N := some 29) #[true, true, true, true, true, true, true, true, false, true, false, false, false, false, false] rfl rfl (by kernel_rfl) (by decide) (fun K hK => ?_)
  refine goes_ Try.func152 (by kernel_rfl) rfl #[.pointer (some ⟨g, 0, none⟩)] (by rfl) rfl rfl (by first | (simp only [List.map_toArray, List.map_cons, List.map_nil]; done) | (simp only [List.map_toArray, List.map_cons, List.map_nil]; rfl)) ?_
  with_reducible refine (M5.out _ HD.out).mono ?_
  rintro e w3_3 ⟨rfl, hd, hw⟩
  refine ⟨_, rfl, ?_⟩
  have HD_ := Aside0.mk hd
  have HB_ := Aside0.mk (HB.out.trans (hw.below GG.out GR.out HB.out.size))
  have B2_ := Aside0.mk (hw.blk B2.out N2g.out N2r.out)
  have B5_ := Aside0.mk (hw.blk B5.out N5g.out N5r.out)
  clear HD HB B2 B5 hd hw
  have HD := HD_
  have HB := HB_
  have B2 := B2_
  have B5 := B5_
  clear HD_ HB_ B2_ B5_
  refine hK.out _ _ ((blk_cell HD.out.blk 0).trans rfl) (fun hHeld => ?_)
  clear hK K
  refine norm_ (a' := ?_) ?_ ?_
  rotate_left
  · show Act.put _ (some 29) _ = _
    simp only [Act.put, List.setIfInBounds_toArray, List.set_cons_zero, List.set_cons_succ, i64_w, i32_w]
    rfl
  refine one_ (i := 8) (N := some 34) #[true, true, true, true, true, true, true, true, true, true, false, false, false, false, false] rfl rfl (by kernel_rfl) (by decide) (fun K hK => ?_)
  refine goes_ Try.func61 (by kernel_rfl) rfl #[.pointer (some ⟨gr, 0, none⟩)] (by rfl) rfl rfl (by first | (simp only [List.map_toArray, List.map_cons, List.map_nil]; done) | (simp only [List.map_toArray, List.map_cons, List.map_nil]; rfl)) ?_
  with_reducible refine (M6.out _ HD.out).mono ?_
  rintro e w3_8 ⟨rfl, hd, hw⟩
  refine ⟨_, rfl, ?_⟩
  have HD_ := Aside0.mk hd
  have HB_ := Aside0.mk (HB.out.trans (hw.below GG.out GR.out HB.out.size))
  have B2_ := Aside0.mk (hw.blk B2.out N2g.out N2r.out)
  have B5_ := Aside0.mk (hw.blk B5.out N5g.out N5r.out)
  clear HD HB B2 B5 hd hw
  have HD := HD_
  have HB := HB_
  have B2 := B2_
  have B5 := B5_
  clear HD_ HB_ B2_ B5_
  refine hK.out _ _ ((blk_cell HD.out.blk 0).trans rfl) (fun hHeld => ?_)
  clear hK K
  refine norm_ (a' := ?_) ?_ ?_
  rotate_left
  · show Act.put _ (some 34) _ = _
    simp only [Act.put, List.setIfInBounds_toArray, List.set_cons_zero, List.set_cons_succ, i64_w, i32_w]
    rfl
  refine one_ (i := 10) (N := none) #[true, true, true, true, true, true, true, true, true, true, true, false, false, false, false] rfl rfl (by kernel_rfl) (by decide) (fun K hK => ?_)
  have hx := (blk_cell B5.out 4).trans (show _ = some (.int .i64 0) from rfl)
  have fx := blk_frozen B5.out 4
  refine skip_ (w1 := (w3_8.setCell ⟨g5, 4, none⟩ (.int .i64 (mn v4 2147483647)))) (by rfl) rfl ?_ ?_
  · go_simp
    try rfl
  clear hx fx
  have HD_ := Aside0.mk (show IsD g gr (w3_8.setCell ⟨g5, 4, none⟩ (.int .i64 (mn v4 2147483647))) _ _ _ from IsD.box HD.out B5.out (by intro v hv x; simp only [List.mem_cons, List.not_mem_nil, or_false] at hv; rcases hv with rfl | rfl | rfl | rfl | rfl | rfl | rfl | rfl | rfl <;> (intro h_; cases h_)) ((Wr.refl _ g5 _).setCell 4 _) (Ne.symm N5g.out) (Ne.symm N5r.out))
  have B5_ := Aside0.mk (show (w3_8.setCell ⟨g5, 4, none⟩ (.int .i64 (mn v4 2147483647))).heap[g5]? = some (.cells #[.string (strOfNums v0), .int .i64 (mn v1 2147483647), .bool v2, .bool v3, .int .i64 (mn v4 2147483647), .int .i64 0, .string ⟨#[]⟩, .int .i64 0, .int .i64 0] 89 (0, 0)) from (by refine blk_put (cs := #[.string (strOfNums v0), .int .i64 (mn v1 2147483647), .bool v2, .bool v3, .int .i64 0, .int .i64 0, .string ⟨#[]⟩, .int .i64 0, .int .i64 0]) ?_ 4 _ rfl; exact B5.out))
  have B2_ := Aside0.mk (show (w3_8.setCell ⟨g5, 4, none⟩ (.int .i64 (mn v4 2147483647))).heap[g2]? = some (.cells #[.string ⟨#[]⟩, .int .i64 0, .bool false, .bool false, .int .i64 0, .int .i64 0, .string ⟨#[]⟩, .int .i64 0, .int .i64 0] 89 (0, 0)) from (by (iterate 1 (refine blk_far ?_ N25.out _)); exact B2.out))
  have HB_ := Aside0.mk (show Below w.heap.size w (w3_8.setCell ⟨g5, 4, none⟩ (.int .i64 (mn v4 2147483647))) from (by (iterate 1 (refine below_set ?_ GE5.out)); exact HB.out))
  clear HD B5 B2 HB
  generalize (w3_8.setCell ⟨g5, 4, none⟩ (.int .i64 (mn v4 2147483647))) = ws3_10 at HD_ B5_ B2_ HB_ ⊢
  have HD := HD_
  have B5 := B5_
  have B2 := B2_
  have HB := HB_
  clear HD_ B5_ B2_ HB_
  refine hK.out _ _ ((blk_cell HD.out.blk 0).trans rfl) (fun hHeld => ?_)
  clear hK K
  refine pure_ (i := 11) (N := some 36) (v := ?_) (a' := ?_) #[true, true, true, true, true, true, true, true, true, true, true, true, false, false, false] rfl rfl (by kernel_rfl) (fun _ _ _ h => h) (Or.inl ⟨by rfl, ?_⟩) ?_ ?_
  rotate_left
  · intro w'
    go_simp
    with_reducible rfl
  rotate_left
  · simp only [Act.put, List.setIfInBounds_toArray, List.set_cons_zero, List.set_cons_succ, i64_w, i32_w]
    rfl
  refine one_ (i := 12) (N := none) #[true, true, true, true, true, true, true, true, true, true, true, true, true, false, false] rfl rfl (by kernel_rfl) (by decide) (fun K hK => ?_)
  have hx := (blk_cell B5.out 5).trans (show _ = some (.int .i64 0) from rfl)
  have fx := blk_frozen B5.out 5
  refine skip_ (w1 := (ws3_10.setCell ⟨g5, 5, none⟩ (.int .i64 (mn v5 2147483647)))) (by rfl) rfl ?_ ?_
  · go_simp
    try rfl
  clear hx fx
  have HD_ := Aside0.mk (show IsD g gr (ws3_10.setCell ⟨g5, 5, none⟩ (.int .i64 (mn v5 2147483647))) _ _ _ from IsD.box HD.out B5.out (by intro v hv x; simp only [List.mem_cons, List.not_mem_nil, or_false] at hv; rcases hv with rfl | rfl | rfl | rfl | rfl | rfl | rfl | rfl | rfl <;> (intro h_; cases h_)) ((Wr.refl _ g5 _).setCell 5 _) (Ne.symm N5g.out) (Ne.symm N5r.out))
  have B5_ := Aside0.mk (show (ws3_10.setCell ⟨g5, 5, none⟩ (.int .i64 (mn v5 2147483647))).heap[g5]? = some (.cells #[.string (strOfNums v0), .int .i64 (mn v1 2147483647), .bool v2, .bool v3, .int .i64 (mn v4 2147483647), .int .i64 (mn v5 2147483647), .string ⟨#[]⟩, .int .i64 0, .int .i64 0] 89 (0, 0)) from (by refine blk_put (cs := #[.string (strOfNums v0), .int .i64 (mn v1 2147483647), .bool v2, .bool v3, .int .i64 (mn v4 2147483647), .int .i64 0, .string ⟨#[]⟩, .int .i64 0, .int .i64 0]) ?_ 5 _ rfl; exact B5.out))
  have B2_ := Aside0.mk (show (ws3_10.setCell ⟨g5, 5, none⟩ (.int .i64 (mn v5 2147483647))).heap[g2]? = some (.cells #[.string ⟨#[]⟩, .int .i64 0, .bool false, .bool false, .int .i64 0, .int .i64 0, .string ⟨#[]⟩, .int .i64 0, .int .i64 0] 89 (0, 0)) from (by (iterate 1 (refine blk_far ?_ N25.out _)); exact B2.out))
  have HB_ := Aside0.mk (show Below w.heap.size w (ws3_10.setCell ⟨g5, 5, none⟩ (.int .i64 (mn v5 2147483647))) from (by (iterate 1 (refine below_set ?_ GE5.out)); exact HB.out))
  clear HD B5 B2 HB
  generalize (ws3_10.setCell ⟨g5, 5, none⟩ (.int .i64 (mn v5 2147483647))) = ws3_12 at HD_ B5_ B2_ HB_ ⊢
  have HD := HD_
  have B5 := B5_
  have B2 := B2_
  have HB := HB_
  clear HD_ B5_ B2_ HB_
  refine hK.out _ _ ((blk_cell HD.out.blk 0).trans rfl) (fun hHeld => ?_)
  clear hK K
  refine pure_ (i := 13) (N := some 37) (v := ?_) (a' := ?_) #[true, true, true, true, true, true, true, true, true, true, true, true, true, true, false] rfl rfl (by kernel_rfl) (fun _ _ _ h => h) (Or.inl ⟨by rfl, ?_⟩) ?_ ?_
  rotate_left
  · intro w'
    go_simp
    with_reducible rfl
  rotate_left
  · simp only [Act.put, List.setIfInBounds_toArray, List.set_cons_zero, List.set_cons_succ, i64_w, i32_w]
    rfl
  refine one_ (i := 14) (N := none) #[true, true, true, true, true, true, true, true, true, true, true, true, true, true, true] rfl rfl (by kernel_rfl) (by decide) (fun K hK => ?_)
  have hx := (blk_cell B5.out 6).trans (show _ = some (.string ⟨#[]⟩) from rfl)
  have fx := blk_frozen B5.out 6
  refine skip_ (w1 := (ws3_12.setCell ⟨g5, 6, none⟩ (.string (strOfNums v6)))) (by rfl) rfl ?_ ?_
  · go_simp
    try rfl
  clear hx fx
  have HD_ := Aside0.mk (show IsD g gr (ws3_12.setCell ⟨g5, 6, none⟩ (.string (strOfNums v6))) _ _ _ from IsD.box HD.out B5.out (by intro v hv x; simp only [List.mem_cons, List.not_mem_nil, or_false] at hv; rcases hv with rfl | rfl | rfl | rfl | rfl | rfl | rfl | rfl | rfl <;> (intro h_; cases h_)) ((Wr.refl _ g5 _).setCell 6 _) (Ne.symm N5g.out) (Ne.symm N5r.out))
  have B5_ := Aside0.mk (show (ws3_12.setCell ⟨g5, 6, none⟩ (.string (strOfNums v6))).heap[g5]? = some (.cells #[.string (strOfNums v0), .int .i64 (mn v1 2147483647), .bool v2, .bool v3, .int .i64 (mn v4 2147483647), .int .i64 (mn v5 2147483647), .string (strOfNums v6), .int .i64 0, .int .i64 0] 89 (0, 0)) from (by refine blk_put (cs := #[.string (strOfNums v0), .int .i64 (mn v1 2147483647), .bool v2, .bool v3, .int .i64 (mn v4 2147483647), .int .i64 (mn v5 2147483647), .string ⟨#[]⟩, .int .i64 0, .int .i64 0]) ?_ 6 _ rfl; exact B5.out))
  have B2_ := Aside0.mk (show (ws3_12.setCell ⟨g5, 6, none⟩ (.string (strOfNums v6))).heap[g2]? = some (.cells #[.string ⟨#[]⟩, .int .i64 0, .bool false, .bool false, .int .i64 0, .int .i64 0, .string ⟨#[]⟩, .int .i64 0, .int .i64 0] 89 (0, 0)) from (by (iterate 1 (refine blk_far ?_ N25.out _)); exact B2.out))
  have HB_ := Aside0.mk (show Below w.heap.size w (ws3_12.setCell ⟨g5, 6, none⟩ (.string (strOfNums v6))) from (by (iterate 1 (refine below_set ?_ GE5.out)); exact HB.out))
  clear HD B5 B2 HB
  generalize (ws3_12.setCell ⟨g5, 6, none⟩ (.string (strOfNums v6))) = ws3_14 at HD_ B5_ B2_ HB_ ⊢
  have HD := HD_
  have B5 := B5_
  have B2 := B2_
  have HB := HB_
  clear HD_ B5_ B2_ HB_
  refine hK.out _ _ ((blk_cell HD.out.blk 0).trans rfl) (fun hHeld => ?_)
  clear hK K
  refine done_ (by kernel_rfl) ?_
  have T7 : True := trivial
  go_upto_region 4 with (fail)
  (try simp only [Act.put, List.setIfInBounds_toArray, List.set_cons_zero, List.set_cons_succ])
  go_cut [] (fun wc => Aside0 (IsD g gr wc l9 q9 (((((false || decide (2147483647 < v1)) || decide (2147483647 < v4)) || decide (2147483647 < v5)) || decide (2147483647 < v7)) || decide (2147483647 < v8))) ∧ Aside0 (wc.heap[g2]? = some (.cells #[.string ⟨#[]⟩, .int .i64 0, .bool false, .bool false, .int .i64 0, .int .i64 0, .string ⟨#[]⟩, .int .i64 0, .int .i64 0] 89 (0, 0))) ∧ Aside0 (wc.heap[g5]? = some (.cells #[.string (strOfNums v0), .int .i64 (mn v1 2147483647), .bool v2, .bool v3, .int .i64 (mn v4 2147483647), .int .i64 (mn v5 2147483647), .string (strOfNums v6), .int .i64 (mn v7 2147483647), .int .i64 (mn v8 2147483647)] 89 (0, 0))) ∧ Aside0 (Below w.heap.size w wc))
  case first =>
    go_wp2_with (first
      | (go_at_call 152; have _t := T7; (with_reducible refine (M7.out _ HD.out).mono ?_); rintro e wp7 ⟨rfl, hd, hw⟩; have HD_ := Aside0.mk hd; have HB_ := Aside0.mk (HB.out.trans (hw.below GG.out GR.out HB.out.size)); have B2_ := Aside0.mk (hw.blk B2.out N2g.out N2r.out); have B5_ := Aside0.mk (hw.blk B5.out N5g.out N5r.out); clear HD HB B2 B5 hd hw; have HD := HD_; have HB := HB_; have B2 := B2_; have B5 := B5_; clear HD_ HB_ B2_ B5_; clear T7; have T8 : True := trivial)
      | (go_at_call 152; have _t := T8; (with_reducible refine (M8.out _ HD.out).mono ?_); rintro e wp8 ⟨rfl, hd, hw⟩; have HD_ := Aside0.mk hd; have HB_ := Aside0.mk (HB.out.trans (hw.below GG.out GR.out HB.out.size)); have B2_ := Aside0.mk (hw.blk B2.out N2g.out N2r.out); have B5_ := Aside0.mk (hw.blk B5.out N5g.out N5r.out); clear HD HB B2 B5 hd hw; have HD := HD_; have HB := HB_; have B2 := B2_; have B5 := B5_; clear HD_ HB_ B2_ B5_; clear T8; have T9 : True := trivial; have hz7 := (blk_cell B5.out 7).trans (show _ = some (.int .i64 0) from rfl); have fz7 := blk_frozen B5.out 7; have hz8 := (blk_cell B5.out 8).trans (show _ = some (.int .i64 0) from rfl); have fz8 := blk_frozen B5.out 8))
    go_meet
    case rel => exact ⟨⟨IsD.box HD.out B5.out (by intro v hv x; simp only [List.mem_cons, List.not_mem_nil, or_false] at hv; rcases hv with rfl | rfl | rfl | rfl | rfl | rfl | rfl | rfl | rfl <;> (intro h_; cases h_)) (((Wr.refl _ g5 _).setCell 7 _).setCell 8 _) (Ne.symm N5g.out) (Ne.symm N5r.out)⟩, ⟨by (iterate 2 (refine blk_far ?_ N25.out _)); exact B2.out⟩, ⟨by refine blk_put (cs := #[.string (strOfNums v0), .int .i64 (mn v1 2147483647), .bool v2, .bool v3, .int .i64 (mn v4 2147483647), .int .i64 (mn v5 2147483647), .string (strOfNums v6), .int .i64 (mn v7 2147483647), .int .i64 0]) ?_ 8 _ rfl; refine blk_put (cs := #[.string (strOfNums v0), .int .i64 (mn v1 2147483647), .bool v2, .bool v3, .int .i64 (mn v4 2147483647), .int .i64 (mn v5 2147483647), .string (strOfNums v6), .int .i64 0, .int .i64 0]) ?_ 7 _ rfl; exact B5.out⟩, ⟨by (iterate 2 (refine below_set ?_ GE5.out)); exact HB.out⟩⟩
  case rest =>
    obtain ⟨HD, B2, B5, HB⟩ := hcut
    have WC := Aside0.mk (fun W h => whole_B g gr l9 q9 (((((false || decide (2147483647 < v1)) || decide (2147483647 < v4)) || decide (2147483647 < v5)) || decide (2147483647 < v7)) || decide (2147483647 < v8)) ((strOfNums v0)) ((mn v1 2147483647)) (v2) (v3) ((mn v4 2147483647)) ((mn v5 2147483647)) ((strOfNums v6)) ((mn v7 2147483647)) ((mn v8 2147483647)) W h good HG.out)
    clear HG
    have hu0 := (blk_cell B5.out 0).trans (show _ = some (.string (strOfNums v0)) from rfl)
    have fu0 := blk_frozen B5.out 0
    have hu1 := (blk_cell B5.out 1).trans (show _ = some (.int .i64 (mn v1 2147483647)) from rfl)
    have fu1 := blk_frozen B5.out 1
    have hu2 := (blk_cell B5.out 2).trans (show _ = some (.bool v2) from rfl)
    have fu2 := blk_frozen B5.out 2
    have hu3 := (blk_cell B5.out 3).trans (show _ = some (.bool v3) from rfl)
    have fu3 := blk_frozen B5.out 3
    have hu4 := (blk_cell B5.out 4).trans (show _ = some (.int .i64 (mn v4 2147483647)) from rfl)
    have fu4 := blk_frozen B5.out 4
    have hu5 := (blk_cell B5.out 5).trans (show _ = some (.int .i64 (mn v5 2147483647)) from rfl)
    have fu5 := blk_frozen B5.out 5
    have hu6 := (blk_cell B5.out 6).trans (show _ = some (.string (strOfNums v6)) from rfl)
    have fu6 := blk_frozen B5.out 6
    have hu7 := (blk_cell B5.out 7).trans (show _ = some (.int .i64 (mn v7 2147483647)) from rfl)
    have fu7 := blk_frozen B5.out 7
    have hu8 := (blk_cell B5.out 8).trans (show _ = some (.int .i64 (mn v8 2147483647)) from rfl)
    have fu8 := blk_frozen B5.out 8
    have hn25 := N25.out
    have hn52 := Ne.symm N25.out
    cases good with
    | true =>
      rw [if_pos rfl] at WC
      go_wp2_with (go_at_call 153; (with_reducible refine (WC.out _ HD.out).mono ?_); rintro e wz ⟨rfl, hb⟩; have x_ := Aside0.mk (blk_below B2.out hb); have nb_ := Aside0.mk (below_step HB.out hb); clear B2 HB hb; have B2 := x_; have HB := nb_; clear x_ nb_; have hy0 := (blk_cell B2.out 0).trans (show _ = some (.string ⟨#[]⟩) from rfl); have fy0 := blk_frozen B2.out 0; have hy1 := (blk_cell B2.out 1).trans (show _ = some (.int .i64 0) from rfl); have fy1 := blk_frozen B2.out 1; have hy2 := (blk_cell B2.out 2).trans (show _ = some (.bool false) from rfl); have fy2 := blk_frozen B2.out 2; have hy3 := (blk_cell B2.out 3).trans (show _ = some (.bool false) from rfl); have fy3 := blk_frozen B2.out 3; have hy4 := (blk_cell B2.out 4).trans (show _ = some (.int .i64 0) from rfl); have fy4 := blk_frozen B2.out 4; have hy5 := (blk_cell B2.out 5).trans (show _ = some (.int .i64 0) from rfl); have fy5 := blk_frozen B2.out 5; have hy6 := (blk_cell B2.out 6).trans (show _ = some (.string ⟨#[]⟩) from rfl); have fy6 := blk_frozen B2.out 6; have hy7 := (blk_cell B2.out 7).trans (show _ = some (.int .i64 0) from rfl); have fy7 := blk_frozen B2.out 7; have hy8 := (blk_cell B2.out 8).trans (show _ = some (.int .i64 0) from rfl); have fy8 := blk_frozen B2.out 8)
      refine bodyPost_ret (results_cell_tmpR rfl _ _ g2 89 #[.string (strOfNums v0), .int .i64 (mn v1 2147483647), .bool v2, .bool v3, .int .i64 (mn v4 2147483647), .int .i64 (mn v5 2147483647), .string (strOfNums v6), .int .i64 (mn v7 2147483647), .int .i64 (mn v8 2147483647)] (0, 0) _ (.int .i64 0) rfl (by refine blk_put (cs := #[.string (strOfNums v0), .int .i64 (mn v1 2147483647), .bool v2, .bool v3, .int .i64 (mn v4 2147483647), .int .i64 (mn v5 2147483647), .string (strOfNums v6), .int .i64 (mn v7 2147483647), .int .i64 0]) ?_ 8 _ rfl; refine blk_put (cs := #[.string (strOfNums v0), .int .i64 (mn v1 2147483647), .bool v2, .bool v3, .int .i64 (mn v4 2147483647), .int .i64 (mn v5 2147483647), .string (strOfNums v6), .int .i64 0, .int .i64 0]) ?_ 7 _ rfl; refine blk_put (cs := #[.string (strOfNums v0), .int .i64 (mn v1 2147483647), .bool v2, .bool v3, .int .i64 (mn v4 2147483647), .int .i64 (mn v5 2147483647), .string ⟨#[]⟩, .int .i64 0, .int .i64 0]) ?_ 6 _ rfl; refine blk_put (cs := #[.string (strOfNums v0), .int .i64 (mn v1 2147483647), .bool v2, .bool v3, .int .i64 (mn v4 2147483647), .int .i64 0, .string ⟨#[]⟩, .int .i64 0, .int .i64 0]) ?_ 5 _ rfl; refine blk_put (cs := #[.string (strOfNums v0), .int .i64 (mn v1 2147483647), .bool v2, .bool v3, .int .i64 0, .int .i64 0, .string ⟨#[]⟩, .int .i64 0, .int .i64 0]) ?_ 4 _ rfl; refine blk_put (cs := #[.string (strOfNums v0), .int .i64 (mn v1 2147483647), .bool v2, .bool false, .int .i64 0, .int .i64 0, .string ⟨#[]⟩, .int .i64 0, .int .i64 0]) ?_ 3 _ rfl; refine blk_put (cs := #[.string (strOfNums v0), .int .i64 (mn v1 2147483647), .bool false, .bool false, .int .i64 0, .int .i64 0, .string ⟨#[]⟩, .int .i64 0, .int .i64 0]) ?_ 2 _ rfl; refine blk_put (cs := #[.string (strOfNums v0), .int .i64 0, .bool false, .bool false, .int .i64 0, .int .i64 0, .string ⟨#[]⟩, .int .i64 0, .int .i64 0]) ?_ 1 _ rfl; refine blk_put (cs := #[.string ⟨#[]⟩, .int .i64 0, .bool false, .bool false, .int .i64 0, .int .i64 0, .string ⟨#[]⟩, .int .i64 0, .int .i64 0]) ?_ 0 _ rfl; exact B2.out) Try.underlying89 rfl (by kernel_rfl) rfl) rfl ?_
      exact ⟨rfl, by (iterate 9 (refine below_set ?_ GE2.out)); exact HB.out⟩
    | false =>
      rw [if_neg (by decide)] at WC
      go_wp2_with (go_at_call 153; (with_reducible refine (WC.out _ HD.out).mono ?_); rintro e wz ⟨rfl, hb⟩; have x_ := Aside0.mk (blk_below B2.out hb); have nb_ := Aside0.mk (below_step HB.out hb); clear B2 HB hb; have B2 := x_; have HB := nb_; clear x_ nb_; have hy0 := (blk_cell B2.out 0).trans (show _ = some (.string ⟨#[]⟩) from rfl); have fy0 := blk_frozen B2.out 0; have hy1 := (blk_cell B2.out 1).trans (show _ = some (.int .i64 0) from rfl); have fy1 := blk_frozen B2.out 1; have hy2 := (blk_cell B2.out 2).trans (show _ = some (.bool false) from rfl); have fy2 := blk_frozen B2.out 2; have hy3 := (blk_cell B2.out 3).trans (show _ = some (.bool false) from rfl); have fy3 := blk_frozen B2.out 3; have hy4 := (blk_cell B2.out 4).trans (show _ = some (.int .i64 0) from rfl); have fy4 := blk_frozen B2.out 4; have hy5 := (blk_cell B2.out 5).trans (show _ = some (.int .i64 0) from rfl); have fy5 := blk_frozen B2.out 5; have hy6 := (blk_cell B2.out 6).trans (show _ = some (.string ⟨#[]⟩) from rfl); have fy6 := blk_frozen B2.out 6; have hy7 := (blk_cell B2.out 7).trans (show _ = some (.int .i64 0) from rfl); have fy7 := blk_frozen B2.out 7; have hy8 := (blk_cell B2.out 8).trans (show _ = some (.int .i64 0) from rfl); have fy8 := blk_frozen B2.out 8)
      refine bodyPost_ret (results_cell_tmpR rfl _ _ g2 89 #[.string ⟨#[]⟩, .int .i64 0, .bool false, .bool false, .int .i64 0, .int .i64 0, .string ⟨#[]⟩, .int .i64 0, .int .i64 0] (0, 0) _ (.int .i64 4) rfl (by refine blk_put (cs := #[.string ⟨#[]⟩, .int .i64 0, .bool false, .bool false, .int .i64 0, .int .i64 0, .string ⟨#[]⟩, .int .i64 0, .int .i64 0]) ?_ 8 _ rfl; refine blk_put (cs := #[.string ⟨#[]⟩, .int .i64 0, .bool false, .bool false, .int .i64 0, .int .i64 0, .string ⟨#[]⟩, .int .i64 0, .int .i64 0]) ?_ 7 _ rfl; refine blk_put (cs := #[.string ⟨#[]⟩, .int .i64 0, .bool false, .bool false, .int .i64 0, .int .i64 0, .string ⟨#[]⟩, .int .i64 0, .int .i64 0]) ?_ 6 _ rfl; refine blk_put (cs := #[.string ⟨#[]⟩, .int .i64 0, .bool false, .bool false, .int .i64 0, .int .i64 0, .string ⟨#[]⟩, .int .i64 0, .int .i64 0]) ?_ 5 _ rfl; refine blk_put (cs := #[.string ⟨#[]⟩, .int .i64 0, .bool false, .bool false, .int .i64 0, .int .i64 0, .string ⟨#[]⟩, .int .i64 0, .int .i64 0]) ?_ 4 _ rfl; refine blk_put (cs := #[.string ⟨#[]⟩, .int .i64 0, .bool false, .bool false, .int .i64 0, .int .i64 0, .string ⟨#[]⟩, .int .i64 0, .int .i64 0]) ?_ 3 _ rfl; refine blk_put (cs := #[.string ⟨#[]⟩, .int .i64 0, .bool false, .bool false, .int .i64 0, .int .i64 0, .string ⟨#[]⟩, .int .i64 0, .int .i64 0]) ?_ 2 _ rfl; refine blk_put (cs := #[.string ⟨#[]⟩, .int .i64 0, .bool false, .bool false, .int .i64 0, .int .i64 0, .string ⟨#[]⟩, .int .i64 0, .int .i64 0]) ?_ 1 _ rfl; refine blk_put (cs := #[.string ⟨#[]⟩, .int .i64 0, .bool false, .bool false, .int .i64 0, .int .i64 0, .string ⟨#[]⟩, .int .i64 0, .int .i64 0]) ?_ 0 _ rfl; exact B2.out) Try.underlying89 rfl (by kernel_rfl) rfl) rfl ?_
      exact ⟨rfl, by (iterate 9 (refine below_set ?_ GE2.out)); exact HB.out⟩
end Go.Proofs.Ytlnpmodhejakiaa.RW
