/- audit.Read by hand. -/
import Derived.Test.YtlnpmodhejakiaaZAudR
import Derived.Test.YtlnpmodhejakiaaZCanE
namespace Go.Proofs.Ytlnpmodhejakiaa.AV
open Go.RowKit Go.Proofs.YtlnpmodhejakiaaW.PrintWords Go.Proofs.YtlnpmodhejakiaaW.PrintLast Go.Proofs.YtlnpmodhejakiaaW.PrintMore Go.Proofs.Ytlnpmodhejakiaa.Sha Go.Proofs.Ytlnpmodhejakiaa.D Go.Proofs.Ytlnpmodhejakiaa.PC Go.Proofs.Ytlnpmodhejakiaa.CP Go.Proofs.Ytlnpmodhejakiaa.PV
attribute [local go_sem] max2_int min2_int max_two min_two max_three min_three max_four min_four
set_option linter.unusedVariables false
set_option linter.unusedSimpArgs false
theorem below_wr {w w1 w2 : World} {g : Nat} (HB : Below w.heap.size w w1) (hW : Wr w1.heap.size g w1 w2) (hg : w.heap.size ≤ g) : Below w.heap.size w w2 := HB.trans ((hW.lower HB.size).below hg)
theorem R_wrr {w w' : World} {base g : Nat} {v : Value} {l : List Int} (h : Kd.R (Kd.int .u8) 5 w base (fun _ => True) v l) (hW : Wr w.heap.size g w w') (hg : g < base) : Kd.R (Kd.int .u8) 5 w' base (fun _ => True) v l :=
  Kd.R_mono (Kd.R_step (Kd.R_bound h) (fun k hk hlt => hW.block k hlt (by have := hk.2.1; omega))) (fun _ _ => trivial)
theorem R_offs {w : World} {base g : Nat} {v : Value} {l : List Int} (h : Kd.R (Kd.int .u8) 5 w base (fun _ => True) v l) (hg : g < base) (i : Nat) (u : Value) : Kd.R (Kd.int .u8) 5 (w.setCell ⟨g, i, none⟩ u) base (fun _ => True) v l :=
  Kd.R_mono (Kd.R_far (Kd.R_bound h) (p := ⟨g, i, none⟩) (fun k hk => by show k ≠ g; have := hk.2.1; omega) u) (fun _ _ => trivial)
theorem cell_in {w : World} {p : Addr} {v : Value} {cs : Array Value} {T : TypeId} (h : w.cell? p = some v) (hg : w.heap[p.block]? = some (.cells cs T (0, 0))) : v ∈ cs.toList := by
  unfold World.cell? at h
  rw [hg] at h
  simp only at h
  split at h
  · cases h
  · obtain ⟨hi, e⟩ := Array.getElem?_eq_some_iff.1 h
    rw [← e, Array.mem_toList_iff]
    exact Array.getElem_mem hi
theorem IsR.recb {gx g : Nat} {w w' : World} {l : List Int} {bad : Bool} {a0 a1 a6 a3 a7 : Int} {b2 b4 b5 : ByteArray} {A8 A9 : Option Addr} {m8 c8 m9 c9 : Nat} (h : IsR g w l bad) (hx : w.heap[gx]? = some (.cells #[.int .u64 a0, .int .u64 a1, .string b2, .int .i64 a3, .string b4, .string b5, .int .u64 a6, .int .i64 a7, .slice A8 m8 c8, .slice A9 m9 c9] 69 (0, 0))) (hW : Wr w.heap.size gx w w') (hne : g ≠ gx) : IsR g w' l bad := by
  obtain ⟨A, k, h1, h2, h3, h4⟩ := h
  refine ⟨A, k, hW.blk h1 (blk_lt h1) hne, C_wr' h2 hW (fun h0 ad hA hb => ?_), h3, h4⟩
  obtain ⟨ad', e, hc⟩ := C_at h2 0 h0
  rw [hA] at e
  cases e
  have hb' : (ad.add 0).block = gx := by rw [← hb]; unfold Addr.add; split <;> rfl
  have := cell_in hc (by rw [hb']; exact hx)
  simp at this
theorem results_cell_tmp {P : Program} {fn : Func} {p q : Tmp} {ty : TypeId} (h : fn.results = #[.cell p ty, .tmp q]) (tmps : Array Value) (w : World) (g : Nat) (t : TypeId) (cs : Array Value) (fr : Nat × Nat) (d : TypeDesc) (v : Value)
    (hp : tmps.getD p undef = .pointer (some ⟨g, 0, none⟩)) (hg : w.heap[g]? = some (.cells cs t fr))
    (hu : P.underlying ty = some d) (hd : (match d with | .struct _ | .array _ _ => true | _ => false) = true) (hi : (P.info? ty).map (·.size) = some cs.size) (hv : tmps.getD q undef = v) :
    (results fn tmps).run P w = .ok (.tuple #[.agg cs, v]) w := by
  have hp' : tmps[p]?.getD undef = .pointer (some ⟨g, 0, none⟩) := by simpa using hp
  have hv' : tmps[q]?.getD undef = v := by simpa using hv
  simp [results, h, hp', hv', asAddr, run_loadVar_row w g t ty cs fr d hg hu hd hi]
theorem mn20 (n : Int) (h : 0 ≤ n ∧ n ≤ 18446744073709551615) : IntKind.i64.wrap (mn n 20) = mn n 20 := IntWalk.i64_in _ (by unfold mn; split <;> omega)
theorem mn1e4 (n : Int) (h : 0 ≤ n ∧ n ≤ 18446744073709551615) : IntKind.i64.wrap (mn n 10000) = mn n 10000 := IntWalk.i64_in _ (by unfold mn; split <;> omega)
def RdPost (x : S69) (good : Bool) (w : World) (e : Ending) (w' : World) : Prop := (if good = true then ∃ A8 c8 A9 c9, e = .returned (.tuple #[.agg #[.int .u64 x.f0, .int .u64 x.f1, .string x.f2, .int .i64 x.f3, .string x.f4, .string x.f5, .int .u64 x.f6, .int .i64 x.f7, .slice A8 x.f8.length c8, .slice A9 x.f9.length c9], .int .i64 0]) ∧ RecC w' x A8 c8 A9 c9 else e = .returned (.tuple #[.agg #[.int .u64 0, .int .u64 0, .string ⟨#[]⟩, .int .i64 0, .string ⟨#[]⟩, .string ⟨#[]⟩, .int .u64 0, .int .i64 0, .slice none 0 0, .slice none 0 0], .int .i64 4])) ∧ Below w.heap.size w w'
set_option maxHeartbeats 64000000 in
set_option maxRecDepth 100000 in
theorem aread_any (A : Option Addr) (c : Nat) (b : List Int) (w : World) (hC : Kd.C (Kd.int .u8) w A b.length b) (hc : b.length ≤ c) (hb : b.length ≤ 10000)
    (n0 n1 n3 n6 n7 : Int) (t2 t4 t5 s8 s9 : List Int) (l0 l1 l2 l3 l4 l5 l6 l7 l8 l9 l10 : List Int) (q0 q1 q2 q3 q4 q5 q6 q7 q8 q9 q10 : Bool) (hl0 : l0 = b) (hq0 : q0 = false) (H0 : uintS l0 q0 = (n0, l1, q1)) (K0 : okL l0) (H1 : uintS l1 q1 = (n1, l2, q2)) (K1 : okL l1) (H2 : someS l2 q2 115 = (t2, l3, q3)) (K2 : okL l2) (H3 : uintS l3 q3 = (n3, l4, q4)) (K3 : okL l3) (H4 : someS l4 q4 115 = (t4, l5, q5)) (K4 : okL l4) (H5 : someS l5 q5 115 = (t5, l6, q6)) (K5 : okL l5) (H6 : uintS l6 q6 = (n6, l7, q7)) (K6 : okL l6) (H7 : uintS l7 q7 = (n7, l8, q8)) (K7 : okL l7) (H8 : someS l8 q8 98 = (s8, l9, q9)) (K8 : okL l8) (H9 : someS l9 q9 98 = (s9, l10, q10)) (K9 : okL l9)
    (hn3 : 0 ≤ n3 ∧ n3 ≤ 18446744073709551615) (hn7 : 0 ≤ n7 ∧ n7 ≤ 18446744073709551615) (hX : okX ⟨n0, n1, strOfNums t2, mn n3 20, strOfNums t4, strOfNums t5, n6, mn n7 10000, s8, s9⟩) (good : Bool) (hg : good = (decide (doneS l10 q10 = 0) && rightP ⟨n0, n1, strOfNums t2, mn n3 20, strOfNums t4, strOfNums t5, n6, mn n7 10000, s8, s9⟩)) :
    Calls Try.prog 88 #[.slice A b.length c] w fun e w' => RdPost ⟨n0, n1, strOfNums t2, mn n3 20, strOfNums t4, strOfNums t5, n6, mn n7 10000, s8, s9⟩ good w e w' := by
  have hu69 := Try.underlying69
  subst hl0 hq0
  have HB := Aside0.mk (Below.refl w.heap.size w)
  have HC := Aside0.mk hC
  have Hc := Aside0.mk hc
  have HLN := Aside0.mk hb
  have HX := Aside0.mk hX
  have HG := Aside0.mk hg
  have w20 := mn20 n3 hn3
  have w1e4 := mn1e4 n7 hn7
  clear hC hc hb hX hg
  have T0 : True := trivial
  go_enter Try.func88, Try.ntmps88
  go_upto_region 2 with (first
    | ((with_reducible refine gate_dst (N := 2) rfl ?_); refine box_event ?hg (N := 2) ?hd (cs := #[.int .u64 0, .int .u64 0, .string ⟨#[]⟩, .int .i64 0, .string ⟨#[]⟩, .string ⟨#[]⟩, .int .u64 0, .int .i64 0, .slice none 0 0, .slice none 0 0]) (t := 69) ?hr ?_; (case hd => rfl); (case hg => rfl); (case hr => first | (go_simp; done) | (go_simp; rfl)); intro g2 hg wz hbox hb; have BK2 := Aside0.mk hbox; have GE2 := Aside0.mk (by rw [hg]; exact below_size HB.out : w.heap.size ≤ g2); have nb_ := Aside0.mk (below_step HB.out hb); clear HB; have HB := nb_; clear nb_ hbox hb hg)
    | (go_at_call 56; (with_reducible refine (read_any A c l0 _ (Kd.C_below HC.out HB.out) Hc.out (by have := HLN.out; omega)).mono ?_); rintro e wy ⟨g, rfl, hg, hi, hb⟩; have HI := Aside0.mk hi; have G := Aside0.mk (show w.heap.size ≤ g by have := HB.out.size; omega); have N2 := Aside0.mk (show g2 ≠ g from Nat.ne_of_lt (Nat.lt_of_lt_of_le (blk_lt BK2.out) hg)); have B2_ := Aside0.mk (blk_below BK2.out hb); have HB_ := Aside0.mk (below_step HB.out hb); clear BK2 HB hg hi hb; have BK2 := B2_; have HB := HB_; clear B2_ HB_))
  (try simp only [Act.put, List.setIfInBounds_toArray, List.set_cons_zero, List.set_cons_succ])
  have M0 := Aside0.mk (fun W h => uint_any g l0 false W h K0)
  rw [H0] at M0
  have M1 := Aside0.mk (fun W h => uint_any g l1 q1 W h K1)
  rw [H1] at M1
  have M2 := Aside0.mk (fun W h => text_any g l2 q2 W h K2)
  rw [H2] at M2
  have M3 := Aside0.mk (fun W h => uint_any g l3 q3 W h K3)
  rw [H3] at M3
  have M4 := Aside0.mk (fun W h => text_any g l4 q4 W h K4)
  rw [H4] at M4
  have M5 := Aside0.mk (fun W h => text_any g l5 q5 W h K5)
  rw [H5] at M5
  have M6 := Aside0.mk (fun W h => uint_any g l6 q6 W h K6)
  rw [H6] at M6
  have M7 := Aside0.mk (fun W h => uint_any g l7 q7 W h K7)
  rw [H7] at M7
  have M8 := Aside0.mk (fun W h => bytes_any g l8 q8 W h K8)
  rw [H8] at M8
  have M9 := Aside0.mk (fun W h => bytes_any g l9 q9 W h K9)
  rw [H9] at M9
  clear H0 H1 H2 H3 H4 H5 H6 H7 H8 H9 K0 K1 K2 K3 K4 K5 K6 K7 K8 K9
  go_cut [5] (fun v5 wc => ∃ g5, v5 = .pointer (some ⟨g5, 0, none⟩) ∧ Aside0 (IsR g wc l3 q3) ∧ Aside0 (wc.heap[g2]? = some (.cells #[.int .u64 0, .int .u64 0, .string ⟨#[]⟩, .int .i64 0, .string ⟨#[]⟩, .string ⟨#[]⟩, .int .u64 0, .int .i64 0, .slice none 0 0, .slice none 0 0] 69 (0, 0))) ∧ Aside0 (wc.heap[g5]? = some (.cells #[.int .u64 n0, .int .u64 n1, .string (strOfNums t2), .int .i64 0, .string ⟨#[]⟩, .string ⟨#[]⟩, .int .u64 0, .int .i64 0, .slice none 0 0, .slice none 0 0] 69 (0, 0))) ∧ Aside0 (Below w.heap.size w wc) ∧ Aside0 (g5 ≠ g) ∧ Aside0 (g2 ≠ g5) ∧ Aside0 (g2 < g5) ∧ Aside0 (w.heap.size ≤ g5))
  case first =>
    go_wp2_with (first
      | (go_at_call 57; have _t := T0; (with_reducible refine (M0.out _ HI.out).mono ?_); rintro e w0 ⟨rfl, hi, hW⟩; have HB_ := Aside0.mk (below_wr HB.out hW G.out); have B2_ := Aside0.mk (hW.blk BK2.out (blk_lt BK2.out) N2.out); have HI_ := Aside0.mk hi; clear HI HB BK2 hi hW; have HI := HI_; have HB := HB_; have BK2 := B2_; clear HI_ HB_ B2_ T0; have T1 : True := trivial)
      | (go_at_call 57; have _t := T1; (with_reducible refine (M1.out _ HI.out).mono ?_); rintro e w1 ⟨rfl, hi, hW⟩; have HB_ := Aside0.mk (below_wr HB.out hW G.out); have B2_ := Aside0.mk (hW.blk BK2.out (blk_lt BK2.out) N2.out); have HI_ := Aside0.mk hi; clear HI HB BK2 hi hW; have HI := HI_; have HB := HB_; have BK2 := B2_; clear HI_ HB_ B2_ T1; have T2 : True := trivial)
      | (go_at_call 61; have _t := T2; (with_reducible refine (M2.out _ HI.out).mono ?_); rintro e w2 ⟨rfl, hi, hW⟩; have HB_ := Aside0.mk (below_wr HB.out hW G.out); have B2_ := Aside0.mk (hW.blk BK2.out (blk_lt BK2.out) N2.out); have HI_ := Aside0.mk hi; clear HI HB BK2 hi hW; have HI := HI_; have HB := HB_; have BK2 := B2_; clear HI_ HB_ B2_ T2; have T3 : True := trivial)
      | ((with_reducible refine gate_dst (N := 5) rfl ?_); refine box_event ?hg (N := 5) ?hd (cs := #[.int .u64 0, .int .u64 0, .string ⟨#[]⟩, .int .i64 0, .string ⟨#[]⟩, .string ⟨#[]⟩, .int .u64 0, .int .i64 0, .slice none 0 0, .slice none 0 0]) (t := 69) ?hr ?_; (case hd => rfl); (case hg => rfl); (case hr => first | (go_simp; done) | (go_simp; rfl)); intro g5 hg wx hbox hb; have BK5 := Aside0.mk hbox; have GE5 := Aside0.mk (by rw [hg]; exact below_size HB.out : w.heap.size ≤ g5); have N5 := Aside0.mk (by rw [hg]; exact Nat.ne_of_gt HI.out.lt : g5 ≠ g); have N25 := Aside0.mk (by rw [hg]; exact Nat.ne_of_lt (blk_lt BK2.out) : g2 ≠ g5); have LT25 := Aside0.mk (by rw [hg]; exact blk_lt BK2.out : g2 < g5); have nb_ := Aside0.mk (below_step HB.out hb); have HI_ := Aside0.mk (HI.out.below hb); have B2_ := Aside0.mk (blk_below BK2.out hb); clear HB HI BK2; have HB := nb_; have HI := HI_; have BK2 := B2_; clear nb_ HI_ B2_ hbox hb hg; obtain ⟨hz0, hz1, hz2, hz3, hz4, hz5, hz6, hz7, hz8, hz9, fz0, fz1, fz2, fz3, fz4, fz5, fz6, fz7, fz8, fz9⟩ := cells10 BK5.out))
    go_meet
    case rel => exact ⟨g5, rfl, ⟨IsR.recb HI.out BK5.out ((((((((((((Wr.refl _ g5 _).setCell 0 _).setCell 1 _).setCell 2 _).setCell 3 _).setCell 4 _).setCell 5 _).setCell 6 _).setCell 7 _).setCell 8 _).setCell 9 _)) (Ne.symm N5.out)⟩, ⟨by (iterate 10 (refine blk_far ?_ N25.out _)); exact BK2.out⟩, ⟨by refine blk_put (cs := #[.int .u64 n0, .int .u64 n1, .string (strOfNums t2), .int .i64 0, .string ⟨#[]⟩, .string ⟨#[]⟩, .int .u64 0, .int .i64 0, .slice none 0 0, .slice none 0 0]) ?_ 9 _ rfl; refine blk_put (cs := #[.int .u64 n0, .int .u64 n1, .string (strOfNums t2), .int .i64 0, .string ⟨#[]⟩, .string ⟨#[]⟩, .int .u64 0, .int .i64 0, .slice none 0 0, .slice none 0 0]) ?_ 8 _ rfl; refine blk_put (cs := #[.int .u64 n0, .int .u64 n1, .string (strOfNums t2), .int .i64 0, .string ⟨#[]⟩, .string ⟨#[]⟩, .int .u64 0, .int .i64 0, .slice none 0 0, .slice none 0 0]) ?_ 7 _ rfl; refine blk_put (cs := #[.int .u64 n0, .int .u64 n1, .string (strOfNums t2), .int .i64 0, .string ⟨#[]⟩, .string ⟨#[]⟩, .int .u64 0, .int .i64 0, .slice none 0 0, .slice none 0 0]) ?_ 6 _ rfl; refine blk_put (cs := #[.int .u64 n0, .int .u64 n1, .string (strOfNums t2), .int .i64 0, .string ⟨#[]⟩, .string ⟨#[]⟩, .int .u64 0, .int .i64 0, .slice none 0 0, .slice none 0 0]) ?_ 5 _ rfl; refine blk_put (cs := #[.int .u64 n0, .int .u64 n1, .string (strOfNums t2), .int .i64 0, .string ⟨#[]⟩, .string ⟨#[]⟩, .int .u64 0, .int .i64 0, .slice none 0 0, .slice none 0 0]) ?_ 4 _ rfl; refine blk_put (cs := #[.int .u64 n0, .int .u64 n1, .string (strOfNums t2), .int .i64 0, .string ⟨#[]⟩, .string ⟨#[]⟩, .int .u64 0, .int .i64 0, .slice none 0 0, .slice none 0 0]) ?_ 3 _ rfl; refine blk_put (cs := #[.int .u64 n0, .int .u64 n1, .string ⟨#[]⟩, .int .i64 0, .string ⟨#[]⟩, .string ⟨#[]⟩, .int .u64 0, .int .i64 0, .slice none 0 0, .slice none 0 0]) ?_ 2 _ rfl; refine blk_put (cs := #[.int .u64 n0, .int .u64 0, .string ⟨#[]⟩, .int .i64 0, .string ⟨#[]⟩, .string ⟨#[]⟩, .int .u64 0, .int .i64 0, .slice none 0 0, .slice none 0 0]) ?_ 1 _ rfl; refine blk_put (cs := #[.int .u64 0, .int .u64 0, .string ⟨#[]⟩, .int .i64 0, .string ⟨#[]⟩, .string ⟨#[]⟩, .int .u64 0, .int .i64 0, .slice none 0 0, .slice none 0 0]) ?_ 0 _ rfl; exact BK5.out⟩, ⟨by repeat (first | (with_reducible first | exact HB.out | apply below_alloc | apply pw_below_drewN | apply below_drew1 | refine below_set ?_ GE5.out | refine below_set ?_ GE2.out) | exact HB.out)⟩, N5, N25, LT25, GE5⟩
  case rest =>
    obtain ⟨g5, rfl, HI, BK2, BK5, HB, N5, N25, LT25, GE5⟩ := hcut
    have T3 : True := trivial
    go_upto_region 3 with (fail)
    go_cut [] (fun wc => Aside0 (IsR g wc l4 q4) ∧ Aside0 (wc.heap[g2]? = some (.cells #[.int .u64 0, .int .u64 0, .string ⟨#[]⟩, .int .i64 0, .string ⟨#[]⟩, .string ⟨#[]⟩, .int .u64 0, .int .i64 0, .slice none 0 0, .slice none 0 0] 69 (0, 0))) ∧ Aside0 (wc.heap[g5]? = some (.cells #[.int .u64 n0, .int .u64 n1, .string (strOfNums t2), .int .i64 (mn n3 20), .string ⟨#[]⟩, .string ⟨#[]⟩, .int .u64 0, .int .i64 0, .slice none 0 0, .slice none 0 0] 69 (0, 0))) ∧ Aside0 (Below w.heap.size w wc))
    case first =>
      go_wp2_with (first | (go_at_call 57; have _t := T3; (with_reducible refine (M3.out _ HI.out).mono ?_); rintro e w3 ⟨rfl, hi, hW⟩; have HB_ := Aside0.mk (below_wr HB.out hW G.out); have B2_ := Aside0.mk (hW.blk BK2.out (blk_lt BK2.out) N2.out); have B5_ := Aside0.mk (hW.blk BK5.out (blk_lt BK5.out) N5.out); have HI_ := Aside0.mk hi; clear HI HB BK2 BK5 hi hW; have HI := HI_; have HB := HB_; have BK2 := B2_; have BK5 := B5_; clear HI_ HB_ B2_ B5_ T3; have T4 : True := trivial; obtain ⟨hz0, hz1, hz2, hz3, hz4, hz5, hz6, hz7, hz8, hz9, fz0, fz1, fz2, fz3, fz4, fz5, fz6, fz7, fz8, fz9⟩ := cells10 BK5.out))
      all_goals
       go_meet
       case rel => exact ⟨⟨IsR.recb HI.out BK5.out ((Wr.refl _ g5 _).setCell 3 _) (Ne.symm N5.out)⟩, ⟨by refine blk_far ?_ N25.out _; exact BK2.out⟩, ⟨by refine blk_put (cs := #[.int .u64 n0, .int .u64 n1, .string (strOfNums t2), .int .i64 0, .string ⟨#[]⟩, .string ⟨#[]⟩, .int .u64 0, .int .i64 0, .slice none 0 0, .slice none 0 0]) ?_ 3 _ (by first | (rw [show mn n3 20 = 20 from (by unfold mn; split <;> omega)]; rfl) | (rw [show mn n3 20 = n3 from (by unfold mn; split <;> omega)]; rfl)); exact BK5.out⟩, ⟨by repeat (first | (with_reducible first | exact HB.out | apply below_alloc | apply pw_below_drewN | apply below_drew1 | refine below_set ?_ GE5.out | refine below_set ?_ GE2.out) | exact HB.out)⟩⟩
    case rest =>
      obtain ⟨HI, BK2, BK5, HB⟩ := hcut
      have T4 : True := trivial
      go_upto_region 4 with (fail)
      go_cut [] (fun wc => Aside0 (IsR g wc l7 q7) ∧ Aside0 (wc.heap[g2]? = some (.cells #[.int .u64 0, .int .u64 0, .string ⟨#[]⟩, .int .i64 0, .string ⟨#[]⟩, .string ⟨#[]⟩, .int .u64 0, .int .i64 0, .slice none 0 0, .slice none 0 0] 69 (0, 0))) ∧ Aside0 (wc.heap[g5]? = some (.cells #[.int .u64 n0, .int .u64 n1, .string (strOfNums t2), .int .i64 (mn n3 20), .string (strOfNums t4), .string (strOfNums t5), .int .u64 n6, .int .i64 0, .slice none 0 0, .slice none 0 0] 69 (0, 0))) ∧ Aside0 (Below w.heap.size w wc))
      case first =>
        go_wp2_with (first
          | (go_at_call 61; have _t := T4; (with_reducible refine (M4.out _ HI.out).mono ?_); rintro e w4 ⟨rfl, hi, hW⟩; have HB_ := Aside0.mk (below_wr HB.out hW G.out); have B2_ := Aside0.mk (hW.blk BK2.out (blk_lt BK2.out) N2.out); have B5_ := Aside0.mk (hW.blk BK5.out (blk_lt BK5.out) N5.out); have HI_ := Aside0.mk hi; clear HI HB BK2 BK5 hi hW; have HI := HI_; have HB := HB_; have BK2 := B2_; have BK5 := B5_; clear HI_ HB_ B2_ B5_ T4; have T5 : True := trivial)
          | (go_at_call 61; have _t := T5; (with_reducible refine (M5.out _ HI.out).mono ?_); rintro e w5 ⟨rfl, hi, hW⟩; have HB_ := Aside0.mk (below_wr HB.out hW G.out); have B2_ := Aside0.mk (hW.blk BK2.out (blk_lt BK2.out) N2.out); have B5_ := Aside0.mk (hW.blk BK5.out (blk_lt BK5.out) N5.out); have HI_ := Aside0.mk hi; clear HI HB BK2 BK5 hi hW; have HI := HI_; have HB := HB_; have BK2 := B2_; have BK5 := B5_; clear HI_ HB_ B2_ B5_ T5; have T6 : True := trivial)
          | (go_at_call 57; have _t := T6; (with_reducible refine (M6.out _ HI.out).mono ?_); rintro e w6 ⟨rfl, hi, hW⟩; have HB_ := Aside0.mk (below_wr HB.out hW G.out); have B2_ := Aside0.mk (hW.blk BK2.out (blk_lt BK2.out) N2.out); have B5_ := Aside0.mk (hW.blk BK5.out (blk_lt BK5.out) N5.out); have HI_ := Aside0.mk hi; clear HI HB BK2 BK5 hi hW; have HI := HI_; have HB := HB_; have BK2 := B2_; have BK5 := B5_; clear HI_ HB_ B2_ B5_ T6; have T7 : True := trivial; obtain ⟨hz0, hz1, hz2, hz3, hz4, hz5, hz6, hz7, hz8, hz9, fz0, fz1, fz2, fz3, fz4, fz5, fz6, fz7, fz8, fz9⟩ := cells10 BK5.out))
        go_meet
        case rel => exact ⟨⟨IsR.recb HI.out BK5.out ((((Wr.refl _ g5 _).setCell 4 _).setCell 5 _).setCell 6 _) (Ne.symm N5.out)⟩, ⟨by (iterate 3 (refine blk_far ?_ N25.out _)); exact BK2.out⟩, ⟨by refine blk_put (cs := #[.int .u64 n0, .int .u64 n1, .string (strOfNums t2), .int .i64 (mn n3 20), .string (strOfNums t4), .string (strOfNums t5), .int .u64 0, .int .i64 0, .slice none 0 0, .slice none 0 0]) ?_ 6 _ rfl; refine blk_put (cs := #[.int .u64 n0, .int .u64 n1, .string (strOfNums t2), .int .i64 (mn n3 20), .string (strOfNums t4), .string ⟨#[]⟩, .int .u64 0, .int .i64 0, .slice none 0 0, .slice none 0 0]) ?_ 5 _ rfl; refine blk_put (cs := #[.int .u64 n0, .int .u64 n1, .string (strOfNums t2), .int .i64 (mn n3 20), .string ⟨#[]⟩, .string ⟨#[]⟩, .int .u64 0, .int .i64 0, .slice none 0 0, .slice none 0 0]) ?_ 4 _ rfl; exact BK5.out⟩, ⟨by repeat (first | (with_reducible first | exact HB.out | apply below_alloc | apply pw_below_drewN | apply below_drew1 | refine below_set ?_ GE5.out | refine below_set ?_ GE2.out) | exact HB.out)⟩⟩
      case rest =>
        obtain ⟨HI, BK2, BK5, HB⟩ := hcut
        have T7 : True := trivial
        go_upto_region 5 with (fail)
        go_cut [] (fun wc => Aside0 (IsR g wc l8 q8) ∧ Aside0 (wc.heap[g2]? = some (.cells #[.int .u64 0, .int .u64 0, .string ⟨#[]⟩, .int .i64 0, .string ⟨#[]⟩, .string ⟨#[]⟩, .int .u64 0, .int .i64 0, .slice none 0 0, .slice none 0 0] 69 (0, 0))) ∧ Aside0 (wc.heap[g5]? = some (.cells #[.int .u64 n0, .int .u64 n1, .string (strOfNums t2), .int .i64 (mn n3 20), .string (strOfNums t4), .string (strOfNums t5), .int .u64 n6, .int .i64 (mn n7 10000), .slice none 0 0, .slice none 0 0] 69 (0, 0))) ∧ Aside0 (Below w.heap.size w wc))
        case first =>
          go_wp2_with (first | (go_at_call 57; have _t := T7; (with_reducible refine (M7.out _ HI.out).mono ?_); rintro e w7 ⟨rfl, hi, hW⟩; have HB_ := Aside0.mk (below_wr HB.out hW G.out); have B2_ := Aside0.mk (hW.blk BK2.out (blk_lt BK2.out) N2.out); have B5_ := Aside0.mk (hW.blk BK5.out (blk_lt BK5.out) N5.out); have HI_ := Aside0.mk hi; clear HI HB BK2 BK5 hi hW; have HI := HI_; have HB := HB_; have BK2 := B2_; have BK5 := B5_; clear HI_ HB_ B2_ B5_ T7; have T8 : True := trivial; obtain ⟨hz0, hz1, hz2, hz3, hz4, hz5, hz6, hz7, hz8, hz9, fz0, fz1, fz2, fz3, fz4, fz5, fz6, fz7, fz8, fz9⟩ := cells10 BK5.out))
          all_goals
           go_meet
           case rel => exact ⟨⟨IsR.recb HI.out BK5.out ((Wr.refl _ g5 _).setCell 7 _) (Ne.symm N5.out)⟩, ⟨by refine blk_far ?_ N25.out _; exact BK2.out⟩, ⟨by refine blk_put (cs := #[.int .u64 n0, .int .u64 n1, .string (strOfNums t2), .int .i64 (mn n3 20), .string (strOfNums t4), .string (strOfNums t5), .int .u64 n6, .int .i64 0, .slice none 0 0, .slice none 0 0]) ?_ 7 _ (by first | (rw [show mn n7 10000 = 10000 from (by unfold mn; split <;> omega)]; rfl) | (rw [show mn n7 10000 = n7 from (by unfold mn; split <;> omega)]; rfl)); exact BK5.out⟩, ⟨by repeat (first | (with_reducible first | exact HB.out | apply below_alloc | apply pw_below_drewN | apply below_drew1 | refine below_set ?_ GE5.out | refine below_set ?_ GE2.out) | exact HB.out)⟩⟩
        case rest =>
          obtain ⟨HI, BK2, BK5, HB⟩ := hcut
          have T8 : True := trivial
          go_upto_region 6 with (fail)
          go_cut [] (fun wc => ∃ A8 c8 A9 c9, Aside0 (IsR g wc l10 q10) ∧ Aside0 (wc.heap[g2]? = some (.cells #[.int .u64 0, .int .u64 0, .string ⟨#[]⟩, .int .i64 0, .string ⟨#[]⟩, .string ⟨#[]⟩, .int .u64 0, .int .i64 0, .slice none 0 0, .slice none 0 0] 69 (0, 0))) ∧ Aside0 (wc.heap[g5]? = some (.cells #[.int .u64 n0, .int .u64 n1, .string (strOfNums t2), .int .i64 (mn n3 20), .string (strOfNums t4), .string (strOfNums t5), .int .u64 n6, .int .i64 (mn n7 10000), .slice A8 s8.length c8, .slice A9 s9.length c9] 69 (0, 0))) ∧ Aside0 (Below w.heap.size w wc) ∧ Aside0 (∃ base, Kd.R (Kd.int .u8) 5 wc base (fun _ => True) (.slice A8 s8.length c8) s8 ∧ g2 < base) ∧ Aside0 (∃ base, Kd.R (Kd.int .u8) 5 wc base (fun _ => True) (.slice A9 s9.length c9) s9 ∧ g2 < base))
          case first =>
            go_wp2_with (first
              | (go_at_call 59; have _t := T8; (with_reducible refine (M8.out _ HI.out).mono ?_); rintro e w8 ⟨v, rfl, hr, hi, hW⟩; obtain ⟨A8, c8, rfl, hc_, hC_⟩ := Kd.R_reads hr; have R8 := Aside0.mk (show ∃ base, Kd.R (Kd.int .u8) 5 w8 base (fun _ => True) (.slice A8 s8.length c8) s8 ∧ g < base ∧ g5 < base from ⟨_, hr, HI.out.lt, blk_lt BK5.out⟩); have HB_ := Aside0.mk (below_wr HB.out hW G.out); have B2_ := Aside0.mk (hW.blk BK2.out (blk_lt BK2.out) N2.out); have B5_ := Aside0.mk (hW.blk BK5.out (blk_lt BK5.out) N5.out); have HI_ := Aside0.mk hi; clear HI HB BK2 BK5 hr hi hW hc_ hC_; have HI := HI_; have HB := HB_; have BK2 := B2_; have BK5 := B5_; clear HI_ HB_ B2_ B5_ T8; have T9 : True := trivial)
              | (go_at_call 59; have _t := T9; (with_reducible refine (M9.out _ HI.out).mono ?_); rintro e w9 ⟨v, rfl, hr, hi, hW⟩; obtain ⟨A9, c9, rfl, hc_, hC_⟩ := Kd.R_reads hr; have R9 := Aside0.mk (show ∃ base, Kd.R (Kd.int .u8) 5 w9 base (fun _ => True) (.slice A9 s9.length c9) s9 ∧ g < base ∧ g5 < base from ⟨_, hr, HI.out.lt, blk_lt BK5.out⟩); have R8_ := Aside0.mk (show ∃ base, Kd.R (Kd.int .u8) 5 w9 base (fun _ => True) (.slice A8 s8.length c8) s8 ∧ g < base ∧ g5 < base from (by obtain ⟨base, h1, h2, h3⟩ := R8.out; exact ⟨base, R_wrr h1 hW h2, h2, h3⟩)); clear R8; have R8 := R8_; clear R8_; have HB_ := Aside0.mk (below_wr HB.out hW G.out); have B2_ := Aside0.mk (hW.blk BK2.out (blk_lt BK2.out) N2.out); have B5_ := Aside0.mk (hW.blk BK5.out (blk_lt BK5.out) N5.out); have HI_ := Aside0.mk hi; clear HI HB BK2 BK5 hr hi hW hc_ hC_; have HI := HI_; have HB := HB_; have BK2 := B2_; have BK5 := B5_; clear HI_ HB_ B2_ B5_ T9; have T10 : True := trivial; obtain ⟨hz0, hz1, hz2, hz3, hz4, hz5, hz6, hz7, hz8, hz9, fz0, fz1, fz2, fz3, fz4, fz5, fz6, fz7, fz8, fz9⟩ := cells10 BK5.out))
            go_meet
            case rel => exact ⟨A8, c8, A9, c9, ⟨IsR.recb HI.out BK5.out (((Wr.refl _ g5 _).setCell 8 _).setCell 9 _) (Ne.symm N5.out)⟩, ⟨by (iterate 2 (refine blk_far ?_ N25.out _)); exact BK2.out⟩, ⟨by refine blk_put (cs := #[.int .u64 n0, .int .u64 n1, .string (strOfNums t2), .int .i64 (mn n3 20), .string (strOfNums t4), .string (strOfNums t5), .int .u64 n6, .int .i64 (mn n7 10000), .slice A8 s8.length c8, .slice none 0 0]) ?_ 9 _ rfl; refine blk_put (cs := #[.int .u64 n0, .int .u64 n1, .string (strOfNums t2), .int .i64 (mn n3 20), .string (strOfNums t4), .string (strOfNums t5), .int .u64 n6, .int .i64 (mn n7 10000), .slice none 0 0, .slice none 0 0]) ?_ 8 _ rfl; exact BK5.out⟩, ⟨by repeat (first | (with_reducible first | exact HB.out | apply below_alloc | apply pw_below_drewN | apply below_drew1 | refine below_set ?_ GE5.out | refine below_set ?_ GE2.out) | exact HB.out)⟩, ⟨by obtain ⟨base, h1, h2, h3⟩ := R8.out; exact ⟨base, R_offs (R_offs h1 h3 8 _) h3 9 _, Nat.lt_trans LT25.out h3⟩⟩, ⟨by obtain ⟨base, h1, h2, h3⟩ := R9.out; exact ⟨base, R_offs (R_offs h1 h3 8 _) h3 9 _, Nat.lt_trans LT25.out h3⟩⟩⟩
          case rest =>
            obtain ⟨A8, c8, A9, c9, HI, BK2, BK5, HB, R8, R9⟩ := hcut
            obtain ⟨dn, hdn⟩ : ∃ d, doneS l10 q10 = d := ⟨_, rfl⟩
            have DD := Aside0.mk (fun W h => done_any g l10 q10 W h)
            rw [hdn] at DD HG
            clear hdn
            obtain ⟨hv0, hv1, hv2, hv3, hv4, hv5, hv6, hv7, hv8, hv9, fv0, fv1, fv2, fv3, fv4, fv5, fv6, fv7, fv8, fv9⟩ := cells10 BK5.out
            obtain ⟨hu0, hu1, hu2, hu3, hu4, hu5, hu6, hu7, hu8, hu9, fu0, fu1, fu2, fu3, fu4, fu5, fu6, fu7, fu8, fu9⟩ := cells10 BK2.out
            have hn25 := N25.out
            have hn52 := Ne.symm N25.out
            have HRC := Aside0.mk (show RecC wc ⟨n0, n1, strOfNums t2, mn n3 20, strOfNums t4, strOfNums t5, n6, mn n7 10000, s8, s9⟩ A8 c8 A9 c9 from (by
              obtain ⟨b8, h8, _⟩ := R8.out
              obtain ⟨b9, h9, _⟩ := R9.out
              have k8 := Kd.R_reads' h8
              have k9 := Kd.R_reads' h9
              exact ⟨k8.2.2, k8.2.1, k9.2.2, k9.2.1⟩))
            obtain ⟨rp, hrp⟩ : ∃ r, rightP ⟨n0, n1, strOfNums t2, mn n3 20, strOfNums t4, strOfNums t5, n6, mn n7 10000, s8, s9⟩ = r := ⟨_, rfl⟩
            have RC := Aside0.mk (fun W h => right_c ⟨n0, n1, strOfNums t2, mn n3 20, strOfNums t4, strOfNums t5, n6, mn n7 10000, s8, s9⟩ A8 c8 A9 c9 W h HX.out)
            rw [hrp] at RC HG
            clear hrp
            by_cases hd : dn = 0
            · have d0 : (dn != 0) = false := by rw [hd]; rfl
              have d1 : (dn == 0) = true := by rw [hd]; rfl
              have HGG : Aside0 (good = rp) := ⟨by rw [HG.out, hd]; simp⟩
              clear HG hd
              cases rp with
              | true =>
                go_wp2_with (first
                  | (go_at_call 68; (with_reducible refine (DD.out _ HI.out).mono ?_); rintro e w' ⟨rfl, rfl⟩)
                  | (go_at_call 145; (with_reducible refine (RC.out _ HRC.out).mono ?_); rintro e w6 ⟨rfl, hb⟩; have nb_ := Aside0.mk (below_step HB.out hb); have B2_ := Aside0.mk (blk_below BK2.out hb); have B5_ := Aside0.mk (blk_below BK5.out hb); have r8_ := Aside0.mk (show ∃ base, Kd.R (Kd.int .u8) 5 w6 base (fun _ => True) (.slice A8 s8.length c8) s8 ∧ g2 < base from (by obtain ⟨base, h1, h2⟩ := R8.out; exact ⟨base, Kd.R_below h1 hb, h2⟩)); have r9_ := Aside0.mk (show ∃ base, Kd.R (Kd.int .u8) 5 w6 base (fun _ => True) (.slice A9 s9.length c9) s9 ∧ g2 < base from (by obtain ⟨base, h1, h2⟩ := R9.out; exact ⟨base, Kd.R_below h1 hb, h2⟩)); clear HB BK2 BK5 R8 R9 hb; have HB := nb_; have BK2 := B2_; have BK5 := B5_; have R8 := r8_; have R9 := r9_; clear nb_ B2_ B5_ r8_ r9_; obtain ⟨ha0, ha1, ha2, ha3, ha4, ha5, ha6, ha7, ha8, ha9, fa0, fa1, fa2, fa3, fa4, fa5, fa6, fa7, fa8, fa9⟩ := cells10 BK5.out; obtain ⟨hb0, hb1, hb2, hb3, hb4, hb5, hb6, hb7, hb8, hb9, fb0, fb1, fb2, fb3, fb4, fb5, fb6, fb7, fb8, fb9⟩ := cells10 BK2.out))
                refine bodyPost_ret (results_cell_tmp rfl _ _ g2 69 #[.int .u64 n0, .int .u64 n1, .string (strOfNums t2), .int .i64 (mn n3 20), .string (strOfNums t4), .string (strOfNums t5), .int .u64 n6, .int .i64 (mn n7 10000), .slice A8 s8.length c8, .slice A9 s9.length c9] (0, 0) _ (.int .i64 0) rfl (by refine blk_put (cs := #[.int .u64 n0, .int .u64 n1, .string (strOfNums t2), .int .i64 (mn n3 20), .string (strOfNums t4), .string (strOfNums t5), .int .u64 n6, .int .i64 (mn n7 10000), .slice A8 s8.length c8, .slice none 0 0]) ?_ 9 _ rfl; refine blk_put (cs := #[.int .u64 n0, .int .u64 n1, .string (strOfNums t2), .int .i64 (mn n3 20), .string (strOfNums t4), .string (strOfNums t5), .int .u64 n6, .int .i64 (mn n7 10000), .slice none 0 0, .slice none 0 0]) ?_ 8 _ rfl; refine blk_put (cs := #[.int .u64 n0, .int .u64 n1, .string (strOfNums t2), .int .i64 (mn n3 20), .string (strOfNums t4), .string (strOfNums t5), .int .u64 n6, .int .i64 0, .slice none 0 0, .slice none 0 0]) ?_ 7 _ rfl; refine blk_put (cs := #[.int .u64 n0, .int .u64 n1, .string (strOfNums t2), .int .i64 (mn n3 20), .string (strOfNums t4), .string (strOfNums t5), .int .u64 0, .int .i64 0, .slice none 0 0, .slice none 0 0]) ?_ 6 _ rfl; refine blk_put (cs := #[.int .u64 n0, .int .u64 n1, .string (strOfNums t2), .int .i64 (mn n3 20), .string (strOfNums t4), .string ⟨#[]⟩, .int .u64 0, .int .i64 0, .slice none 0 0, .slice none 0 0]) ?_ 5 _ rfl; refine blk_put (cs := #[.int .u64 n0, .int .u64 n1, .string (strOfNums t2), .int .i64 (mn n3 20), .string ⟨#[]⟩, .string ⟨#[]⟩, .int .u64 0, .int .i64 0, .slice none 0 0, .slice none 0 0]) ?_ 4 _ rfl; refine blk_put (cs := #[.int .u64 n0, .int .u64 n1, .string (strOfNums t2), .int .i64 0, .string ⟨#[]⟩, .string ⟨#[]⟩, .int .u64 0, .int .i64 0, .slice none 0 0, .slice none 0 0]) ?_ 3 _ rfl; refine blk_put (cs := #[.int .u64 n0, .int .u64 n1, .string ⟨#[]⟩, .int .i64 0, .string ⟨#[]⟩, .string ⟨#[]⟩, .int .u64 0, .int .i64 0, .slice none 0 0, .slice none 0 0]) ?_ 2 _ rfl; refine blk_put (cs := #[.int .u64 n0, .int .u64 0, .string ⟨#[]⟩, .int .i64 0, .string ⟨#[]⟩, .string ⟨#[]⟩, .int .u64 0, .int .i64 0, .slice none 0 0, .slice none 0 0]) ?_ 1 _ rfl; refine blk_put (cs := #[.int .u64 0, .int .u64 0, .string ⟨#[]⟩, .int .i64 0, .string ⟨#[]⟩, .string ⟨#[]⟩, .int .u64 0, .int .i64 0, .slice none 0 0, .slice none 0 0]) ?_ 0 _ rfl; exact BK2.out) Try.underlying69 rfl (by kernel_rfl) rfl) rfl ?_
                unfold RdPost
                refine ⟨?_, by repeat (first | (with_reducible first | exact HB.out | apply below_alloc | apply pw_below_drewN | apply below_drew1 | refine below_set ?_ GE5.out | refine below_set ?_ GE2.out) | exact HB.out)⟩
                rw [if_pos HGG.out]
                obtain ⟨b8, h8, g8⟩ := R8.out
                obtain ⟨b9, h9, g9⟩ := R9.out
                have k8 := Kd.R_reads' ((R_offs (R_offs (R_offs (R_offs (R_offs (R_offs (R_offs (R_offs (R_offs (R_offs h8 g8 0 (.int .u64 n0)) g8 1 (.int .u64 n1)) g8 2 (.string (strOfNums t2))) g8 3 (.int .i64 (mn n3 20))) g8 4 (.string (strOfNums t4))) g8 5 (.string (strOfNums t5))) g8 6 (.int .u64 n6)) g8 7 (.int .i64 (mn n7 10000))) g8 8 (.slice A8 s8.length c8)) g8 9 (.slice A9 s9.length c9)))
                have k9 := Kd.R_reads' ((R_offs (R_offs (R_offs (R_offs (R_offs (R_offs (R_offs (R_offs (R_offs (R_offs h9 g9 0 (.int .u64 n0)) g9 1 (.int .u64 n1)) g9 2 (.string (strOfNums t2))) g9 3 (.int .i64 (mn n3 20))) g9 4 (.string (strOfNums t4))) g9 5 (.string (strOfNums t5))) g9 6 (.int .u64 n6)) g9 7 (.int .i64 (mn n7 10000))) g9 8 (.slice A8 s8.length c8)) g9 9 (.slice A9 s9.length c9)))
                exact ⟨A8, c8, A9, c9, rfl, k8.2.2, k8.2.1, k9.2.2, k9.2.1⟩
              | false =>
                go_wp2_with (first
                  | (go_at_call 68; (with_reducible refine (DD.out _ HI.out).mono ?_); rintro e w' ⟨rfl, rfl⟩)
                  | (go_at_call 145; (with_reducible refine (RC.out _ HRC.out).mono ?_); rintro e w6 ⟨rfl, hb⟩; have nb_ := Aside0.mk (below_step HB.out hb); have B2_ := Aside0.mk (blk_below BK2.out hb); have B5_ := Aside0.mk (blk_below BK5.out hb); have r8_ := Aside0.mk (show ∃ base, Kd.R (Kd.int .u8) 5 w6 base (fun _ => True) (.slice A8 s8.length c8) s8 ∧ g2 < base from (by obtain ⟨base, h1, h2⟩ := R8.out; exact ⟨base, Kd.R_below h1 hb, h2⟩)); have r9_ := Aside0.mk (show ∃ base, Kd.R (Kd.int .u8) 5 w6 base (fun _ => True) (.slice A9 s9.length c9) s9 ∧ g2 < base from (by obtain ⟨base, h1, h2⟩ := R9.out; exact ⟨base, Kd.R_below h1 hb, h2⟩)); clear HB BK2 BK5 R8 R9 hb; have HB := nb_; have BK2 := B2_; have BK5 := B5_; have R8 := r8_; have R9 := r9_; clear nb_ B2_ B5_ r8_ r9_; obtain ⟨ha0, ha1, ha2, ha3, ha4, ha5, ha6, ha7, ha8, ha9, fa0, fa1, fa2, fa3, fa4, fa5, fa6, fa7, fa8, fa9⟩ := cells10 BK5.out; obtain ⟨hb0, hb1, hb2, hb3, hb4, hb5, hb6, hb7, hb8, hb9, fb0, fb1, fb2, fb3, fb4, fb5, fb6, fb7, fb8, fb9⟩ := cells10 BK2.out))
                refine bodyPost_ret (results_cell_tmp rfl _ _ g2 69 #[.int .u64 0, .int .u64 0, .string ⟨#[]⟩, .int .i64 0, .string ⟨#[]⟩, .string ⟨#[]⟩, .int .u64 0, .int .i64 0, .slice none 0 0, .slice none 0 0] (0, 0) _ (.int .i64 4) rfl (by refine blk_put (cs := #[.int .u64 0, .int .u64 0, .string ⟨#[]⟩, .int .i64 0, .string ⟨#[]⟩, .string ⟨#[]⟩, .int .u64 0, .int .i64 0, .slice none 0 0, .slice none 0 0]) ?_ 9 _ rfl; refine blk_put (cs := #[.int .u64 0, .int .u64 0, .string ⟨#[]⟩, .int .i64 0, .string ⟨#[]⟩, .string ⟨#[]⟩, .int .u64 0, .int .i64 0, .slice none 0 0, .slice none 0 0]) ?_ 8 _ rfl; refine blk_put (cs := #[.int .u64 0, .int .u64 0, .string ⟨#[]⟩, .int .i64 0, .string ⟨#[]⟩, .string ⟨#[]⟩, .int .u64 0, .int .i64 0, .slice none 0 0, .slice none 0 0]) ?_ 7 _ rfl; refine blk_put (cs := #[.int .u64 0, .int .u64 0, .string ⟨#[]⟩, .int .i64 0, .string ⟨#[]⟩, .string ⟨#[]⟩, .int .u64 0, .int .i64 0, .slice none 0 0, .slice none 0 0]) ?_ 6 _ rfl; refine blk_put (cs := #[.int .u64 0, .int .u64 0, .string ⟨#[]⟩, .int .i64 0, .string ⟨#[]⟩, .string ⟨#[]⟩, .int .u64 0, .int .i64 0, .slice none 0 0, .slice none 0 0]) ?_ 5 _ rfl; refine blk_put (cs := #[.int .u64 0, .int .u64 0, .string ⟨#[]⟩, .int .i64 0, .string ⟨#[]⟩, .string ⟨#[]⟩, .int .u64 0, .int .i64 0, .slice none 0 0, .slice none 0 0]) ?_ 4 _ rfl; refine blk_put (cs := #[.int .u64 0, .int .u64 0, .string ⟨#[]⟩, .int .i64 0, .string ⟨#[]⟩, .string ⟨#[]⟩, .int .u64 0, .int .i64 0, .slice none 0 0, .slice none 0 0]) ?_ 3 _ rfl; refine blk_put (cs := #[.int .u64 0, .int .u64 0, .string ⟨#[]⟩, .int .i64 0, .string ⟨#[]⟩, .string ⟨#[]⟩, .int .u64 0, .int .i64 0, .slice none 0 0, .slice none 0 0]) ?_ 2 _ rfl; refine blk_put (cs := #[.int .u64 0, .int .u64 0, .string ⟨#[]⟩, .int .i64 0, .string ⟨#[]⟩, .string ⟨#[]⟩, .int .u64 0, .int .i64 0, .slice none 0 0, .slice none 0 0]) ?_ 1 _ rfl; refine blk_put (cs := #[.int .u64 0, .int .u64 0, .string ⟨#[]⟩, .int .i64 0, .string ⟨#[]⟩, .string ⟨#[]⟩, .int .u64 0, .int .i64 0, .slice none 0 0, .slice none 0 0]) ?_ 0 _ rfl; exact BK2.out) Try.underlying69 rfl (by kernel_rfl) rfl) rfl ?_
                unfold RdPost
                refine ⟨?_, by repeat (first | (with_reducible first | exact HB.out | apply below_alloc | apply pw_below_drewN | apply below_drew1 | refine below_set ?_ GE5.out | refine below_set ?_ GE2.out) | exact HB.out)⟩
                rw [if_neg (by rw [HGG.out]; decide)]
            · have d0 : (dn != 0) = true := by rw [bne_iff_ne]; exact hd
              have d1 : (dn == 0) = false := by rw [beq_eq_false_iff_ne]; exact hd
              have HGG : Aside0 (good = false) := ⟨by rw [HG.out, decide_eq_false hd]; rfl⟩
              clear HG hd
              go_wp2_with (go_at_call 68; (with_reducible refine (DD.out _ HI.out).mono ?_); rintro e w' ⟨rfl, rfl⟩)
              refine bodyPost_ret (results_cell_tmp rfl _ _ g2 69 #[.int .u64 0, .int .u64 0, .string ⟨#[]⟩, .int .i64 0, .string ⟨#[]⟩, .string ⟨#[]⟩, .int .u64 0, .int .i64 0, .slice none 0 0, .slice none 0 0] (0, 0) _ (.int .i64 4) rfl (by refine blk_put (cs := #[.int .u64 0, .int .u64 0, .string ⟨#[]⟩, .int .i64 0, .string ⟨#[]⟩, .string ⟨#[]⟩, .int .u64 0, .int .i64 0, .slice none 0 0, .slice none 0 0]) ?_ 9 _ rfl; refine blk_put (cs := #[.int .u64 0, .int .u64 0, .string ⟨#[]⟩, .int .i64 0, .string ⟨#[]⟩, .string ⟨#[]⟩, .int .u64 0, .int .i64 0, .slice none 0 0, .slice none 0 0]) ?_ 8 _ rfl; refine blk_put (cs := #[.int .u64 0, .int .u64 0, .string ⟨#[]⟩, .int .i64 0, .string ⟨#[]⟩, .string ⟨#[]⟩, .int .u64 0, .int .i64 0, .slice none 0 0, .slice none 0 0]) ?_ 7 _ rfl; refine blk_put (cs := #[.int .u64 0, .int .u64 0, .string ⟨#[]⟩, .int .i64 0, .string ⟨#[]⟩, .string ⟨#[]⟩, .int .u64 0, .int .i64 0, .slice none 0 0, .slice none 0 0]) ?_ 6 _ rfl; refine blk_put (cs := #[.int .u64 0, .int .u64 0, .string ⟨#[]⟩, .int .i64 0, .string ⟨#[]⟩, .string ⟨#[]⟩, .int .u64 0, .int .i64 0, .slice none 0 0, .slice none 0 0]) ?_ 5 _ rfl; refine blk_put (cs := #[.int .u64 0, .int .u64 0, .string ⟨#[]⟩, .int .i64 0, .string ⟨#[]⟩, .string ⟨#[]⟩, .int .u64 0, .int .i64 0, .slice none 0 0, .slice none 0 0]) ?_ 4 _ rfl; refine blk_put (cs := #[.int .u64 0, .int .u64 0, .string ⟨#[]⟩, .int .i64 0, .string ⟨#[]⟩, .string ⟨#[]⟩, .int .u64 0, .int .i64 0, .slice none 0 0, .slice none 0 0]) ?_ 3 _ rfl; refine blk_put (cs := #[.int .u64 0, .int .u64 0, .string ⟨#[]⟩, .int .i64 0, .string ⟨#[]⟩, .string ⟨#[]⟩, .int .u64 0, .int .i64 0, .slice none 0 0, .slice none 0 0]) ?_ 2 _ rfl; refine blk_put (cs := #[.int .u64 0, .int .u64 0, .string ⟨#[]⟩, .int .i64 0, .string ⟨#[]⟩, .string ⟨#[]⟩, .int .u64 0, .int .i64 0, .slice none 0 0, .slice none 0 0]) ?_ 1 _ rfl; refine blk_put (cs := #[.int .u64 0, .int .u64 0, .string ⟨#[]⟩, .int .i64 0, .string ⟨#[]⟩, .string ⟨#[]⟩, .int .u64 0, .int .i64 0, .slice none 0 0, .slice none 0 0]) ?_ 0 _ rfl; exact BK2.out) Try.underlying69 rfl (by kernel_rfl) rfl) rfl ?_
              unfold RdPost
              refine ⟨?_, by repeat (first | (with_reducible first | exact HB.out | apply below_alloc | apply pw_below_drewN | apply below_drew1 | refine below_set ?_ GE5.out | refine below_set ?_ GE2.out) | exact HB.out)⟩
              rw [if_neg (by rw [HGG.out]; decide)]
end Go.Proofs.Ytlnpmodhejakiaa.AV
