/- Parts of the proofs of this seat, in one text. -/
import Derived.Test.YtlnpmodhejakiaaZAudB
import Derived.Test.YtlnpmodhejakiaaZMa
import Derived.Test.YtlnpmodhejakiaaZWb
import Derived.Test.YtlnpmodhejakiaaZCanAb
import Derived.Test.YtlnpmodhejakiaaZCanBb
import Derived.Test.YtlnpmodhejakiaaZAudPb
import Derived.Test.YtlnpmodhejakiaaZAudBb
import Derived.Test.YtlnpmodhejakiaaZMb
namespace Go.Proofs.Ytlnpmodhejakiaa.AV
open Go.RowKit Go.Proofs.YtlnpmodhejakiaaW.PrintWords Go.Proofs.YtlnpmodhejakiaaW.PrintLast Go.Proofs.YtlnpmodhejakiaaW.PrintMore Go.Proofs.Ytlnpmodhejakiaa.Sha Go.Proofs.Ytlnpmodhejakiaa.D Go.Proofs.Ytlnpmodhejakiaa.PC Go.Proofs.Ytlnpmodhejakiaa.CP Go.Proofs.Ytlnpmodhejakiaa.PV
set_option linter.unusedVariables false
set_option linter.unusedSimpArgs false
theorem lightB (A : Option Addr) (c : Nat) (l : List S69) (b : Bool) (w : World) (hC : Kd.C k69 w A l.length l) (hc : l.length ≤ c) (hl : l.length ≤ 140737488355328) (hs : ∀ y ∈ l, smallX y) (h : lightP l = b) :
    Calls Try.prog 73 #[.slice A l.length c] w fun e w' => e = .returned (.bool b) ∧ Below w.heap.size w w' := by
  rw [← h]
  exact light_c A c l w hC hc hl hs
def raw (f0 f1 : Int) (f2 : ByteArray) (f3 : Int) (f4 f5 : ByteArray) (f6 f7 : Int) (f8 f9 : List Int) : Prop :=
  (0 ≤ f0 ∧ f0 ≤ 18446744073709551615) ∧ (0 ≤ f1 ∧ f1 ≤ 18446744073709551615) ∧ (0 ≤ f6 ∧ f6 ≤ 18446744073709551615) ∧ (-9223372036854775808 ≤ f3 ∧ f3 ≤ 9223372036854775807) ∧ (-9223372036854775808 ≤ f7 ∧ f7 ≤ 9223372036854775807) ∧ (f2.size ≤ 140737488355328 ∧ f4.size ≤ 140737488355328 ∧ f5.size ≤ 140737488355328 ∧ f8.length ≤ 140737488355328 ∧ f9.length ≤ 140737488355328) ∧ B255 f8 ∧ B255 f9
def rawX (x : S69) : Prop := raw x.f0 x.f1 x.f2 x.f3 x.f4 x.f5 x.f6 x.f7 x.f8 x.f9
theorem rawX.small {x : S69} (h : rawX x) : smallX x := h.2.2.2.2.2.1
theorem rawX.ok {x : S69} (h : rawX x) (hb : x.f2.size + x.f4.size + x.f5.size + x.f8.length + x.f9.length ≤ 5000) : okX x := by
  obtain ⟨h0, h1, h6, h3, h7, _, h8, h9⟩ := h
  exact ⟨h0, h1, h6, h3, h7, by omega, h8, h9⟩
theorem light_m {l : List S69} (h : lightP l = true) : l.length ≤ 100 ∧ ∀ y ∈ l, y.f2.size + y.f4.size + y.f5.size + y.f8.length + y.f9.length ≤ 5000 := by
  unfold lightP at h
  rw [Bool.and_eq_true, List.all_eq_true, decide_eq_true_eq] at h
  exact ⟨h.2, fun y hy => of_decide_eq_true (h.1 y hy)⟩
end Go.Proofs.Ytlnpmodhejakiaa.AV
namespace Go.Proofs.Ytlnpmodhejakiaa.AV
open Go.RowKit Go.Proofs.YtlnpmodhejakiaaW.PrintWords Go.Proofs.YtlnpmodhejakiaaW.PrintLast Go.Proofs.YtlnpmodhejakiaaW.PrintMore Go.Proofs.Ytlnpmodhejakiaa.Sha Go.Proofs.Ytlnpmodhejakiaa.D Go.Proofs.Ytlnpmodhejakiaa.PC Go.Proofs.Ytlnpmodhejakiaa.CP Go.Proofs.Ytlnpmodhejakiaa.PV
attribute [local go_sem] max2_int min2_int max_two min_two max_three min_three max_four min_four
set_option linter.unusedVariables false
set_option linter.unusedSimpArgs false
theorem below_wr {w w1 w2 : World} {g : Nat} (HB : Below w.heap.size w w1) (hW : Wr w1.heap.size g w1 w2) (hg : w.heap.size ≤ g) : Below w.heap.size w w2 := HB.trans ((hW.lower HB.size).below hg)
theorem R_wrr {w w' : World} {base g : Nat} {v : Value} {l : List Int} (h : Kd.R (Kd.int .u8) 5 w base (fun _ => True) v l) (hW : Wr w.heap.size g w w') (hg : g < base) : Kd.R (Kd.int .u8) 5 w' base (fun _ => True) v l :=
  Kd.R_mono (Kd.R_step (Kd.R_bound h) (fun k hk hlt => hW.block k hlt (by have := hk.2.1; omega))) (fun _ _ => trivial)
theorem R_offs {w : World} {base g : Nat} {v : Value} {l : List Int} (h : Kd.R (Kd.int .u8) 5 w base (fun _ => True) v l) (hg : g < base) (i : Nat) (u : Value) : Kd.R (Kd.int .u8) 5 (w.setCell ⟨g, i, none⟩ u) base (fun _ => True) v l :=
  Kd.R_mono (Kd.R_far (Kd.R_bound h) (p := ⟨g, i, none⟩) (fun k hk => by show k ≠ g; have := hk.2.1; omega) u) (fun _ _ => trivial)
theorem cell_in {w : World} {p : Addr} {v : Value} {cs : Array Value} {T : TypeId} (h : w.cell? p = some v) (hg : w.heap[p.block]? = some (.cells cs T (0, 0))) : v ∈ cs.toList := by
  unfold World.cell? at h
  rw [hg] at h
  simp only at h
  split at h
  · cases h
  · obtain ⟨hi, e⟩ := Array.getElem?_eq_some_iff.1 h
    rw [← e, Array.mem_toList_iff]
    exact Array.getElem_mem hi
theorem IsR.recb {gx g : Nat} {w w' : World} {l : List Int} {bad : Bool} {a0 a1 a6 a3 a7 : Int} {b2 b4 b5 : ByteArray} {A8 A9 : Option Addr} {m8 c8 m9 c9 : Nat} (h : IsR g w l bad) (hx : w.heap[gx]? = some (.cells #[.int .u64 a0, .int .u64 a1, .string b2, .int .i64 a3, .string b4, .string b5, .int .u64 a6, .int .i64 a7, .slice A8 m8 c8, .slice A9 m9 c9] 69 (0, 0))) (hW : Wr w.heap.size gx w w') (hne : g ≠ gx) : IsR g w' l bad := by
  obtain ⟨A, k, h1, h2, h3, h4⟩ := h
  refine ⟨A, k, hW.blk h1 (blk_lt h1) hne, C_wr' h2 hW (fun h0 ad hA hb => ?_), h3, h4⟩
  obtain ⟨ad', e, hc⟩ := C_at h2 0 h0
  rw [hA] at e
  cases e
  have hb' : (ad.add 0).block = gx := by rw [← hb]; unfold Addr.add; split <;> rfl
  have := cell_in hc (by rw [hb']; exact hx)
  simp at this
theorem results_cell_tmp {P : Program} {fn : Func} {p q : Tmp} {ty : TypeId} (h : fn.results = #[.cell p ty, .tmp q]) (tmps : Array Value) (w : World) (g : Nat) (t : TypeId) (cs : Array Value) (fr : Nat × Nat) (d : TypeDesc) (v : Value)
    (hp : tmps.getD p undef = .pointer (some ⟨g, 0, none⟩)) (hg : w.heap[g]? = some (.cells cs t fr))
    (hu : P.underlying ty = some d) (hd : (match d with | .struct _ | .array _ _ => true | _ => false) = true) (hi : (P.info? ty).map (·.size) = some cs.size) (hv : tmps.getD q undef = v) :
    (results fn tmps).run P w = .ok (.tuple #[.agg cs, v]) w := by
  have hp' : tmps[p]?.getD undef = .pointer (some ⟨g, 0, none⟩) := by simpa using hp
  have hv' : tmps[q]?.getD undef = v := by simpa using hv
  simp [results, h, hp', hv', asAddr, run_loadVar_row w g t ty cs fr d hg hu hd hi]
theorem mn20 (n : Int) (h : 0 ≤ n ∧ n ≤ 18446744073709551615) : IntKind.i64.wrap (mn n 20) = mn n 20 := IntWalk.i64_in _ (by unfold mn; split <;> omega)
theorem mn1e4 (n : Int) (h : 0 ≤ n ∧ n ≤ 18446744073709551615) : IntKind.i64.wrap (mn n 10000) = mn n 10000 := IntWalk.i64_in _ (by unfold mn; split <;> omega)
def RdPost (x : S69) (good : Bool) (w : World) (e : Ending) (w' : World) : Prop := (if good = true then ∃ A8 c8 A9 c9, e = .returned (.tuple #[.agg #[.int .u64 x.f0, .int .u64 x.f1, .string x.f2, .int .i64 x.f3, .string x.f4, .string x.f5, .int .u64 x.f6, .int .i64 x.f7, .slice A8 x.f8.length c8, .slice A9 x.f9.length c9], .int .i64 0]) ∧ RecC w' x A8 c8 A9 c9 else e = .returned (.tuple #[.agg #[.int .u64 0, .int .u64 0, .string ⟨#[]⟩, .int .i64 0, .string ⟨#[]⟩, .string ⟨#[]⟩, .int .u64 0, .int .i64 0, .slice none 0 0, .slice none 0 0], .int .i64 4])) ∧ Below w.heap.size w w'
set_option maxHeartbeats 64000000 in
set_option maxRecDepth 100000 in
theorem aread_any (A : Option Addr) (c : Nat) (b : List Int) (w : World) (hC : Kd.C (Kd.int .u8) w A b.length b) (hc : b.length ≤ c) (hb : b.length ≤ 10000)
    (n0 n1 n3 n6 n7 : Int) (t2 t4 t5 s8 s9 : List Int) (l0 l1 l2 l3 l4 l5 l6 l7 l8 l9 l10 : List Int) (q0 q1 q2 q3 q4 q5 q6 q7 q8 q9 q10 : Bool) (hl0 : l0 = b) (hq0 : q0 = false) (H0 : uintS l0 q0 = (n0, l1, q1)) (K0 : okL l0) (H1 : uintS l1 q1 = (n1, l2, q2)) (K1 : okL l1) (H2 : someS l2 q2 115 = (t2, l3, q3)) (K2 : okL l2) (H3 : uintS l3 q3 = (n3, l4, q4)) (K3 : okL l3) (H4 : someS l4 q4 115 = (t4, l5, q5)) (K4 : okL l4) (H5 : someS l5 q5 115 = (t5, l6, q6)) (K5 : okL l5) (H6 : uintS l6 q6 = (n6, l7, q7)) (K6 : okL l6) (H7 : uintS l7 q7 = (n7, l8, q8)) (K7 : okL l7) (H8 : someS l8 q8 98 = (s8, l9, q9)) (K8 : okL l8) (H9 : someS l9 q9 98 = (s9, l10, q10)) (K9 : okL l9)
    (hn3 : 0 ≤ n3 ∧ n3 ≤ 18446744073709551615) (hn7 : 0 ≤ n7 ∧ n7 ≤ 18446744073709551615) (hX : okX ⟨n0, n1, strOfNums t2, mn n3 20, strOfNums t4, strOfNums t5, n6, mn n7 10000, s8, s9⟩) (good : Bool) (hg : good = (decide (doneS l10 q10 = 0) && rightP ⟨n0, n1, strOfNums t2, mn n3 20, strOfNums t4, strOfNums t5, n6, mn n7 10000, s8, s9⟩)) :
    Calls Try.prog 88 #[.slice A b.length c] w fun e w' => RdPost ⟨n0, n1, strOfNums t2, mn n3 20, strOfNums t4, strOfNums t5, n6, mn n7 10000, s8, s9⟩ good w e w' := by
  have hu69 := Try.underlying69
  subst hl0 hq0
  have HB := Aside0.mk (Below.refl w.heap.size w)
  have HC := Aside0.mk hC
  have Hc := Aside0.mk hc
  have HLN := Aside0.mk hb
  have HX := Aside0.mk hX
  have HG := Aside0.mk hg
  have w20 := mn20 n3 hn3
  have w1e4 := mn1e4 n7 hn7
  clear hC hc hb hX hg
  have T0 : True := trivial
  go_enter Try.func88, Try.ntmps88
  go_upto_region 2 with (first
    | ((with_reducible refine gate_dst (N := 2) rfl ?_); refine box_event ?hg (N := 2) ?hd (cs := #[.int .u64 0, .int .u64 0, .string ⟨#[]⟩, .int .i64 0, .string ⟨#[]⟩, .string ⟨#[]⟩, .int .u64 0, .int .i64 0, .slice none 0 0, .slice none 0 0]) (t := 69) ?hr ?_; (case hd => rfl); (case hg => rfl); (case hr => first | (go_simp; done) | (go_simp; rfl)); intro g2 hg wz hbox hb; have BK2 := Aside0.mk hbox; have GE2 := Aside0.mk (by rw [hg]; exact below_size HB.out : w.heap.size ≤ g2); have nb_ := Aside0.mk (below_step HB.out hb); clear HB; have HB := nb_; clear nb_ hbox hb hg)
    | (go_at_call 56; (with_reducible refine (read_any A c l0 _ (Kd.C_below HC.out HB.out) Hc.out (by have := HLN.out; omega)).mono ?_); rintro e wy ⟨g, rfl, hg, hi, hb⟩; have HI := Aside0.mk hi; have G := Aside0.mk (show w.heap.size ≤ g by have := HB.out.size; omega); have N2 := Aside0.mk (show g2 ≠ g from Nat.ne_of_lt (Nat.lt_of_lt_of_le (blk_lt BK2.out) hg)); have B2_ := Aside0.mk (blk_below BK2.out hb); have HB_ := Aside0.mk (below_step HB.out hb); clear BK2 HB hg hi hb; have BK2 := B2_; have HB := HB_; clear B2_ HB_))
  (try simp only [Act.put, List.setIfInBounds_toArray, List.set_cons_zero, List.set_cons_succ])
  have M0 := Aside0.mk (fun W h => uint_any g l0 false W h K0)
  rw [H0] at M0
  have M1 := Aside0.mk (fun W h => uint_any g l1 q1 W h K1)
  rw [H1] at M1
  have M2 := Aside0.mk (fun W h => text_any g l2 q2 W h K2)
  rw [H2] at M2
  have M3 := Aside0.mk (fun W h => uint_any g l3 q3 W h K3)
  rw [H3] at M3
  have M4 := Aside0.mk (fun W h => text_any g l4 q4 W h K4)
  rw [H4] at M4
  have M5 := Aside0.mk (fun W h => text_any g l5 q5 W h K5)
  rw [H5] at M5
  have M6 := Aside0.mk (fun W h => uint_any g l6 q6 W h K6)
  rw [H6] at M6
  have M7 := Aside0.mk (fun W h => uint_any g l7 q7 W h K7)
  rw [H7] at M7
  have M8 := Aside0.mk (fun W h => bytes_any g l8 q8 W h K8)
  rw [H8] at M8
  have M9 := Aside0.mk (fun W h => bytes_any g l9 q9 W h K9)
  rw [H9] at M9
  clear H0 H1 H2 H3 H4 H5 H6 H7 H8 H9 K0 K1 K2 K3 K4 K5 K6 K7 K8 K9
  go_cut [5] (fun v5 wc => ∃ g5, v5 = .pointer (some ⟨g5, 0, none⟩) ∧ Aside0 (IsR g wc l3 q3) ∧ Aside0 (wc.heap[g2]? = some (.cells #[.int .u64 0, .int .u64 0, .string ⟨#[]⟩, .int .i64 0, .string ⟨#[]⟩, .string ⟨#[]⟩, .int .u64 0, .int .i64 0, .slice none 0 0, .slice none 0 0] 69 (0, 0))) ∧ Aside0 (wc.heap[g5]? = some (.cells #[.int .u64 n0, .int .u64 n1, .string (strOfNums t2), .int .i64 0, .string ⟨#[]⟩, .string ⟨#[]⟩, .int .u64 0, .int .i64 0, .slice none 0 0, .slice none 0 0] 69 (0, 0))) ∧ Aside0 (Below w.heap.size w wc) ∧ Aside0 (g5 ≠ g) ∧ Aside0 (g2 ≠ g5) ∧ Aside0 (g2 < g5) ∧ Aside0 (w.heap.size ≤ g5))
  case first =>
    go_wp2_with (first
      | (go_at_call 57; have _t := T0; (with_reducible refine (M0.out _ HI.out).mono ?_); rintro e w0 ⟨rfl, hi, hW⟩; have HB_ := Aside0.mk (below_wr HB.out hW G.out); have B2_ := Aside0.mk (hW.blk BK2.out (blk_lt BK2.out) N2.out); have HI_ := Aside0.mk hi; clear HI HB BK2 hi hW; have HI := HI_; have HB := HB_; have BK2 := B2_; clear HI_ HB_ B2_ T0; have T1 : True := trivial)
      | (go_at_call 57; have _t := T1; (with_reducible refine (M1.out _ HI.out).mono ?_); rintro e w1 ⟨rfl, hi, hW⟩; have HB_ := Aside0.mk (below_wr HB.out hW G.out); have B2_ := Aside0.mk (hW.blk BK2.out (blk_lt BK2.out) N2.out); have HI_ := Aside0.mk hi; clear HI HB BK2 hi hW; have HI := HI_; have HB := HB_; have BK2 := B2_; clear HI_ HB_ B2_ T1; have T2 : True := trivial)
      | (go_at_call 61; have _t := T2; (with_reducible refine (M2.out _ HI.out).mono ?_); rintro e w2 ⟨rfl, hi, hW⟩; have HB_ := Aside0.mk (below_wr HB.out hW G.out); have B2_ := Aside0.mk (hW.blk BK2.out (blk_lt BK2.out) N2.out); have HI_ := Aside0.mk hi; clear HI HB BK2 hi hW; have HI := HI_; have HB := HB_; have BK2 := B2_; clear HI_ HB_ B2_ T2; have T3 : True := trivial)
      | ((with_reducible refine gate_dst (N := 5) rfl ?_); refine box_event ?hg (N := 5) ?hd (cs := #[.int .u64 0, .int .u64 0, .string ⟨#[]⟩, .int .i64 0, .string ⟨#[]⟩, .string ⟨#[]⟩, .int .u64 0, .int .i64 0, .slice none 0 0, .slice none 0 0]) (t := 69) ?hr ?_; (case hd => rfl); (case hg => rfl); (case hr => first | (go_simp; done) | (go_simp; rfl)); intro g5 hg wx hbox hb; have BK5 := Aside0.mk hbox; have GE5 := Aside0.mk (by rw [hg]; exact below_size HB.out : w.heap.size ≤ g5); have N5 := Aside0.mk (by rw [hg]; exact Nat.ne_of_gt HI.out.lt : g5 ≠ g); have N25 := Aside0.mk (by rw [hg]; exact Nat.ne_of_lt (blk_lt BK2.out) : g2 ≠ g5); have LT25 := Aside0.mk (by rw [hg]; exact blk_lt BK2.out : g2 < g5); have nb_ := Aside0.mk (below_step HB.out hb); have HI_ := Aside0.mk (HI.out.below hb); have B2_ := Aside0.mk (blk_below BK2.out hb); clear HB HI BK2; have HB := nb_; have HI := HI_; have BK2 := B2_; clear nb_ HI_ B2_ hbox hb hg; obtain ⟨hz0, hz1, hz2, hz3, hz4, hz5, hz6, hz7, hz8, hz9, fz0, fz1, fz2, fz3, fz4, fz5, fz6, fz7, fz8, fz9⟩ := cells10 BK5.out))
    go_meet
    case rel => exact ⟨g5, rfl, ⟨IsR.recb HI.out BK5.out ((((((((((((Wr.refl _ g5 _).setCell 0 _).setCell 1 _).setCell 2 _).setCell 3 _).setCell 4 _).setCell 5 _).setCell 6 _).setCell 7 _).setCell 8 _).setCell 9 _)) (Ne.symm N5.out)⟩, ⟨by (iterate 10 (refine blk_far ?_ N25.out _)); exact BK2.out⟩, ⟨by refine blk_put (cs := #[.int .u64 n0, .int .u64 n1, .string (strOfNums t2), .int .i64 0, .string ⟨#[]⟩, .string ⟨#[]⟩, .int .u64 0, .int .i64 0, .slice none 0 0, .slice none 0 0]) ?_ 9 _ rfl; refine blk_put (cs := #[.int .u64 n0, .int .u64 n1, .string (strOfNums t2), .int .i64 0, .string ⟨#[]⟩, .string ⟨#[]⟩, .int .u64 0, .int .i64 0, .slice none 0 0, .slice none 0 0]) ?_ 8 _ rfl; refine blk_put (cs := #[.int .u64 n0, .int .u64 n1, .string (strOfNums t2), .int .i64 0, .string ⟨#[]⟩, .string ⟨#[]⟩, .int .u64 0, .int .i64 0, .slice none 0 0, .slice none 0 0]) ?_ 7 _ rfl; refine blk_put (cs := #[.int .u64 n0, .int .u64 n1, .string (strOfNums t2), .int .i64 0, .string ⟨#[]⟩, .string ⟨#[]⟩, .int .u64 0, .int .i64 0, .slice none 0 0, .slice none 0 0]) ?_ 6 _ rfl; refine blk_put (cs := #[.int .u64 n0, .int .u64 n1, .string (strOfNums t2), .int .i64 0, .string ⟨#[]⟩, .string ⟨#[]⟩, .int .u64 0, .int .i64 0, .slice none 0 0, .slice none 0 0]) ?_ 5 _ rfl; refine blk_put (cs := #[.int .u64 n0, .int .u64 n1, .string (strOfNums t2), .int .i64 0, .string ⟨#[]⟩, .string ⟨#[]⟩, .int .u64 0, .int .i64 0, .slice none 0 0, .slice none 0 0]) ?_ 4 _ rfl; refine blk_put (cs := #[.int .u64 n0, .int .u64 n1, .string (strOfNums t2), .int .i64 0, .string ⟨#[]⟩, .string ⟨#[]⟩, .int .u64 0, .int .i64 0, .slice none 0 0, .slice none 0 0]) ?_ 3 _ rfl; refine blk_put (cs := #[.int .u64 n0, .int .u64 n1, .string ⟨#[]⟩, .int .i64 0, .string ⟨#[]⟩, .string ⟨#[]⟩, .int .u64 0, .int .i64 0, .slice none 0 0, .slice none 0 0]) ?_ 2 _ rfl; refine blk_put (cs := #[.int .u64 n0, .int .u64 0, .string ⟨#[]⟩, .int .i64 0, .string ⟨#[]⟩, .string ⟨#[]⟩, .int .u64 0, .int .i64 0, .slice none 0 0, .slice none 0 0]) ?_ 1 _ rfl; refine blk_put (cs := #[.int .u64 0, .int .u64 0, .string ⟨#[]⟩, .int .i64 0, .string ⟨#[]⟩, .string ⟨#[]⟩, .int .u64 0, .int .i64 0, .slice none 0 0, .slice none 0 0]) ?_ 0 _ rfl; exact BK5.out⟩, ⟨by repeat (first | (with_reducible first | exact HB.out | apply below_alloc | apply pw_below_drewN | apply below_drew1 | refine below_set ?_ GE5.out | refine below_set ?_ GE2.out) | exact HB.out)⟩, N5, N25, LT25, GE5⟩
  case rest =>
    obtain ⟨g5, rfl, HI, BK2, BK5, HB, N5, N25, LT25, GE5⟩ := hcut
    have T3 : True := trivial
    go_upto_region 3 with (fail)
    go_cut [] (fun wc => Aside0 (IsR g wc l4 q4) ∧ Aside0 (wc.heap[g2]? = some (.cells #[.int .u64 0, .int .u64 0, .string ⟨#[]⟩, .int .i64 0, .string ⟨#[]⟩, .string ⟨#[]⟩, .int .u64 0, .int .i64 0, .slice none 0 0, .slice none 0 0] 69 (0, 0))) ∧ Aside0 (wc.heap[g5]? = some (.cells #[.int .u64 n0, .int .u64 n1, .string (strOfNums t2), .int .i64 (mn n3 20), .string ⟨#[]⟩, .string ⟨#[]⟩, .int .u64 0, .int .i64 0, .slice none 0 0, .slice none 0 0] 69 (0, 0))) ∧ Aside0 (Below w.heap.size w wc))
    case first =>
      go_wp2_with (first | (go_at_call 57; have _t := T3; (with_reducible refine (M3.out _ HI.out).mono ?_); rintro e w3 ⟨rfl, hi, hW⟩; have HB_ := Aside0.mk (below_wr HB.out hW G.out); have B2_ := Aside0.mk (hW.blk BK2.out (blk_lt BK2.out) N2.out); have B5_ := Aside0.mk (hW.blk BK5.out (blk_lt BK5.out) N5.out); have HI_ := Aside0.mk hi; clear HI HB BK2 BK5 hi hW; have HI := HI_; have HB := HB_; have BK2 := B2_; have BK5 := B5_; clear HI_ HB_ B2_ B5_ T3; have T4 : True := trivial; obtain ⟨hz0, hz1, hz2, hz3, hz4, hz5, hz6, hz7, hz8, hz9, fz0, fz1, fz2, fz3, fz4, fz5, fz6, fz7, fz8, fz9⟩ := cells10 BK5.out))
      all_goals
       go_meet
       case rel => exact ⟨⟨IsR.recb HI.out BK5.out ((Wr.refl _ g5 _).setCell 3 _) (Ne.symm N5.out)⟩, ⟨by refine blk_far ?_ N25.out _; exact BK2.out⟩, ⟨by refine blk_put (cs := #[.int .u64 n0, .int .u64 n1, .string (strOfNums t2), .int .i64 0, .string ⟨#[]⟩, .string ⟨#[]⟩, .int .u64 0, .int .i64 0, .slice none 0 0, .slice none 0 0]) ?_ 3 _ (by first | (rw [show mn n3 20 = 20 from (by unfold mn; split <;> omega)]; rfl) | (rw [show mn n3 20 = n3 from (by unfold mn; split <;> omega)]; rfl)); exact BK5.out⟩, ⟨by repeat (first | (with_reducible first | exact HB.out | apply below_alloc | apply pw_below_drewN | apply below_drew1 | refine below_set ?_ GE5.out | refine below_set ?_ GE2.out) | exact HB.out)⟩⟩
    case rest =>
      obtain ⟨HI, BK2, BK5, HB⟩ := hcut
      have T4 : True := trivial
      go_upto_region 4 with (fail)
      go_cut [] (fun wc => Aside0 (IsR g wc l7 q7) ∧ Aside0 (wc.heap[g2]? = some (.cells #[.int .u64 0, .int .u64 0, .string ⟨#[]⟩, .int .i64 0, .string ⟨#[]⟩, .string ⟨#[]⟩, .int .u64 0, .int .i64 0, .slice none 0 0, .slice none 0 0] 69 (0, 0))) ∧ Aside0 (wc.heap[g5]? = some (.cells #[.int .u64 n0, .int .u64 n1, .string (strOfNums t2), .int .i64 (mn n3 20), .string (strOfNums t4), .string (strOfNums t5), .int .u64 n6, .int .i64 0, .slice none 0 0, .slice none 0 0] 69 (0, 0))) ∧ Aside0 (Below w.heap.size w wc))
      case first =>
        go_wp2_with (first
          | (go_at_call 61; have _t := T4; (with_reducible refine (M4.out _ HI.out).mono ?_); rintro e w4 ⟨rfl, hi, hW⟩; have HB_ := Aside0.mk (below_wr HB.out hW G.out); have B2_ := Aside0.mk (hW.blk BK2.out (blk_lt BK2.out) N2.out); have B5_ := Aside0.mk (hW.blk BK5.out (blk_lt BK5.out) N5.out); have HI_ := Aside0.mk hi; clear HI HB BK2 BK5 hi hW; have HI := HI_; have HB := HB_; have BK2 := B2_; have BK5 := B5_; clear HI_ HB_ B2_ B5_ T4; have T5 : True := trivial)
          | (go_at_call 61; have _t := T5; (with_reducible refine (M5.out _ HI.out).mono ?_); rintro e w5 ⟨rfl, hi, hW⟩; have HB_ := Aside0.mk (below_wr HB.out hW G.out); have B2_ := Aside0.mk (hW.blk BK2.out (blk_lt BK2.out) N2.out); have B5_ := Aside0.mk (hW.blk BK5.out (blk_lt BK5.out) N5.out); have HI_ := Aside0.mk hi; clear HI HB BK2 BK5 hi hW; have HI := HI_; have HB := HB_; have BK2 := B2_; have BK5 := B5_; clear HI_ HB_ B2_ B5_ T5; have T6 : True := trivial)
          | (go_at_call 57; have _t := T6; (with_reducible refine (M6.out _ HI.out).mono ?_); rintro e w6 ⟨rfl, hi, hW⟩; have HB_ := Aside0.mk (below_wr HB.out hW G.out); have B2_ := Aside0.mk (hW.blk BK2.out (blk_lt BK2.out) N2.out); have B5_ := Aside0.mk (hW.blk BK5.out (blk_lt BK5.out) N5.out); have HI_ := Aside0.mk hi; clear HI HB BK2 BK5 hi hW; have HI := HI_; have HB := HB_; have BK2 := B2_; have BK5 := B5_; clear HI_ HB_ B2_ B5_ T6; have T7 : True := trivial; obtain ⟨hz0, hz1, hz2, hz3, hz4, hz5, hz6, hz7, hz8, hz9, fz0, fz1, fz2, fz3, fz4, fz5, fz6, fz7, fz8, fz9⟩ := cells10 BK5.out))
        go_meet
        case rel => exact ⟨⟨IsR.recb HI.out BK5.out ((((Wr.refl _ g5 _).setCell 4 _).setCell 5 _).setCell 6 _) (Ne.symm N5.out)⟩, ⟨by (iterate 3 (refine blk_far ?_ N25.out _)); exact BK2.out⟩, ⟨by refine blk_put (cs := #[.int .u64 n0, .int .u64 n1, .string (strOfNums t2), .int .i64 (mn n3 20), .string (strOfNums t4), .string (strOfNums t5), .int .u64 0, .int .i64 0, .slice none 0 0, .slice none 0 0]) ?_ 6 _ rfl; refine blk_put (cs := #[.int .u64 n0, .int .u64 n1, .string (strOfNums t2), .int .i64 (mn n3 20), .string (strOfNums t4), .string ⟨#[]⟩, .int .u64 0, .int .i64 0, .slice none 0 0, .slice none 0 0]) ?_ 5 _ rfl; refine blk_put (cs := #[.int .u64 n0, .int .u64 n1, .string (strOfNums t2), .int .i64 (mn n3 20), .string ⟨#[]⟩, .string ⟨#[]⟩, .int .u64 0, .int .i64 0, .slice none 0 0, .slice none 0 0]) ?_ 4 _ rfl; exact BK5.out⟩, ⟨by repeat (first | (with_reducible first | exact HB.out | apply below_alloc | apply pw_below_drewN | apply below_drew1 | refine below_set ?_ GE5.out | refine below_set ?_ GE2.out) | exact HB.out)⟩⟩
      case rest =>
        obtain ⟨HI, BK2, BK5, HB⟩ := hcut
        have T7 : True := trivial
        go_upto_region 5 with (fail)
        go_cut [] (fun wc => Aside0 (IsR g wc l8 q8) ∧ Aside0 (wc.heap[g2]? = some (.cells #[.int .u64 0, .int .u64 0, .string ⟨#[]⟩, .int .i64 0, .string ⟨#[]⟩, .string ⟨#[]⟩, .int .u64 0, .int .i64 0, .slice none 0 0, .slice none 0 0] 69 (0, 0))) ∧ Aside0 (wc.heap[g5]? = some (.cells #[.int .u64 n0, .int .u64 n1, .string (strOfNums t2), .int .i64 (mn n3 20), .string (strOfNums t4), .string (strOfNums t5), .int .u64 n6, .int .i64 (mn n7 10000), .slice none 0 0, .slice none 0 0] 69 (0, 0))) ∧ Aside0 (Below w.heap.size w wc))
        case first =>
          go_wp2_with (first | (go_at_call 57; have _t := T7; (with_reducible refine (M7.out _ HI.out).mono ?_); rintro e w7 ⟨rfl, hi, hW⟩; have HB_ := Aside0.mk (below_wr HB.out hW G.out); have B2_ := Aside0.mk (hW.blk BK2.out (blk_lt BK2.out) N2.out); have B5_ := Aside0.mk (hW.blk BK5.out (blk_lt BK5.out) N5.out); have HI_ := Aside0.mk hi; clear HI HB BK2 BK5 hi hW; have HI := HI_; have HB := HB_; have BK2 := B2_; have BK5 := B5_; clear HI_ HB_ B2_ B5_ T7; have T8 : True := trivial; obtain ⟨hz0, hz1, hz2, hz3, hz4, hz5, hz6, hz7, hz8, hz9, fz0, fz1, fz2, fz3, fz4, fz5, fz6, fz7, fz8, fz9⟩ := cells10 BK5.out))
          all_goals
           go_meet
           case rel => exact ⟨⟨IsR.recb HI.out BK5.out ((Wr.refl _ g5 _).setCell 7 _) (Ne.symm N5.out)⟩, ⟨by refine blk_far ?_ N25.out _; exact BK2.out⟩, ⟨by refine blk_put (cs := #[.int .u64 n0, .int .u64 n1, .string (strOfNums t2), .int .i64 (mn n3 20), .string (strOfNums t4), .string (strOfNums t5), .int .u64 n6, .int .i64 0, .slice none 0 0, .slice none 0 0]) ?_ 7 _ (by first | (rw [show mn n7 10000 = 10000 from (by unfold mn; split <;> omega)]; rfl) | (rw [show mn n7 10000 = n7 from (by unfold mn; split <;> omega)]; rfl)); exact BK5.out⟩, ⟨by repeat (first | (with_reducible first | exact HB.out | apply below_alloc | apply pw_below_drewN | apply below_drew1 | refine below_set ?_ GE5.out | refine below_set ?_ GE2.out) | exact HB.out)⟩⟩
        case rest =>
          obtain ⟨HI, BK2, BK5, HB⟩ := hcut
          have T8 : True := trivial
          go_upto_region 6 with (fail)
          go_cut [] (fun wc => ∃ A8 c8 A9 c9, Aside0 (IsR g wc l10 q10) ∧ Aside0 (wc.heap[g2]? = some (.cells #[.int .u64 0, .int .u64 0, .string ⟨#[]⟩, .int .i64 0, .string ⟨#[]⟩, .string ⟨#[]⟩, .int .u64 0, .int .i64 0, .slice none 0 0, .slice none 0 0] 69 (0, 0))) ∧ Aside0 (wc.heap[g5]? = some (.cells #[.int .u64 n0, .int .u64 n1, .string (strOfNums t2), .int .i64 (mn n3 20), .string (strOfNums t4), .string (strOfNums t5), .int .u64 n6, .int .i64 (mn n7 10000), .slice A8 s8.length c8, .slice A9 s9.length c9] 69 (0, 0))) ∧ Aside0 (Below w.heap.size w wc) ∧ Aside0 (∃ base, Kd.R (Kd.int .u8) 5 wc base (fun _ => True) (.slice A8 s8.length c8) s8 ∧ g2 < base) ∧ Aside0 (∃ base, Kd.R (Kd.int .u8) 5 wc base (fun _ => True) (.slice A9 s9.length c9) s9 ∧ g2 < base))
          case first =>
            go_wp2_with (first
              | (go_at_call 59; have _t := T8; (with_reducible refine (M8.out _ HI.out).mono ?_); rintro e w8 ⟨v, rfl, hr, hi, hW⟩; obtain ⟨A8, c8, rfl, hc_, hC_⟩ := Kd.R_reads hr; have R8 := Aside0.mk (show ∃ base, Kd.R (Kd.int .u8) 5 w8 base (fun _ => True) (.slice A8 s8.length c8) s8 ∧ g < base ∧ g5 < base from ⟨_, hr, HI.out.lt, blk_lt BK5.out⟩); have HB_ := Aside0.mk (below_wr HB.out hW G.out); have B2_ := Aside0.mk (hW.blk BK2.out (blk_lt BK2.out) N2.out); have B5_ := Aside0.mk (hW.blk BK5.out (blk_lt BK5.out) N5.out); have HI_ := Aside0.mk hi; clear HI HB BK2 BK5 hr hi hW hc_ hC_; have HI := HI_; have HB := HB_; have BK2 := B2_; have BK5 := B5_; clear HI_ HB_ B2_ B5_ T8; have T9 : True := trivial)
              | (go_at_call 59; have _t := T9; (with_reducible refine (M9.out _ HI.out).mono ?_); rintro e w9 ⟨v, rfl, hr, hi, hW⟩; obtain ⟨A9, c9, rfl, hc_, hC_⟩ := Kd.R_reads hr; have R9 := Aside0.mk (show ∃ base, Kd.R (Kd.int .u8) 5 w9 base (fun _ => True) (.slice A9 s9.length c9) s9 ∧ g < base ∧ g5 < base from ⟨_, hr, HI.out.lt, blk_lt BK5.out⟩); have R8_ := Aside0.mk (show ∃ base, Kd.R (Kd.int .u8) 5 w9 base (fun _ => True) (.slice A8 s8.length c8) s8 ∧ g < base ∧ g5 < base from (by obtain ⟨base, h1, h2, h3⟩ := R8.out; exact ⟨base, R_wrr h1 hW h2, h2, h3⟩)); clear R8; have R8 := R8_; clear R8_; have HB_ := Aside0.mk (below_wr HB.out hW G.out); have B2_ := Aside0.mk (hW.blk BK2.out (blk_lt BK2.out) N2.out); have B5_ := Aside0.mk (hW.blk BK5.out (blk_lt BK5.out) N5.out); have HI_ := Aside0.mk hi; clear HI HB BK2 BK5 hr hi hW hc_ hC_; have HI := HI_; have HB := HB_; have BK2 := B2_; have BK5 := B5_; clear HI_ HB_ B2_ B5_ T9; have T10 : True := trivial; obtain ⟨hz0, hz1, hz2, hz3, hz4, hz5, hz6, hz7, hz8, hz9, fz0, fz1, fz2, fz3, fz4, fz5, fz6, fz7, fz8, fz9⟩ := cells10 BK5.out))
            go_meet
            case rel => exact ⟨A8, c8, A9, c9, ⟨IsR.recb HI.out BK5.out (((Wr.refl _ g5 _).setCell 8 _).setCell 9 _) (Ne.symm N5.out)⟩, ⟨by (iterate 2 (refine blk_far ?_ N25.out _)); exact BK2.out⟩, ⟨by refine blk_put (cs := #[.int .u64 n0, .int .u64 n1, .string (strOfNums t2), .int .i64 (mn n3 20), .string (strOfNums t4), .string (strOfNums t5), .int .u64 n6, .int .i64 (mn n7 10000), .slice A8 s8.length c8, .slice none 0 0]) ?_ 9 _ rfl; refine blk_put (cs := #[.int .u64 n0, .int .u64 n1, .string (strOfNums t2), .int .i64 (mn n3 20), .string (strOfNums t4), .string (strOfNums t5), .int .u64 n6, .int .i64 (mn n7 10000), .slice none 0 0, .slice none 0 0]) ?_ 8 _ rfl; exact BK5.out⟩, ⟨by repeat (first | (with_reducible first | exact HB.out | apply below_alloc | apply pw_below_drewN | apply below_drew1 | refine below_set ?_ GE5.out | refine below_set ?_ GE2.out) | exact HB.out)⟩, ⟨by obtain ⟨base, h1, h2, h3⟩ := R8.out; exact ⟨base, R_offs (R_offs h1 h3 8 _) h3 9 _, Nat.lt_trans LT25.out h3⟩⟩, ⟨by obtain ⟨base, h1, h2, h3⟩ := R9.out; exact ⟨base, R_offs (R_offs h1 h3 8 _) h3 9 _, Nat.lt_trans LT25.out h3⟩⟩⟩
          case rest =>
            obtain ⟨A8, c8, A9, c9, HI, BK2, BK5, HB, R8, R9⟩ := hcut
            obtain ⟨dn, hdn⟩ : ∃ d, doneS l10 q10 = d := ⟨_, rfl⟩
            have DD := Aside0.mk (fun W h => done_any g l10 q10 W h)
            rw [hdn] at DD HG
            clear hdn
            obtain ⟨hv0, hv1, hv2, hv3, hv4, hv5, hv6, hv7, hv8, hv9, fv0, fv1, fv2, fv3, fv4, fv5, fv6, fv7, fv8, fv9⟩ := cells10 BK5.out
            obtain ⟨hu0, hu1, hu2, hu3, hu4, hu5, hu6, hu7, hu8, hu9, fu0, fu1, fu2, fu3, fu4, fu5, fu6, fu7, fu8, fu9⟩ := cells10 BK2.out
            have hn25 := N25.out
            have hn52 := Ne.symm N25.out
            have HRC := Aside0.mk (show RecC wc ⟨n0, n1, strOfNums t2, mn n3 20, strOfNums t4, strOfNums t5, n6, mn n7 10000, s8, s9⟩ A8 c8 A9 c9 from (by
              obtain ⟨b8, h8, _⟩ := R8.out
              obtain ⟨b9, h9, _⟩ := R9.out
              have k8 := Kd.R_reads' h8
              have k9 := Kd.R_reads' h9
              exact ⟨k8.2.2, k8.2.1, k9.2.2, k9.2.1⟩))
            obtain ⟨rp, hrp⟩ : ∃ r, rightP ⟨n0, n1, strOfNums t2, mn n3 20, strOfNums t4, strOfNums t5, n6, mn n7 10000, s8, s9⟩ = r := ⟨_, rfl⟩
            have RC := Aside0.mk (fun W h => right_c ⟨n0, n1, strOfNums t2, mn n3 20, strOfNums t4, strOfNums t5, n6, mn n7 10000, s8, s9⟩ A8 c8 A9 c9 W h HX.out)
            rw [hrp] at RC HG
            clear hrp
            by_cases hd : dn = 0
            · have d0 : (dn != 0) = false := by rw [hd]; rfl
              have d1 : (dn == 0) = true := by rw [hd]; rfl
              have HGG : Aside0 (good = rp) := ⟨by rw [HG.out, hd]; simp⟩
              clear HG hd
              cases rp with
              | true =>
                go_wp2_with (first
                  | (go_at_call 68; (with_reducible refine (DD.out _ HI.out).mono ?_); rintro e w' ⟨rfl, rfl⟩)
                  | (go_at_call 145; (with_reducible refine (RC.out _ HRC.out).mono ?_); rintro e w6 ⟨rfl, hb⟩; have nb_ := Aside0.mk (below_step HB.out hb); have B2_ := Aside0.mk (blk_below BK2.out hb); have B5_ := Aside0.mk (blk_below BK5.out hb); have r8_ := Aside0.mk (show ∃ base, Kd.R (Kd.int .u8) 5 w6 base (fun _ => True) (.slice A8 s8.length c8) s8 ∧ g2 < base from (by obtain ⟨base, h1, h2⟩ := R8.out; exact ⟨base, Kd.R_below h1 hb, h2⟩)); have r9_ := Aside0.mk (show ∃ base, Kd.R (Kd.int .u8) 5 w6 base (fun _ => True) (.slice A9 s9.length c9) s9 ∧ g2 < base from (by obtain ⟨base, h1, h2⟩ := R9.out; exact ⟨base, Kd.R_below h1 hb, h2⟩)); clear HB BK2 BK5 R8 R9 hb; have HB := nb_; have BK2 := B2_; have BK5 := B5_; have R8 := r8_; have R9 := r9_; clear nb_ B2_ B5_ r8_ r9_; obtain ⟨ha0, ha1, ha2, ha3, ha4, ha5, ha6, ha7, ha8, ha9, fa0, fa1, fa2, fa3, fa4, fa5, fa6, fa7, fa8, fa9⟩ := cells10 BK5.out; obtain ⟨hb0, hb1, hb2, hb3, hb4, hb5, hb6, hb7, hb8, hb9, fb0, fb1, fb2, fb3, fb4, fb5, fb6, fb7, fb8, fb9⟩ := cells10 BK2.out))
                refine bodyPost_ret (results_cell_tmp rfl _ _ g2 69 #[.int .u64 n0, .int .u64 n1, .string (strOfNums t2), .int .i64 (mn n3 20), .string (strOfNums t4), .string (strOfNums t5), .int .u64 n6, .int .i64 (mn n7 10000), .slice A8 s8.length c8, .slice A9 s9.length c9] (0, 0) _ (.int .i64 0) rfl (by refine blk_put (cs := #[.int .u64 n0, .int .u64 n1, .string (strOfNums t2), .int .i64 (mn n3 20), .string (strOfNums t4), .string (strOfNums t5), .int .u64 n6, .int .i64 (mn n7 10000), .slice A8 s8.length c8, .slice none 0 0]) ?_ 9 _ rfl; refine blk_put (cs := #[.int .u64 n0, .int .u64 n1, .string (strOfNums t2), .int .i64 (mn n3 20), .string (strOfNums t4), .string (strOfNums t5), .int .u64 n6, .int .i64 (mn n7 10000), .slice none 0 0, .slice none 0 0]) ?_ 8 _ rfl; refine blk_put (cs := #[.int .u64 n0, .int .u64 n1, .string (strOfNums t2), .int .i64 (mn n3 20), .string (strOfNums t4), .string (strOfNums t5), .int .u64 n6, .int .i64 0, .slice none 0 0, .slice none 0 0]) ?_ 7 _ rfl; refine blk_put (cs := #[.int .u64 n0, .int .u64 n1, .string (strOfNums t2), .int .i64 (mn n3 20), .string (strOfNums t4), .string (strOfNums t5), .int .u64 0, .int .i64 0, .slice none 0 0, .slice none 0 0]) ?_ 6 _ rfl; refine blk_put (cs := #[.int .u64 n0, .int .u64 n1, .string (strOfNums t2), .int .i64 (mn n3 20), .string (strOfNums t4), .string ⟨#[]⟩, .int .u64 0, .int .i64 0, .slice none 0 0, .slice none 0 0]) ?_ 5 _ rfl; refine blk_put (cs := #[.int .u64 n0, .int .u64 n1, .string (strOfNums t2), .int .i64 (mn n3 20), .string ⟨#[]⟩, .string ⟨#[]⟩, .int .u64 0, .int .i64 0, .slice none 0 0, .slice none 0 0]) ?_ 4 _ rfl; refine blk_put (cs := #[.int .u64 n0, .int .u64 n1, .string (strOfNums t2), .int .i64 0, .string ⟨#[]⟩, .string ⟨#[]⟩, .int .u64 0, .int .i64 0, .slice none 0 0, .slice none 0 0]) ?_ 3 _ rfl; refine blk_put (cs := #[.int .u64 n0, .int .u64 n1, .string ⟨#[]⟩, .int .i64 0, .string ⟨#[]⟩, .string ⟨#[]⟩, .int .u64 0, .int .i64 0, .slice none 0 0, .slice none 0 0]) ?_ 2 _ rfl; refine blk_put (cs := #[.int .u64 n0, .int .u64 0, .string ⟨#[]⟩, .int .i64 0, .string ⟨#[]⟩, .string ⟨#[]⟩, .int .u64 0, .int .i64 0, .slice none 0 0, .slice none 0 0]) ?_ 1 _ rfl; refine blk_put (cs := #[.int .u64 0, .int .u64 0, .string ⟨#[]⟩, .int .i64 0, .string ⟨#[]⟩, .string ⟨#[]⟩, .int .u64 0, .int .i64 0, .slice none 0 0, .slice none 0 0]) ?_ 0 _ rfl; exact BK2.out) Try.underlying69 rfl (by kernel_rfl) rfl) rfl ?_
                unfold RdPost
                refine ⟨?_, by repeat (first | (with_reducible first | exact HB.out | apply below_alloc | apply pw_below_drewN | apply below_drew1 | refine below_set ?_ GE5.out | refine below_set ?_ GE2.out) | exact HB.out)⟩
                rw [if_pos HGG.out]
                obtain ⟨b8, h8, g8⟩ := R8.out
                obtain ⟨b9, h9, g9⟩ := R9.out
                have k8 := Kd.R_reads' ((R_offs (R_offs (R_offs (R_offs (R_offs (R_offs (R_offs (R_offs (R_offs (R_offs h8 g8 0 (.int .u64 n0)) g8 1 (.int .u64 n1)) g8 2 (.string (strOfNums t2))) g8 3 (.int .i64 (mn n3 20))) g8 4 (.string (strOfNums t4))) g8 5 (.string (strOfNums t5))) g8 6 (.int .u64 n6)) g8 7 (.int .i64 (mn n7 10000))) g8 8 (.slice A8 s8.length c8)) g8 9 (.slice A9 s9.length c9)))
                have k9 := Kd.R_reads' ((R_offs (R_offs (R_offs (R_offs (R_offs (R_offs (R_offs (R_offs (R_offs (R_offs h9 g9 0 (.int .u64 n0)) g9 1 (.int .u64 n1)) g9 2 (.string (strOfNums t2))) g9 3 (.int .i64 (mn n3 20))) g9 4 (.string (strOfNums t4))) g9 5 (.string (strOfNums t5))) g9 6 (.int .u64 n6)) g9 7 (.int .i64 (mn n7 10000))) g9 8 (.slice A8 s8.length c8)) g9 9 (.slice A9 s9.length c9)))
                exact ⟨A8, c8, A9, c9, rfl, k8.2.2, k8.2.1, k9.2.2, k9.2.1⟩
              | false =>
                go_wp2_with (first
                  | (go_at_call 68; (with_reducible refine (DD.out _ HI.out).mono ?_); rintro e w' ⟨rfl, rfl⟩)
                  | (go_at_call 145; (with_reducible refine (RC.out _ HRC.out).mono ?_); rintro e w6 ⟨rfl, hb⟩; have nb_ := Aside0.mk (below_step HB.out hb); have B2_ := Aside0.mk (blk_below BK2.out hb); have B5_ := Aside0.mk (blk_below BK5.out hb); have r8_ := Aside0.mk (show ∃ base, Kd.R (Kd.int .u8) 5 w6 base (fun _ => True) (.slice A8 s8.length c8) s8 ∧ g2 < base from (by obtain ⟨base, h1, h2⟩ := R8.out; exact ⟨base, Kd.R_below h1 hb, h2⟩)); have r9_ := Aside0.mk (show ∃ base, Kd.R (Kd.int .u8) 5 w6 base (fun _ => True) (.slice A9 s9.length c9) s9 ∧ g2 < base from (by obtain ⟨base, h1, h2⟩ := R9.out; exact ⟨base, Kd.R_below h1 hb, h2⟩)); clear HB BK2 BK5 R8 R9 hb; have HB := nb_; have BK2 := B2_; have BK5 := B5_; have R8 := r8_; have R9 := r9_; clear nb_ B2_ B5_ r8_ r9_; obtain ⟨ha0, ha1, ha2, ha3, ha4, ha5, ha6, ha7, ha8, ha9, fa0, fa1, fa2, fa3, fa4, fa5, fa6, fa7, fa8, fa9⟩ := cells10 BK5.out; obtain ⟨hb0, hb1, hb2, hb3, hb4, hb5, hb6, hb7, hb8, hb9, fb0, fb1, fb2, fb3, fb4, fb5, fb6, fb7, fb8, fb9⟩ := cells10 BK2.out))
                refine bodyPost_ret (results_cell_tmp rfl _ _ g2 69 #[.int .u64 0, .int .u64 0, .string ⟨#[]⟩, .int .i64 0, .string ⟨#[]⟩, .string ⟨#[]⟩, .int .u64 0, .int .i64 0, .slice none 0 0, .slice none 0 0] (0, 0) _ (.int .i64 4) rfl (by refine blk_put (cs := #[.int .u64 0, .int .u64 0, .string ⟨#[]⟩, .int .i64 0, .string ⟨#[]⟩, .string ⟨#[]⟩, .int .u64 0, .int .i64 0, .slice none 0 0, .slice none 0 0]) ?_ 9 _ rfl; refine blk_put (cs := #[.int .u64 0, .int .u64 0, .string ⟨#[]⟩, .int .i64 0, .string ⟨#[]⟩, .string ⟨#[]⟩, .int .u64 0, .int .i64 0, .slice none 0 0, .slice none 0 0]) ?_ 8 _ rfl; refine blk_put (cs := #[.int .u64 0, .int .u64 0, .string ⟨#[]⟩, .int .i64 0, .string ⟨#[]⟩, .string ⟨#[]⟩, .int .u64 0, .int .i64 0, .slice none 0 0, .slice none 0 0]) ?_ 7 _ rfl; refine blk_put (cs := #[.int .u64 0, .int .u64 0, .string ⟨#[]⟩, .int .i64 0, .string ⟨#[]⟩, .string ⟨#[]⟩, .int .u64 0, .int .i64 0, .slice none 0 0, .slice none 0 0]) ?_ 6 _ rfl; refine blk_put (cs := #[.int .u64 0, .int .u64 0, .string ⟨#[]⟩, .int .i64 0, .string ⟨#[]⟩, .string ⟨#[]⟩, .int .u64 0, .int .i64 0, .slice none 0 0, .slice none 0 0]) ?_ 5 _ rfl; refine blk_put (cs := #[.int .u64 0, .int .u64 0, .string ⟨#[]⟩, .int .i64 0, .string ⟨#[]⟩, .string ⟨#[]⟩, .int .u64 0, .int .i64 0, .slice none 0 0, .slice none 0 0]) ?_ 4 _ rfl; refine blk_put (cs := #[.int .u64 0, .int .u64 0, .string ⟨#[]⟩, .int .i64 0, .string ⟨#[]⟩, .string ⟨#[]⟩, .int .u64 0, .int .i64 0, .slice none 0 0, .slice none 0 0]) ?_ 3 _ rfl; refine blk_put (cs := #[.int .u64 0, .int .u64 0, .string ⟨#[]⟩, .int .i64 0, .string ⟨#[]⟩, .string ⟨#[]⟩, .int .u64 0, .int .i64 0, .slice none 0 0, .slice none 0 0]) ?_ 2 _ rfl; refine blk_put (cs := #[.int .u64 0, .int .u64 0, .string ⟨#[]⟩, .int .i64 0, .string ⟨#[]⟩, .string ⟨#[]⟩, .int .u64 0, .int .i64 0, .slice none 0 0, .slice none 0 0]) ?_ 1 _ rfl; refine blk_put (cs := #[.int .u64 0, .int .u64 0, .string ⟨#[]⟩, .int .i64 0, .string ⟨#[]⟩, .string ⟨#[]⟩, .int .u64 0, .int .i64 0, .slice none 0 0, .slice none 0 0]) ?_ 0 _ rfl; exact BK2.out) Try.underlying69 rfl (by kernel_rfl) rfl) rfl ?_
                unfold RdPost
                refine ⟨?_, by repeat (first | (with_reducible first | exact HB.out | apply below_alloc | apply pw_below_drewN | apply below_drew1 | refine below_set ?_ GE5.out | refine below_set ?_ GE2.out) | exact HB.out)⟩
                rw [if_neg (by rw [HGG.out]; decide)]
            · have d0 : (dn != 0) = true := by rw [bne_iff_ne]; exact hd
              have d1 : (dn == 0) = false := by rw [beq_eq_false_iff_ne]; exact hd
              have HGG : Aside0 (good = false) := ⟨by rw [HG.out, decide_eq_false hd]; rfl⟩
              clear HG hd
              go_wp2_with (go_at_call 68; (with_reducible refine (DD.out _ HI.out).mono ?_); rintro e w' ⟨rfl, rfl⟩)
              refine bodyPost_ret (results_cell_tmp rfl _ _ g2 69 #[.int .u64 0, .int .u64 0, .string ⟨#[]⟩, .int .i64 0, .string ⟨#[]⟩, .string ⟨#[]⟩, .int .u64 0, .int .i64 0, .slice none 0 0, .slice none 0 0] (0, 0) _ (.int .i64 4) rfl (by refine blk_put (cs := #[.int .u64 0, .int .u64 0, .string ⟨#[]⟩, .int .i64 0, .string ⟨#[]⟩, .string ⟨#[]⟩, .int .u64 0, .int .i64 0, .slice none 0 0, .slice none 0 0]) ?_ 9 _ rfl; refine blk_put (cs := #[.int .u64 0, .int .u64 0, .string ⟨#[]⟩, .int .i64 0, .string ⟨#[]⟩, .string ⟨#[]⟩, .int .u64 0, .int .i64 0, .slice none 0 0, .slice none 0 0]) ?_ 8 _ rfl; refine blk_put (cs := #[.int .u64 0, .int .u64 0, .string ⟨#[]⟩, .int .i64 0, .string ⟨#[]⟩, .string ⟨#[]⟩, .int .u64 0, .int .i64 0, .slice none 0 0, .slice none 0 0]) ?_ 7 _ rfl; refine blk_put (cs := #[.int .u64 0, .int .u64 0, .string ⟨#[]⟩, .int .i64 0, .string ⟨#[]⟩, .string ⟨#[]⟩, .int .u64 0, .int .i64 0, .slice none 0 0, .slice none 0 0]) ?_ 6 _ rfl; refine blk_put (cs := #[.int .u64 0, .int .u64 0, .string ⟨#[]⟩, .int .i64 0, .string ⟨#[]⟩, .string ⟨#[]⟩, .int .u64 0, .int .i64 0, .slice none 0 0, .slice none 0 0]) ?_ 5 _ rfl; refine blk_put (cs := #[.int .u64 0, .int .u64 0, .string ⟨#[]⟩, .int .i64 0, .string ⟨#[]⟩, .string ⟨#[]⟩, .int .u64 0, .int .i64 0, .slice none 0 0, .slice none 0 0]) ?_ 4 _ rfl; refine blk_put (cs := #[.int .u64 0, .int .u64 0, .string ⟨#[]⟩, .int .i64 0, .string ⟨#[]⟩, .string ⟨#[]⟩, .int .u64 0, .int .i64 0, .slice none 0 0, .slice none 0 0]) ?_ 3 _ rfl; refine blk_put (cs := #[.int .u64 0, .int .u64 0, .string ⟨#[]⟩, .int .i64 0, .string ⟨#[]⟩, .string ⟨#[]⟩, .int .u64 0, .int .i64 0, .slice none 0 0, .slice none 0 0]) ?_ 2 _ rfl; refine blk_put (cs := #[.int .u64 0, .int .u64 0, .string ⟨#[]⟩, .int .i64 0, .string ⟨#[]⟩, .string ⟨#[]⟩, .int .u64 0, .int .i64 0, .slice none 0 0, .slice none 0 0]) ?_ 1 _ rfl; refine blk_put (cs := #[.int .u64 0, .int .u64 0, .string ⟨#[]⟩, .int .i64 0, .string ⟨#[]⟩, .string ⟨#[]⟩, .int .u64 0, .int .i64 0, .slice none 0 0, .slice none 0 0]) ?_ 0 _ rfl; exact BK2.out) Try.underlying69 rfl (by kernel_rfl) rfl) rfl ?_
              unfold RdPost
              refine ⟨?_, by repeat (first | (with_reducible first | exact HB.out | apply below_alloc | apply pw_below_drewN | apply below_drew1 | refine below_set ?_ GE5.out | refine below_set ?_ GE2.out) | exact HB.out)⟩
              rw [if_neg (by rw [HGG.out]; decide)]
end Go.Proofs.Ytlnpmodhejakiaa.AV
namespace Go.Proofs.Ytlnpmodhejakiaa.AV
open Go.RowKit Go.Proofs.YtlnpmodhejakiaaW.PrintWords Go.Proofs.YtlnpmodhejakiaaW.PrintLast Go.Proofs.YtlnpmodhejakiaaW.PrintMore Go.Proofs.Ytlnpmodhejakiaa.Sha Go.Proofs.Ytlnpmodhejakiaa.D Go.Proofs.Ytlnpmodhejakiaa.PC Go.Proofs.Ytlnpmodhejakiaa.CP Go.Proofs.Ytlnpmodhejakiaa.PV
set_option linter.unusedVariables false
set_option linter.unusedSimpArgs false
theorem IsX.wrr {w0 : World} {gx g : Nat} {w w' : World} {b l : List Int} {bad : Bool} (h : IsX w0 gx w b l bad) (hW : Wr w.heap.size g w w') (hne : gx ≠ g) : IsX w0 gx w' b l bad := by
  obtain ⟨a, ha, hl, A, c, h1, h2, h3⟩ := h
  exact ⟨a, ha, hl, A, c, hW.blk h1 (blk_lt h1) hne, h2, h3⟩
theorem IsX.beloww {w0 : World} {gx : Nat} {w w' : World} {b l : List Int} {bad : Bool} (h : IsX w0 gx w b l bad) (hb : Below w.heap.size w w') : IsX w0 gx w' b l bad := by
  obtain ⟨a, ha, hl, A, c, h1, h2, h3⟩ := h
  exact ⟨a, ha, hl, A, c, blk_below h1 hb, h2, h3⟩
theorem IsX.ltt {w0 : World} {gx : Nat} {w : World} {b l : List Int} {bad : Bool} (h : IsX w0 gx w b l bad) : gx < w.heap.size := by
  obtain ⟨a, ha, hl, A, c, h1, h2, h3⟩ := h
  exact blk_lt h1
theorem n64 (n : Int) (h : 0 ≤ n ∧ n ≤ 9999) : IntKind.i64.wrap n = n := IntWalk.i64_in _ (by omega)
set_option maxHeartbeats 64000000 in
set_option maxRecDepth 100000 in
theorem rread_any (A : Option Addr) (c : Nat) (b : List Int) (w : World) (hC : Kd.C (Kd.int .u8) w A b.length b) (hc : b.length ≤ c) (hb : b.length ≤ 10000) (K0 : okL b)
    (n0 n1 n3 n6 n7 : Int) (t2 t4 t5 s8 s9 : List Int) (l0 l1 l2 l3 l4 l5 l6 l7 l8 l9 l10 : List Int) (q0 q1 q2 q3 q4 q5 q6 q7 q8 q9 q10 : Bool) (hl0 : l0 = b) (hq0 : q0 = false) (H0 : uintS l0 q0 = (n0, l1, q1)) (H1 : uintS l1 q1 = (n1, l2, q2)) (H2 : someS l2 q2 115 = (t2, l3, q3)) (H3 : uintS l3 q3 = (n3, l4, q4)) (H4 : someS l4 q4 115 = (t4, l5, q5)) (H5 : someS l5 q5 115 = (t5, l6, q6)) (H6 : uintS l6 q6 = (n6, l7, q7)) (H7 : uintS l7 q7 = (n7, l8, q8)) (H8 : someS l8 q8 98 = (s8, l9, q9)) (H9 : someS l9 q9 98 = (s9, l10, q10))
    (hn3 : 0 ≤ n3) (hn7 : 0 ≤ n7) (hX : n3 ≤ 1000 → n7 ≤ 9999 → okX ⟨n0, n1, strOfNums t2, n3, strOfNums t4, strOfNums t5, n6, n7, s8, s9⟩) (good : Bool) (hg : good = (!q10 && decide (l10 = []) && decide (n3 ≤ 1000) && decide (n7 ≤ 9999) && rightP ⟨n0, n1, strOfNums t2, n3, strOfNums t4, strOfNums t5, n6, n7, s8, s9⟩)) :
    Calls Try.prog 89 #[.slice A b.length c] w fun e w' => RdPost ⟨n0, n1, strOfNums t2, n3, strOfNums t4, strOfNums t5, n6, n7, s8, s9⟩ good w e w' := by
  have hu69 := Try.underlying69
  subst hq0
  have HB := Aside0.mk (Below.refl w.heap.size w)
  have HC := Aside0.mk hC
  have Hc := Aside0.mk hc
  have HLN := Aside0.mk hb
  have HX := Aside0.mk hX
  have HG := Aside0.mk hg
  have HL0 := Aside0.mk hl0
  clear hC hc hb hX hg hl0
  have T0 : True := trivial
  go_enter Try.func89, Try.ntmps89
  go_upto_region 3 with (first
    | ((with_reducible refine gate_dst (N := 2) rfl ?_); refine box_event ?hg (N := 2) ?hd (cs := #[.int .u64 0, .int .u64 0, .string ⟨#[]⟩, .int .i64 0, .string ⟨#[]⟩, .string ⟨#[]⟩, .int .u64 0, .int .i64 0, .slice none 0 0, .slice none 0 0]) (t := 69) ?hr ?_; (case hd => rfl); (case hg => rfl); (case hr => first | (go_simp; done) | (go_simp; rfl)); intro g2 hg wz hbox hb; have BK2 := Aside0.mk hbox; have GE2 := Aside0.mk (by rw [hg]; exact below_size HB.out : w.heap.size ≤ g2); have nb_ := Aside0.mk (below_step HB.out hb); clear HB; have HB := nb_; clear nb_ hbox hb hg)
    | ((with_reducible refine gate_dst (N := 10) rfl ?_); refine box_event ?hg (N := 10) ?hd (cs := #[.slice A b.length c, .int .i64 0, .bool false]) (t := 55) ?hr ?_; (case hd => rfl); (case hg => rfl); (case hr => first | (go_simp; done) | (go_simp; rfl)); intro g hg wy hbox hb; have G := Aside0.mk (by rw [hg]; exact below_size HB.out : w.heap.size ≤ g); have HI := Aside0.mk (show IsX w g wy b l0 false from ⟨0, Nat.zero_le _, HL0.out, A, c, hbox, ⟨G.out, Hc.out⟩, HC.out⟩); have N2 := Aside0.mk (by rw [hg]; exact Nat.ne_of_lt (blk_lt BK2.out) : g2 ≠ g); have nb_ := Aside0.mk (below_step HB.out hb); have B2_ := Aside0.mk (blk_below BK2.out hb); clear HB BK2; have HB := nb_; have BK2 := B2_; clear nb_ B2_ hbox hb hg)
    | ((with_reducible refine gate_dst (N := 5) rfl ?_); refine box_event ?hg (N := 5) ?hd (cs := #[.int .u64 0, .int .u64 0, .string ⟨#[]⟩, .int .i64 0, .string ⟨#[]⟩, .string ⟨#[]⟩, .int .u64 0, .int .i64 0, .slice none 0 0, .slice none 0 0]) (t := 69) ?hr ?_; (case hd => rfl); (case hg => rfl); (case hr => first | (go_simp; done) | (go_simp; rfl)); intro g5 hg wv hbox hb; have BK5 := Aside0.mk hbox; have GE5 := Aside0.mk (by rw [hg]; exact below_size HB.out : w.heap.size ≤ g5); have N5 := Aside0.mk (by rw [hg]; exact Nat.ne_of_gt (IsX.ltt HI.out) : g5 ≠ g); have N25 := Aside0.mk (by rw [hg]; exact Nat.ne_of_lt (blk_lt BK2.out) : g2 ≠ g5); have LT25 := Aside0.mk (by rw [hg]; exact blk_lt BK2.out : g2 < g5); have nb_ := Aside0.mk (below_step HB.out hb); have HI_ := Aside0.mk (IsX.beloww HI.out hb); have B2_ := Aside0.mk (blk_below BK2.out hb); clear HB HI BK2; have HB := nb_; have HI := HI_; have BK2 := B2_; clear nb_ HI_ B2_ hbox hb hg; obtain ⟨hw0, hw1, hw2, hw3, hw4, hw5, hw6, hw7, hw8, hw9, fw0, fw1, fw2, fw3, fw4, fw5, fw6, fw7, fw8, fw9⟩ := cells10 BK5.out))
  (try simp only [Act.put, List.setIfInBounds_toArray, List.set_cons_zero, List.set_cons_succ])
  have hf5 : ∀ W : World, True := fun _ => trivial
  generalize hwv : (World.setCell (World.setCell (World.setCell (World.setCell (World.setCell (World.setCell (World.setCell (World.setCell (World.setCell (World.setCell wv ⟨g5, 0, none⟩ (.int .u64 0)) ⟨g5, 1, none⟩ (.int .u64 0)) ⟨g5, 2, none⟩ (.string ⟨#[]⟩)) ⟨g5, 3, none⟩ (.int .i64 0)) ⟨g5, 4, none⟩ (.string ⟨#[]⟩)) ⟨g5, 5, none⟩ (.string ⟨#[]⟩)) ⟨g5, 6, none⟩ (.int .u64 0)) ⟨g5, 7, none⟩ (.int .i64 0)) ⟨g5, 8, none⟩ (.slice none 0 0)) ⟨g5, 9, none⟩ (.slice none 0 0)) = wu
  have BK5u := Aside0.mk (show wu.heap[g5]? = some (.cells #[.int .u64 0, .int .u64 0, .string ⟨#[]⟩, .int .i64 0, .string ⟨#[]⟩, .string ⟨#[]⟩, .int .u64 0, .int .i64 0, .slice none 0 0, .slice none 0 0] 69 (0, 0)) from (by rw [← hwv]; refine blk_put (cs := #[.int .u64 0, .int .u64 0, .string ⟨#[]⟩, .int .i64 0, .string ⟨#[]⟩, .string ⟨#[]⟩, .int .u64 0, .int .i64 0, .slice none 0 0, .slice none 0 0]) ?_ 9 _ rfl; refine blk_put (cs := #[.int .u64 0, .int .u64 0, .string ⟨#[]⟩, .int .i64 0, .string ⟨#[]⟩, .string ⟨#[]⟩, .int .u64 0, .int .i64 0, .slice none 0 0, .slice none 0 0]) ?_ 8 _ rfl; refine blk_put (cs := #[.int .u64 0, .int .u64 0, .string ⟨#[]⟩, .int .i64 0, .string ⟨#[]⟩, .string ⟨#[]⟩, .int .u64 0, .int .i64 0, .slice none 0 0, .slice none 0 0]) ?_ 7 _ rfl; refine blk_put (cs := #[.int .u64 0, .int .u64 0, .string ⟨#[]⟩, .int .i64 0, .string ⟨#[]⟩, .string ⟨#[]⟩, .int .u64 0, .int .i64 0, .slice none 0 0, .slice none 0 0]) ?_ 6 _ rfl; refine blk_put (cs := #[.int .u64 0, .int .u64 0, .string ⟨#[]⟩, .int .i64 0, .string ⟨#[]⟩, .string ⟨#[]⟩, .int .u64 0, .int .i64 0, .slice none 0 0, .slice none 0 0]) ?_ 5 _ rfl; refine blk_put (cs := #[.int .u64 0, .int .u64 0, .string ⟨#[]⟩, .int .i64 0, .string ⟨#[]⟩, .string ⟨#[]⟩, .int .u64 0, .int .i64 0, .slice none 0 0, .slice none 0 0]) ?_ 4 _ rfl; refine blk_put (cs := #[.int .u64 0, .int .u64 0, .string ⟨#[]⟩, .int .i64 0, .string ⟨#[]⟩, .string ⟨#[]⟩, .int .u64 0, .int .i64 0, .slice none 0 0, .slice none 0 0]) ?_ 3 _ rfl; refine blk_put (cs := #[.int .u64 0, .int .u64 0, .string ⟨#[]⟩, .int .i64 0, .string ⟨#[]⟩, .string ⟨#[]⟩, .int .u64 0, .int .i64 0, .slice none 0 0, .slice none 0 0]) ?_ 2 _ rfl; refine blk_put (cs := #[.int .u64 0, .int .u64 0, .string ⟨#[]⟩, .int .i64 0, .string ⟨#[]⟩, .string ⟨#[]⟩, .int .u64 0, .int .i64 0, .slice none 0 0, .slice none 0 0]) ?_ 1 _ rfl; refine blk_put (cs := #[.int .u64 0, .int .u64 0, .string ⟨#[]⟩, .int .i64 0, .string ⟨#[]⟩, .string ⟨#[]⟩, .int .u64 0, .int .i64 0, .slice none 0 0, .slice none 0 0]) ?_ 0 _ rfl; exact BK5.out))
  have BK2u := Aside0.mk (show wu.heap[g2]? = some (.cells #[.int .u64 0, .int .u64 0, .string ⟨#[]⟩, .int .i64 0, .string ⟨#[]⟩, .string ⟨#[]⟩, .int .u64 0, .int .i64 0, .slice none 0 0, .slice none 0 0] 69 (0, 0)) from (by rw [← hwv]; (iterate 10 (refine blk_far ?_ N25.out _)); exact BK2.out))
  have HIu := Aside0.mk (show IsX w g wu b l0 false from (by rw [← hwv]; exact IsX.wrr HI.out ((((((((((((Wr.refl _ g5 _).setCell 0 _).setCell 1 _).setCell 2 _).setCell 3 _).setCell 4 _).setCell 5 _).setCell 6 _).setCell 7 _).setCell 8 _).setCell 9 _)) (Ne.symm N5.out)))
  have HBu := Aside0.mk (show Below w.heap.size w wu from (by rw [← hwv]; repeat (first | (with_reducible first | exact HB.out | apply below_alloc | apply pw_below_drewN | apply below_drew1 | refine below_set ?_ GE5.out | refine below_set ?_ GE2.out) | exact HB.out)))
  clear hwv BK5 BK2 HI HB hf5 hw0 hw1 hw2 hw3 hw4 hw5 hw6 hw7 hw8 hw9 fw0 fw1 fw2 fw3 fw4 fw5 fw6 fw7 fw8 fw9
  have BK5 := BK5u
  have BK2 := BK2u
  have HI := HIu
  have HB := HBu
  clear BK5u BK2u HIu HBu
  have M0 := Aside0.mk (fun W h hB => xuint_any w g W b l0 false h hB K0)
  rw [H0] at M0
  have M1 := Aside0.mk (fun W h hB => xuint_any w g W b l1 q1 h hB K0)
  rw [H1] at M1
  have M2 := Aside0.mk (fun W h hB => xtext_any w g W b l2 q2 h hB K0)
  rw [H2] at M2
  have M3 := Aside0.mk (fun W h hB => xuint_any w g W b l3 q3 h hB K0)
  rw [H3] at M3
  have M4 := Aside0.mk (fun W h hB => xtext_any w g W b l4 q4 h hB K0)
  rw [H4] at M4
  have M5 := Aside0.mk (fun W h hB => xtext_any w g W b l5 q5 h hB K0)
  rw [H5] at M5
  have M6 := Aside0.mk (fun W h hB => xuint_any w g W b l6 q6 h hB K0)
  rw [H6] at M6
  have M7 := Aside0.mk (fun W h hB => xuint_any w g W b l7 q7 h hB K0)
  rw [H7] at M7
  have M8 := Aside0.mk (fun W h hB => xbytes_any w g W b l8 q8 h hB K0)
  rw [H8] at M8
  have M9 := Aside0.mk (fun W h hB => xbytes_any w g W b l9 q9 h hB K0)
  rw [H9] at M9
  clear H0 H1 H2 H3 H4 H5 H6 H7 H8 H9
  go_upto_region 12 with (first
    | (go_at_call 58; have _t := T0; (with_reducible refine (M0.out _ HI.out HB.out).mono ?_); rintro e wx0 ⟨rfl, hi, hW⟩; have HB_ := Aside0.mk (below_wr HB.out hW G.out); have B2_ := Aside0.mk (hW.blk BK2.out (blk_lt BK2.out) N2.out); have B5_ := Aside0.mk (hW.blk BK5.out (blk_lt BK5.out) N5.out); have HI_ := Aside0.mk hi; clear HI HB BK2 BK5 hi hW; have HI := HI_; have HB := HB_; have BK2 := B2_; have BK5 := B5_; clear HI_ HB_ B2_ B5_ T0; have T1 : True := trivial; have hz0 := (blk_cell BK5.out 0).trans rfl; have fz0 := blk_frozen BK5.out 0)
    | (go_at_call 58; have _t := T1; have HI_ := Aside0.mk (show IsX w g (World.setCell wx0 ⟨g5, 0, none⟩ (.int .u64 n0)) b l1 q1 from IsX.wrr HI.out ((Wr.refl _ g5 _).setCell 0 _) (Ne.symm N5.out)); have B5_ := Aside0.mk (show (World.setCell wx0 ⟨g5, 0, none⟩ (.int .u64 n0)).heap[g5]? = some (.cells #[.int .u64 n0, .int .u64 0, .string ⟨#[]⟩, .int .i64 0, .string ⟨#[]⟩, .string ⟨#[]⟩, .int .u64 0, .int .i64 0, .slice none 0 0, .slice none 0 0] 69 (0, 0)) from blk_put (cs := #[.int .u64 0, .int .u64 0, .string ⟨#[]⟩, .int .i64 0, .string ⟨#[]⟩, .string ⟨#[]⟩, .int .u64 0, .int .i64 0, .slice none 0 0, .slice none 0 0]) BK5.out 0 _ rfl); have B2_ := Aside0.mk (show (World.setCell wx0 ⟨g5, 0, none⟩ (.int .u64 n0)).heap[g2]? = some (.cells #[.int .u64 0, .int .u64 0, .string ⟨#[]⟩, .int .i64 0, .string ⟨#[]⟩, .string ⟨#[]⟩, .int .u64 0, .int .i64 0, .slice none 0 0, .slice none 0 0] 69 (0, 0)) from blk_far BK2.out N25.out _); have HB_ := Aside0.mk (show Below w.heap.size w (World.setCell wx0 ⟨g5, 0, none⟩ (.int .u64 n0)) from below_set HB.out GE5.out); clear HI BK5 BK2 HB; have HI := HI_; have BK5 := B5_; have BK2 := B2_; have HB := HB_; clear HI_ B5_ B2_ HB_; (with_reducible refine (M1.out _ HI.out HB.out).mono ?_); rintro e wx1 ⟨rfl, hi, hW⟩; have HB_ := Aside0.mk (below_wr HB.out hW G.out); have B2_ := Aside0.mk (hW.blk BK2.out (blk_lt BK2.out) N2.out); have B5_ := Aside0.mk (hW.blk BK5.out (blk_lt BK5.out) N5.out); have HI_ := Aside0.mk hi; clear HI HB BK2 BK5 hi hW; have HI := HI_; have HB := HB_; have BK2 := B2_; have BK5 := B5_; clear HI_ HB_ B2_ B5_ T1; have T2 : True := trivial; have hz1 := (blk_cell BK5.out 1).trans rfl; have fz1 := blk_frozen BK5.out 1)
    | (go_at_call 62; have _t := T2; have HI_ := Aside0.mk (show IsX w g (World.setCell wx1 ⟨g5, 1, none⟩ (.int .u64 n1)) b l2 q2 from IsX.wrr HI.out ((Wr.refl _ g5 _).setCell 1 _) (Ne.symm N5.out)); have B5_ := Aside0.mk (show (World.setCell wx1 ⟨g5, 1, none⟩ (.int .u64 n1)).heap[g5]? = some (.cells #[.int .u64 n0, .int .u64 n1, .string ⟨#[]⟩, .int .i64 0, .string ⟨#[]⟩, .string ⟨#[]⟩, .int .u64 0, .int .i64 0, .slice none 0 0, .slice none 0 0] 69 (0, 0)) from blk_put (cs := #[.int .u64 n0, .int .u64 0, .string ⟨#[]⟩, .int .i64 0, .string ⟨#[]⟩, .string ⟨#[]⟩, .int .u64 0, .int .i64 0, .slice none 0 0, .slice none 0 0]) BK5.out 1 _ rfl); have B2_ := Aside0.mk (show (World.setCell wx1 ⟨g5, 1, none⟩ (.int .u64 n1)).heap[g2]? = some (.cells #[.int .u64 0, .int .u64 0, .string ⟨#[]⟩, .int .i64 0, .string ⟨#[]⟩, .string ⟨#[]⟩, .int .u64 0, .int .i64 0, .slice none 0 0, .slice none 0 0] 69 (0, 0)) from blk_far BK2.out N25.out _); have HB_ := Aside0.mk (show Below w.heap.size w (World.setCell wx1 ⟨g5, 1, none⟩ (.int .u64 n1)) from below_set HB.out GE5.out); clear HI BK5 BK2 HB; have HI := HI_; have BK5 := B5_; have BK2 := B2_; have HB := HB_; clear HI_ B5_ B2_ HB_; (with_reducible refine (M2.out _ HI.out HB.out).mono ?_); rintro e wx2 ⟨rfl, hi, hW⟩; have HB_ := Aside0.mk (below_wr HB.out hW G.out); have B2_ := Aside0.mk (hW.blk BK2.out (blk_lt BK2.out) N2.out); have B5_ := Aside0.mk (hW.blk BK5.out (blk_lt BK5.out) N5.out); have HI_ := Aside0.mk hi; clear HI HB BK2 BK5 hi hW; have HI := HI_; have HB := HB_; have BK2 := B2_; have BK5 := B5_; clear HI_ HB_ B2_ B5_ T2; have T3 : True := trivial; have hz2 := (blk_cell BK5.out 2).trans rfl; have fz2 := blk_frozen BK5.out 2)
    | (go_at_call 58; have _t := T3; have HI_ := Aside0.mk (show IsX w g (World.setCell wx2 ⟨g5, 2, none⟩ (.string (strOfNums t2))) b l3 q3 from IsX.wrr HI.out ((Wr.refl _ g5 _).setCell 2 _) (Ne.symm N5.out)); have B5_ := Aside0.mk (show (World.setCell wx2 ⟨g5, 2, none⟩ (.string (strOfNums t2))).heap[g5]? = some (.cells #[.int .u64 n0, .int .u64 n1, .string (strOfNums t2), .int .i64 0, .string ⟨#[]⟩, .string ⟨#[]⟩, .int .u64 0, .int .i64 0, .slice none 0 0, .slice none 0 0] 69 (0, 0)) from blk_put (cs := #[.int .u64 n0, .int .u64 n1, .string ⟨#[]⟩, .int .i64 0, .string ⟨#[]⟩, .string ⟨#[]⟩, .int .u64 0, .int .i64 0, .slice none 0 0, .slice none 0 0]) BK5.out 2 _ rfl); have B2_ := Aside0.mk (show (World.setCell wx2 ⟨g5, 2, none⟩ (.string (strOfNums t2))).heap[g2]? = some (.cells #[.int .u64 0, .int .u64 0, .string ⟨#[]⟩, .int .i64 0, .string ⟨#[]⟩, .string ⟨#[]⟩, .int .u64 0, .int .i64 0, .slice none 0 0, .slice none 0 0] 69 (0, 0)) from blk_far BK2.out N25.out _); have HB_ := Aside0.mk (show Below w.heap.size w (World.setCell wx2 ⟨g5, 2, none⟩ (.string (strOfNums t2))) from below_set HB.out GE5.out); clear HI BK5 BK2 HB; have HI := HI_; have BK5 := B5_; have BK2 := B2_; have HB := HB_; clear HI_ B5_ B2_ HB_; (with_reducible refine (M3.out _ HI.out HB.out).mono ?_); rintro e wx3 ⟨rfl, hi, hW⟩; have HB_ := Aside0.mk (below_wr HB.out hW G.out); have B2_ := Aside0.mk (hW.blk BK2.out (blk_lt BK2.out) N2.out); have B5_ := Aside0.mk (hW.blk BK5.out (blk_lt BK5.out) N5.out); have HI_ := Aside0.mk hi; clear HI HB BK2 BK5 hi hW; have HI := HI_; have HB := HB_; have BK2 := B2_; have BK5 := B5_; clear HI_ HB_ B2_ B5_ T3; have T4 : True := trivial)
    | (go_at_call 62; have _t := T4; (with_reducible refine (M4.out _ HI.out HB.out).mono ?_); rintro e wx4 ⟨rfl, hi, hW⟩; have HB_ := Aside0.mk (below_wr HB.out hW G.out); have B2_ := Aside0.mk (hW.blk BK2.out (blk_lt BK2.out) N2.out); have B5_ := Aside0.mk (hW.blk BK5.out (blk_lt BK5.out) N5.out); have HI_ := Aside0.mk hi; clear HI HB BK2 BK5 hi hW; have HI := HI_; have HB := HB_; have BK2 := B2_; have BK5 := B5_; clear HI_ HB_ B2_ B5_ T4; have T5 : True := trivial; have hz4 := (blk_cell BK5.out 4).trans rfl; have fz4 := blk_frozen BK5.out 4)
    | (go_at_call 62; have _t := T5; have HI_ := Aside0.mk (show IsX w g (World.setCell wx4 ⟨g5, 4, none⟩ (.string (strOfNums t4))) b l5 q5 from IsX.wrr HI.out ((Wr.refl _ g5 _).setCell 4 _) (Ne.symm N5.out)); have B5_ := Aside0.mk (show (World.setCell wx4 ⟨g5, 4, none⟩ (.string (strOfNums t4))).heap[g5]? = some (.cells #[.int .u64 n0, .int .u64 n1, .string (strOfNums t2), .int .i64 0, .string (strOfNums t4), .string ⟨#[]⟩, .int .u64 0, .int .i64 0, .slice none 0 0, .slice none 0 0] 69 (0, 0)) from blk_put (cs := #[.int .u64 n0, .int .u64 n1, .string (strOfNums t2), .int .i64 0, .string ⟨#[]⟩, .string ⟨#[]⟩, .int .u64 0, .int .i64 0, .slice none 0 0, .slice none 0 0]) BK5.out 4 _ rfl); have B2_ := Aside0.mk (show (World.setCell wx4 ⟨g5, 4, none⟩ (.string (strOfNums t4))).heap[g2]? = some (.cells #[.int .u64 0, .int .u64 0, .string ⟨#[]⟩, .int .i64 0, .string ⟨#[]⟩, .string ⟨#[]⟩, .int .u64 0, .int .i64 0, .slice none 0 0, .slice none 0 0] 69 (0, 0)) from blk_far BK2.out N25.out _); have HB_ := Aside0.mk (show Below w.heap.size w (World.setCell wx4 ⟨g5, 4, none⟩ (.string (strOfNums t4))) from below_set HB.out GE5.out); clear HI BK5 BK2 HB; have HI := HI_; have BK5 := B5_; have BK2 := B2_; have HB := HB_; clear HI_ B5_ B2_ HB_; (with_reducible refine (M5.out _ HI.out HB.out).mono ?_); rintro e wx5 ⟨rfl, hi, hW⟩; have HB_ := Aside0.mk (below_wr HB.out hW G.out); have B2_ := Aside0.mk (hW.blk BK2.out (blk_lt BK2.out) N2.out); have B5_ := Aside0.mk (hW.blk BK5.out (blk_lt BK5.out) N5.out); have HI_ := Aside0.mk hi; clear HI HB BK2 BK5 hi hW; have HI := HI_; have HB := HB_; have BK2 := B2_; have BK5 := B5_; clear HI_ HB_ B2_ B5_ T5; have T6 : True := trivial; have hz5 := (blk_cell BK5.out 5).trans rfl; have fz5 := blk_frozen BK5.out 5)
    | (go_at_call 58; have _t := T6; have HI_ := Aside0.mk (show IsX w g (World.setCell wx5 ⟨g5, 5, none⟩ (.string (strOfNums t5))) b l6 q6 from IsX.wrr HI.out ((Wr.refl _ g5 _).setCell 5 _) (Ne.symm N5.out)); have B5_ := Aside0.mk (show (World.setCell wx5 ⟨g5, 5, none⟩ (.string (strOfNums t5))).heap[g5]? = some (.cells #[.int .u64 n0, .int .u64 n1, .string (strOfNums t2), .int .i64 0, .string (strOfNums t4), .string (strOfNums t5), .int .u64 0, .int .i64 0, .slice none 0 0, .slice none 0 0] 69 (0, 0)) from blk_put (cs := #[.int .u64 n0, .int .u64 n1, .string (strOfNums t2), .int .i64 0, .string (strOfNums t4), .string ⟨#[]⟩, .int .u64 0, .int .i64 0, .slice none 0 0, .slice none 0 0]) BK5.out 5 _ rfl); have B2_ := Aside0.mk (show (World.setCell wx5 ⟨g5, 5, none⟩ (.string (strOfNums t5))).heap[g2]? = some (.cells #[.int .u64 0, .int .u64 0, .string ⟨#[]⟩, .int .i64 0, .string ⟨#[]⟩, .string ⟨#[]⟩, .int .u64 0, .int .i64 0, .slice none 0 0, .slice none 0 0] 69 (0, 0)) from blk_far BK2.out N25.out _); have HB_ := Aside0.mk (show Below w.heap.size w (World.setCell wx5 ⟨g5, 5, none⟩ (.string (strOfNums t5))) from below_set HB.out GE5.out); clear HI BK5 BK2 HB; have HI := HI_; have BK5 := B5_; have BK2 := B2_; have HB := HB_; clear HI_ B5_ B2_ HB_; (with_reducible refine (M6.out _ HI.out HB.out).mono ?_); rintro e wx6 ⟨rfl, hi, hW⟩; have HB_ := Aside0.mk (below_wr HB.out hW G.out); have B2_ := Aside0.mk (hW.blk BK2.out (blk_lt BK2.out) N2.out); have B5_ := Aside0.mk (hW.blk BK5.out (blk_lt BK5.out) N5.out); have HI_ := Aside0.mk hi; clear HI HB BK2 BK5 hi hW; have HI := HI_; have HB := HB_; have BK2 := B2_; have BK5 := B5_; clear HI_ HB_ B2_ B5_ T6; have T7 : True := trivial; have hz6 := (blk_cell BK5.out 6).trans rfl; have fz6 := blk_frozen BK5.out 6)
    | (go_at_call 58; have _t := T7; have HI_ := Aside0.mk (show IsX w g (World.setCell wx6 ⟨g5, 6, none⟩ (.int .u64 n6)) b l7 q7 from IsX.wrr HI.out ((Wr.refl _ g5 _).setCell 6 _) (Ne.symm N5.out)); have B5_ := Aside0.mk (show (World.setCell wx6 ⟨g5, 6, none⟩ (.int .u64 n6)).heap[g5]? = some (.cells #[.int .u64 n0, .int .u64 n1, .string (strOfNums t2), .int .i64 0, .string (strOfNums t4), .string (strOfNums t5), .int .u64 n6, .int .i64 0, .slice none 0 0, .slice none 0 0] 69 (0, 0)) from blk_put (cs := #[.int .u64 n0, .int .u64 n1, .string (strOfNums t2), .int .i64 0, .string (strOfNums t4), .string (strOfNums t5), .int .u64 0, .int .i64 0, .slice none 0 0, .slice none 0 0]) BK5.out 6 _ rfl); have B2_ := Aside0.mk (show (World.setCell wx6 ⟨g5, 6, none⟩ (.int .u64 n6)).heap[g2]? = some (.cells #[.int .u64 0, .int .u64 0, .string ⟨#[]⟩, .int .i64 0, .string ⟨#[]⟩, .string ⟨#[]⟩, .int .u64 0, .int .i64 0, .slice none 0 0, .slice none 0 0] 69 (0, 0)) from blk_far BK2.out N25.out _); have HB_ := Aside0.mk (show Below w.heap.size w (World.setCell wx6 ⟨g5, 6, none⟩ (.int .u64 n6)) from below_set HB.out GE5.out); clear HI BK5 BK2 HB; have HI := HI_; have BK5 := B5_; have BK2 := B2_; have HB := HB_; clear HI_ B5_ B2_ HB_; (with_reducible refine (M7.out _ HI.out HB.out).mono ?_); rintro e wx7 ⟨rfl, hi, hW⟩; have HB_ := Aside0.mk (below_wr HB.out hW G.out); have B2_ := Aside0.mk (hW.blk BK2.out (blk_lt BK2.out) N2.out); have B5_ := Aside0.mk (hW.blk BK5.out (blk_lt BK5.out) N5.out); have HI_ := Aside0.mk hi; clear HI HB BK2 BK5 hi hW; have HI := HI_; have HB := HB_; have BK2 := B2_; have BK5 := B5_; clear HI_ HB_ B2_ B5_ T7; have T8 : True := trivial)
    | (go_at_call 60; have _t := T8; (with_reducible refine (M8.out _ HI.out HB.out).mono ?_); rintro e wx8 ⟨v, rfl, hr, hi, hW⟩; obtain ⟨A8, c8, rfl, hc_, hC_⟩ := Kd.R_reads hr; have R8 := Aside0.mk (show ∃ base, Kd.R (Kd.int .u8) 5 wx8 base (fun _ => True) (.slice A8 s8.length c8) s8 ∧ g < base ∧ g5 < base from ⟨_, hr, IsX.ltt HI.out, blk_lt BK5.out⟩); have HB_ := Aside0.mk (below_wr HB.out hW G.out); have B2_ := Aside0.mk (hW.blk BK2.out (blk_lt BK2.out) N2.out); have B5_ := Aside0.mk (hW.blk BK5.out (blk_lt BK5.out) N5.out); have HI_ := Aside0.mk hi; clear hc_ hC_ hr; clear HI HB BK2 BK5 hi hW; have HI := HI_; have HB := HB_; have BK2 := B2_; have BK5 := B5_; clear HI_ HB_ B2_ B5_ T8; have T9 : True := trivial; have hz8 := (blk_cell BK5.out 8).trans rfl; have fz8 := blk_frozen BK5.out 8))
  (try simp only [Act.put, List.setIfInBounds_toArray, List.set_cons_zero, List.set_cons_succ])
  go_cut [] (fun wc => ∃ A8 c8 A9 c9, Aside0 (IsX w g wc b l10 q10) ∧ Aside0 (wc.heap[g2]? = some (.cells #[.int .u64 0, .int .u64 0, .string ⟨#[]⟩, .int .i64 0, .string ⟨#[]⟩, .string ⟨#[]⟩, .int .u64 0, .int .i64 0, .slice none 0 0, .slice none 0 0] 69 (0, 0))) ∧ Aside0 (wc.heap[g5]? = some (.cells #[.int .u64 n0, .int .u64 n1, .string (strOfNums t2), .int .i64 0, .string (strOfNums t4), .string (strOfNums t5), .int .u64 n6, .int .i64 0, .slice A8 s8.length c8, .slice A9 s9.length c9] 69 (0, 0))) ∧ Aside0 (Below w.heap.size w wc) ∧ Aside0 (∃ base, Kd.R (Kd.int .u8) 5 wc base (fun _ => True) (.slice A8 s8.length c8) s8 ∧ g2 < base ∧ g5 < base) ∧ Aside0 (∃ base, Kd.R (Kd.int .u8) 5 wc base (fun _ => True) (.slice A9 s9.length c9) s9 ∧ g2 < base ∧ g5 < base))
  case first =>
    go_wp2_with (first
      | (go_at_call 60; have _t := T9; have HI_ := Aside0.mk (show IsX w g (World.setCell wx8 ⟨g5, 8, none⟩ (.slice A8 s8.length c8)) b l9 q9 from IsX.wrr HI.out ((Wr.refl _ g5 _).setCell 8 _) (Ne.symm N5.out)); have B5_ := Aside0.mk (show (World.setCell wx8 ⟨g5, 8, none⟩ (.slice A8 s8.length c8)).heap[g5]? = some (.cells #[.int .u64 n0, .int .u64 n1, .string (strOfNums t2), .int .i64 0, .string (strOfNums t4), .string (strOfNums t5), .int .u64 n6, .int .i64 0, .slice A8 s8.length c8, .slice none 0 0] 69 (0, 0)) from blk_put (cs := #[.int .u64 n0, .int .u64 n1, .string (strOfNums t2), .int .i64 0, .string (strOfNums t4), .string (strOfNums t5), .int .u64 n6, .int .i64 0, .slice none 0 0, .slice none 0 0]) BK5.out 8 _ rfl); have B2_ := Aside0.mk (show (World.setCell wx8 ⟨g5, 8, none⟩ (.slice A8 s8.length c8)).heap[g2]? = some (.cells #[.int .u64 0, .int .u64 0, .string ⟨#[]⟩, .int .i64 0, .string ⟨#[]⟩, .string ⟨#[]⟩, .int .u64 0, .int .i64 0, .slice none 0 0, .slice none 0 0] 69 (0, 0)) from blk_far BK2.out N25.out _); have HB_ := Aside0.mk (show Below w.heap.size w (World.setCell wx8 ⟨g5, 8, none⟩ (.slice A8 s8.length c8)) from below_set HB.out GE5.out); clear HI BK5 BK2 HB; have HI := HI_; have BK5 := B5_; have BK2 := B2_; have HB := HB_; clear HI_ B5_ B2_ HB_; have R8_ := Aside0.mk (show ∃ base, Kd.R (Kd.int .u8) 5 (World.setCell wx8 ⟨g5, 8, none⟩ (.slice A8 s8.length c8)) base (fun _ => True) (.slice A8 s8.length c8) s8 ∧ g < base ∧ g5 < base from (by obtain ⟨base, h1, h2, h3⟩ := R8.out; exact ⟨base, R_offs h1 h3 8 _, h2, h3⟩)); clear R8; have R8 := R8_; clear R8_; (with_reducible refine (M9.out _ HI.out HB.out).mono ?_); rintro e wx9 ⟨v, rfl, hr, hi, hW⟩; obtain ⟨A9, c9, rfl, hc_, hC_⟩ := Kd.R_reads hr; have R9 := Aside0.mk (show ∃ base, Kd.R (Kd.int .u8) 5 wx9 base (fun _ => True) (.slice A9 s9.length c9) s9 ∧ g < base ∧ g5 < base from ⟨_, hr, IsX.ltt HI.out, blk_lt BK5.out⟩); have R8_ := Aside0.mk (show ∃ base, Kd.R (Kd.int .u8) 5 wx9 base (fun _ => True) (.slice A8 s8.length c8) s8 ∧ g < base ∧ g5 < base from (by obtain ⟨base, h1, h2, h3⟩ := R8.out; exact ⟨base, R_wrr h1 hW h2, h2, h3⟩)); clear R8; have R8 := R8_; clear R8_; have HB_ := Aside0.mk (below_wr HB.out hW G.out); have B2_ := Aside0.mk (hW.blk BK2.out (blk_lt BK2.out) N2.out); have B5_ := Aside0.mk (hW.blk BK5.out (blk_lt BK5.out) N5.out); have HI_ := Aside0.mk hi; clear hc_ hC_ hr; clear HI HB BK2 BK5 hi hW; have HI := HI_; have HB := HB_; have BK2 := B2_; have BK5 := B5_; clear HI_ HB_ B2_ B5_ T9; have T10 : True := trivial; have hz9 := (blk_cell BK5.out 9).trans rfl; have fz9 := blk_frozen BK5.out 9))
    go_meet
    case rel => exact ⟨A8, c8, A9, c9, ⟨IsX.wrr HI.out ((Wr.refl _ g5 _).setCell 9 _) (Ne.symm N5.out)⟩, ⟨by refine blk_far ?_ N25.out _; exact BK2.out⟩, ⟨by refine blk_put (cs := #[.int .u64 n0, .int .u64 n1, .string (strOfNums t2), .int .i64 0, .string (strOfNums t4), .string (strOfNums t5), .int .u64 n6, .int .i64 0, .slice A8 s8.length c8, .slice none 0 0]) ?_ 9 _ rfl; exact BK5.out⟩, ⟨by repeat (first | (with_reducible first | exact HB.out | apply below_alloc | apply pw_below_drewN | apply below_drew1 | refine below_set ?_ GE5.out | refine below_set ?_ GE2.out) | exact HB.out)⟩, ⟨by obtain ⟨base, h1, h2, h3⟩ := R8.out; exact ⟨base, R_offs h1 h3 9 _, Nat.lt_trans LT25.out h3, h3⟩⟩, ⟨by obtain ⟨base, h1, h2, h3⟩ := R9.out; exact ⟨base, R_offs h1 h3 9 _, Nat.lt_trans LT25.out h3, h3⟩⟩⟩
  case rest =>
    obtain ⟨A8, c8, A9, c9, HI, BK2, BK5, HB, R8, R9⟩ := hcut
    obtain ⟨at_, hat, hl, Ar, cr, h1, h2, h3⟩ := HI.out
    have hr0 : wc.cell? ⟨g, 0, none⟩ = some (.slice Ar b.length cr) := (blk_cell h1 0).trans rfl
    have hr1 : wc.cell? ⟨g, 1, none⟩ = some (.int .i64 (at_ : Int)) := (blk_cell h1 1).trans rfl
    have hr2 : wc.cell? ⟨g, 2, none⟩ = some (.bool q10) := (blk_cell h1 2).trans rfl
    have hlen : l10.length = b.length - at_ := by rw [hl, List.length_drop]
    clear h1 h2 h3 hl
    obtain ⟨hu0, hu1, hu2, hu3, hu4, hu5, hu6, hu7, hu8, hu9, fu0, fu1, fu2, fu3, fu4, fu5, fu6, fu7, fu8, fu9⟩ := cells10 BK5.out
    obtain ⟨hy0, hy1, hy2, hy3, hy4, hy5, hy6, hy7, hy8, hy9, fy0, fy1, fy2, fy3, fy4, fy5, fy6, fy7, fy8, fy9⟩ := cells10 BK2.out
    have hn25 := N25.out
    have hn52 := Ne.symm N25.out
    cases q10 with
    | true =>
      clear hlen hat
      go_wp2
      refine bodyPost_ret (results_cell_tmp rfl _ _ g2 69 #[.int .u64 0, .int .u64 0, .string ⟨#[]⟩, .int .i64 0, .string ⟨#[]⟩, .string ⟨#[]⟩, .int .u64 0, .int .i64 0, .slice none 0 0, .slice none 0 0] (0, 0) _ (.int .i64 4) rfl (by refine blk_put (cs := #[.int .u64 0, .int .u64 0, .string ⟨#[]⟩, .int .i64 0, .string ⟨#[]⟩, .string ⟨#[]⟩, .int .u64 0, .int .i64 0, .slice none 0 0, .slice none 0 0]) ?_ 9 _ rfl; refine blk_put (cs := #[.int .u64 0, .int .u64 0, .string ⟨#[]⟩, .int .i64 0, .string ⟨#[]⟩, .string ⟨#[]⟩, .int .u64 0, .int .i64 0, .slice none 0 0, .slice none 0 0]) ?_ 8 _ rfl; refine blk_put (cs := #[.int .u64 0, .int .u64 0, .string ⟨#[]⟩, .int .i64 0, .string ⟨#[]⟩, .string ⟨#[]⟩, .int .u64 0, .int .i64 0, .slice none 0 0, .slice none 0 0]) ?_ 7 _ rfl; refine blk_put (cs := #[.int .u64 0, .int .u64 0, .string ⟨#[]⟩, .int .i64 0, .string ⟨#[]⟩, .string ⟨#[]⟩, .int .u64 0, .int .i64 0, .slice none 0 0, .slice none 0 0]) ?_ 6 _ rfl; refine blk_put (cs := #[.int .u64 0, .int .u64 0, .string ⟨#[]⟩, .int .i64 0, .string ⟨#[]⟩, .string ⟨#[]⟩, .int .u64 0, .int .i64 0, .slice none 0 0, .slice none 0 0]) ?_ 5 _ rfl; refine blk_put (cs := #[.int .u64 0, .int .u64 0, .string ⟨#[]⟩, .int .i64 0, .string ⟨#[]⟩, .string ⟨#[]⟩, .int .u64 0, .int .i64 0, .slice none 0 0, .slice none 0 0]) ?_ 4 _ rfl; refine blk_put (cs := #[.int .u64 0, .int .u64 0, .string ⟨#[]⟩, .int .i64 0, .string ⟨#[]⟩, .string ⟨#[]⟩, .int .u64 0, .int .i64 0, .slice none 0 0, .slice none 0 0]) ?_ 3 _ rfl; refine blk_put (cs := #[.int .u64 0, .int .u64 0, .string ⟨#[]⟩, .int .i64 0, .string ⟨#[]⟩, .string ⟨#[]⟩, .int .u64 0, .int .i64 0, .slice none 0 0, .slice none 0 0]) ?_ 2 _ rfl; refine blk_put (cs := #[.int .u64 0, .int .u64 0, .string ⟨#[]⟩, .int .i64 0, .string ⟨#[]⟩, .string ⟨#[]⟩, .int .u64 0, .int .i64 0, .slice none 0 0, .slice none 0 0]) ?_ 1 _ rfl; refine blk_put (cs := #[.int .u64 0, .int .u64 0, .string ⟨#[]⟩, .int .i64 0, .string ⟨#[]⟩, .string ⟨#[]⟩, .int .u64 0, .int .i64 0, .slice none 0 0, .slice none 0 0]) ?_ 0 _ rfl; exact BK2.out) Try.underlying69 rfl (by kernel_rfl) rfl) rfl ?_
      unfold RdPost
      refine ⟨?_, by repeat (first | (with_reducible first | exact HB.out | apply below_alloc | apply pw_below_drewN | apply below_drew1 | refine below_set ?_ GE5.out | refine below_set ?_ GE2.out) | exact HB.out)⟩
      rw [if_neg (by rw [HG.out]; simp)]
    | false =>
      by_cases hl : l10 = []
      · have d1 : decide ((at_ : Int) < (b.length : Int)) = false := decide_eq_false (by rw [hl] at hlen; simp at hlen; omega)
        have d2 : decide (at_ < b.length) = false := decide_eq_false (by rw [hl] at hlen; simp at hlen; omega)
        clear hlen hat
        by_cases h3 : n3 ≤ 1000
        · have e1 : decide (1000 < n3) = false := decide_eq_false (by omega)
          by_cases h7 : n7 ≤ 9999
          · have e2 : decide (9999 < n7) = false := decide_eq_false (by omega)
            have w3 := n64 n3 (by omega)
            have w7 := n64 n7 (by omega)
            have hok := HX.out h3 h7
            have HRC := Aside0.mk (show RecC (World.setCell (World.setCell wc ⟨g5, 3, none⟩ (.int .i64 n3)) ⟨g5, 7, none⟩ (.int .i64 n7)) ⟨n0, n1, strOfNums t2, n3, strOfNums t4, strOfNums t5, n6, n7, s8, s9⟩ A8 c8 A9 c9 from (by
              obtain ⟨b8, h8, _, g8⟩ := R8.out
              obtain ⟨b9, h9, _, g9⟩ := R9.out
              have k8 := Kd.R_reads' (R_offs (R_offs h8 g8 3 (.int .i64 n3)) g8 7 (.int .i64 n7))
              have k9 := Kd.R_reads' (R_offs (R_offs h9 g9 3 (.int .i64 n3)) g9 7 (.int .i64 n7))
              exact ⟨k8.2.2, k8.2.1, k9.2.2, k9.2.1⟩))
            obtain ⟨rp, hrp⟩ : ∃ r, rightP ⟨n0, n1, strOfNums t2, n3, strOfNums t4, strOfNums t5, n6, n7, s8, s9⟩ = r := ⟨_, rfl⟩
            have RC := Aside0.mk (fun W h => rright_c ⟨n0, n1, strOfNums t2, n3, strOfNums t4, strOfNums t5, n6, n7, s8, s9⟩ A8 c8 A9 c9 W h hok)
            rw [hrp] at RC HG
            have HGG : Aside0 (good = rp) := ⟨by rw [HG.out, decide_eq_true hl, decide_eq_true h3, decide_eq_true h7]; simp⟩
            clear HG hok hrp h3 h7 hl
            cases rp with
            | true =>
              go_wp2_with (go_at_call 80; (with_reducible refine (RC.out _ HRC.out).mono ?_); rintro e w6 ⟨rfl, hb⟩; have nb_ := Aside0.mk (below_step (show Below w.heap.size w (World.setCell (World.setCell wc ⟨g5, 3, none⟩ (.int .i64 n3)) ⟨g5, 7, none⟩ (.int .i64 n7)) from below_set (below_set HB.out GE5.out) GE5.out) hb); have B2_ := Aside0.mk (blk_below (show (World.setCell (World.setCell wc ⟨g5, 3, none⟩ (.int .i64 n3)) ⟨g5, 7, none⟩ (.int .i64 n7)).heap[g2]? = some (.cells #[.int .u64 0, .int .u64 0, .string ⟨#[]⟩, .int .i64 0, .string ⟨#[]⟩, .string ⟨#[]⟩, .int .u64 0, .int .i64 0, .slice none 0 0, .slice none 0 0] 69 (0, 0)) from blk_far (blk_far BK2.out N25.out _) N25.out _) hb); have B5_ := Aside0.mk (blk_below (show (World.setCell (World.setCell wc ⟨g5, 3, none⟩ (.int .i64 n3)) ⟨g5, 7, none⟩ (.int .i64 n7)).heap[g5]? = some (.cells #[.int .u64 n0, .int .u64 n1, .string (strOfNums t2), .int .i64 n3, .string (strOfNums t4), .string (strOfNums t5), .int .u64 n6, .int .i64 n7, .slice A8 s8.length c8, .slice A9 s9.length c9] 69 (0, 0)) from blk_put (cs := #[.int .u64 n0, .int .u64 n1, .string (strOfNums t2), .int .i64 n3, .string (strOfNums t4), .string (strOfNums t5), .int .u64 n6, .int .i64 0, .slice A8 s8.length c8, .slice A9 s9.length c9]) (blk_put (cs := #[.int .u64 n0, .int .u64 n1, .string (strOfNums t2), .int .i64 0, .string (strOfNums t4), .string (strOfNums t5), .int .u64 n6, .int .i64 0, .slice A8 s8.length c8, .slice A9 s9.length c9]) BK5.out 3 _ rfl) 7 _ rfl) hb); have r8_ := Aside0.mk (show ∃ base, Kd.R (Kd.int .u8) 5 w6 base (fun _ => True) (.slice A8 s8.length c8) s8 ∧ g2 < base from (by obtain ⟨base, h1, h2, h3⟩ := R8.out; exact ⟨base, Kd.R_below (R_offs (R_offs h1 h3 3 (.int .i64 n3)) h3 7 (.int .i64 n7)) hb, h2⟩)); have r9_ := Aside0.mk (show ∃ base, Kd.R (Kd.int .u8) 5 w6 base (fun _ => True) (.slice A9 s9.length c9) s9 ∧ g2 < base from (by obtain ⟨base, h1, h2, h3⟩ := R9.out; exact ⟨base, Kd.R_below (R_offs (R_offs h1 h3 3 (.int .i64 n3)) h3 7 (.int .i64 n7)) hb, h2⟩)); clear HB BK2 BK5 R8 R9 hb; have HB := nb_; have BK2 := B2_; have BK5 := B5_; have R8 := r8_; have R9 := r9_; clear nb_ B2_ B5_ r8_ r9_; obtain ⟨ha0, ha1, ha2, ha3, ha4, ha5, ha6, ha7, ha8, ha9, fa0, fa1, fa2, fa3, fa4, fa5, fa6, fa7, fa8, fa9⟩ := cells10 BK5.out; obtain ⟨hb0, hb1, hb2, hb3, hb4, hb5, hb6, hb7, hb8, hb9, fb0, fb1, fb2, fb3, fb4, fb5, fb6, fb7, fb8, fb9⟩ := cells10 BK2.out)
              refine bodyPost_ret (results_cell_tmp rfl _ _ g2 69 #[.int .u64 n0, .int .u64 n1, .string (strOfNums t2), .int .i64 n3, .string (strOfNums t4), .string (strOfNums t5), .int .u64 n6, .int .i64 n7, .slice A8 s8.length c8, .slice A9 s9.length c9] (0, 0) _ (.int .i64 0) rfl (by refine blk_put (cs := #[.int .u64 n0, .int .u64 n1, .string (strOfNums t2), .int .i64 n3, .string (strOfNums t4), .string (strOfNums t5), .int .u64 n6, .int .i64 n7, .slice A8 s8.length c8, .slice none 0 0]) ?_ 9 _ rfl; refine blk_put (cs := #[.int .u64 n0, .int .u64 n1, .string (strOfNums t2), .int .i64 n3, .string (strOfNums t4), .string (strOfNums t5), .int .u64 n6, .int .i64 n7, .slice none 0 0, .slice none 0 0]) ?_ 8 _ rfl; refine blk_put (cs := #[.int .u64 n0, .int .u64 n1, .string (strOfNums t2), .int .i64 n3, .string (strOfNums t4), .string (strOfNums t5), .int .u64 n6, .int .i64 0, .slice none 0 0, .slice none 0 0]) ?_ 7 _ rfl; refine blk_put (cs := #[.int .u64 n0, .int .u64 n1, .string (strOfNums t2), .int .i64 n3, .string (strOfNums t4), .string (strOfNums t5), .int .u64 0, .int .i64 0, .slice none 0 0, .slice none 0 0]) ?_ 6 _ rfl; refine blk_put (cs := #[.int .u64 n0, .int .u64 n1, .string (strOfNums t2), .int .i64 n3, .string (strOfNums t4), .string ⟨#[]⟩, .int .u64 0, .int .i64 0, .slice none 0 0, .slice none 0 0]) ?_ 5 _ rfl; refine blk_put (cs := #[.int .u64 n0, .int .u64 n1, .string (strOfNums t2), .int .i64 n3, .string ⟨#[]⟩, .string ⟨#[]⟩, .int .u64 0, .int .i64 0, .slice none 0 0, .slice none 0 0]) ?_ 4 _ rfl; refine blk_put (cs := #[.int .u64 n0, .int .u64 n1, .string (strOfNums t2), .int .i64 0, .string ⟨#[]⟩, .string ⟨#[]⟩, .int .u64 0, .int .i64 0, .slice none 0 0, .slice none 0 0]) ?_ 3 _ rfl; refine blk_put (cs := #[.int .u64 n0, .int .u64 n1, .string ⟨#[]⟩, .int .i64 0, .string ⟨#[]⟩, .string ⟨#[]⟩, .int .u64 0, .int .i64 0, .slice none 0 0, .slice none 0 0]) ?_ 2 _ rfl; refine blk_put (cs := #[.int .u64 n0, .int .u64 0, .string ⟨#[]⟩, .int .i64 0, .string ⟨#[]⟩, .string ⟨#[]⟩, .int .u64 0, .int .i64 0, .slice none 0 0, .slice none 0 0]) ?_ 1 _ rfl; refine blk_put (cs := #[.int .u64 0, .int .u64 0, .string ⟨#[]⟩, .int .i64 0, .string ⟨#[]⟩, .string ⟨#[]⟩, .int .u64 0, .int .i64 0, .slice none 0 0, .slice none 0 0]) ?_ 0 _ rfl; exact BK2.out) Try.underlying69 rfl (by kernel_rfl) rfl) rfl ?_
              unfold RdPost
              refine ⟨?_, by repeat (first | (with_reducible first | exact HB.out | apply below_alloc | apply pw_below_drewN | apply below_drew1 | refine below_set ?_ GE5.out | refine below_set ?_ GE2.out) | exact HB.out)⟩
              rw [if_pos HGG.out]
              obtain ⟨b8, h8, g8⟩ := R8.out
              obtain ⟨b9, h9, g9⟩ := R9.out
              have k8 := Kd.R_reads' ((R_offs (R_offs (R_offs (R_offs (R_offs (R_offs (R_offs (R_offs (R_offs (R_offs h8 g8 0 (.int .u64 n0)) g8 1 (.int .u64 n1)) g8 2 (.string (strOfNums t2))) g8 3 (.int .i64 n3)) g8 4 (.string (strOfNums t4))) g8 5 (.string (strOfNums t5))) g8 6 (.int .u64 n6)) g8 7 (.int .i64 n7)) g8 8 (.slice A8 s8.length c8)) g8 9 (.slice A9 s9.length c9)))
              have k9 := Kd.R_reads' ((R_offs (R_offs (R_offs (R_offs (R_offs (R_offs (R_offs (R_offs (R_offs (R_offs h9 g9 0 (.int .u64 n0)) g9 1 (.int .u64 n1)) g9 2 (.string (strOfNums t2))) g9 3 (.int .i64 n3)) g9 4 (.string (strOfNums t4))) g9 5 (.string (strOfNums t5))) g9 6 (.int .u64 n6)) g9 7 (.int .i64 n7)) g9 8 (.slice A8 s8.length c8)) g9 9 (.slice A9 s9.length c9)))
              exact ⟨A8, c8, A9, c9, rfl, k8.2.2, k8.2.1, k9.2.2, k9.2.1⟩
            | false =>
              go_wp2_with (go_at_call 80; (with_reducible refine (RC.out _ HRC.out).mono ?_); rintro e w6 ⟨rfl, hb⟩; have nb_ := Aside0.mk (below_step (show Below w.heap.size w (World.setCell (World.setCell wc ⟨g5, 3, none⟩ (.int .i64 n3)) ⟨g5, 7, none⟩ (.int .i64 n7)) from below_set (below_set HB.out GE5.out) GE5.out) hb); have B2_ := Aside0.mk (blk_below (show (World.setCell (World.setCell wc ⟨g5, 3, none⟩ (.int .i64 n3)) ⟨g5, 7, none⟩ (.int .i64 n7)).heap[g2]? = some (.cells #[.int .u64 0, .int .u64 0, .string ⟨#[]⟩, .int .i64 0, .string ⟨#[]⟩, .string ⟨#[]⟩, .int .u64 0, .int .i64 0, .slice none 0 0, .slice none 0 0] 69 (0, 0)) from blk_far (blk_far BK2.out N25.out _) N25.out _) hb); have B5_ := Aside0.mk (blk_below (show (World.setCell (World.setCell wc ⟨g5, 3, none⟩ (.int .i64 n3)) ⟨g5, 7, none⟩ (.int .i64 n7)).heap[g5]? = some (.cells #[.int .u64 n0, .int .u64 n1, .string (strOfNums t2), .int .i64 n3, .string (strOfNums t4), .string (strOfNums t5), .int .u64 n6, .int .i64 n7, .slice A8 s8.length c8, .slice A9 s9.length c9] 69 (0, 0)) from blk_put (cs := #[.int .u64 n0, .int .u64 n1, .string (strOfNums t2), .int .i64 n3, .string (strOfNums t4), .string (strOfNums t5), .int .u64 n6, .int .i64 0, .slice A8 s8.length c8, .slice A9 s9.length c9]) (blk_put (cs := #[.int .u64 n0, .int .u64 n1, .string (strOfNums t2), .int .i64 0, .string (strOfNums t4), .string (strOfNums t5), .int .u64 n6, .int .i64 0, .slice A8 s8.length c8, .slice A9 s9.length c9]) BK5.out 3 _ rfl) 7 _ rfl) hb); have r8_ := Aside0.mk (show ∃ base, Kd.R (Kd.int .u8) 5 w6 base (fun _ => True) (.slice A8 s8.length c8) s8 ∧ g2 < base from (by obtain ⟨base, h1, h2, h3⟩ := R8.out; exact ⟨base, Kd.R_below (R_offs (R_offs h1 h3 3 (.int .i64 n3)) h3 7 (.int .i64 n7)) hb, h2⟩)); have r9_ := Aside0.mk (show ∃ base, Kd.R (Kd.int .u8) 5 w6 base (fun _ => True) (.slice A9 s9.length c9) s9 ∧ g2 < base from (by obtain ⟨base, h1, h2, h3⟩ := R9.out; exact ⟨base, Kd.R_below (R_offs (R_offs h1 h3 3 (.int .i64 n3)) h3 7 (.int .i64 n7)) hb, h2⟩)); clear HB BK2 BK5 R8 R9 hb; have HB := nb_; have BK2 := B2_; have BK5 := B5_; have R8 := r8_; have R9 := r9_; clear nb_ B2_ B5_ r8_ r9_; obtain ⟨ha0, ha1, ha2, ha3, ha4, ha5, ha6, ha7, ha8, ha9, fa0, fa1, fa2, fa3, fa4, fa5, fa6, fa7, fa8, fa9⟩ := cells10 BK5.out; obtain ⟨hb0, hb1, hb2, hb3, hb4, hb5, hb6, hb7, hb8, hb9, fb0, fb1, fb2, fb3, fb4, fb5, fb6, fb7, fb8, fb9⟩ := cells10 BK2.out)
              refine bodyPost_ret (results_cell_tmp rfl _ _ g2 69 #[.int .u64 0, .int .u64 0, .string ⟨#[]⟩, .int .i64 0, .string ⟨#[]⟩, .string ⟨#[]⟩, .int .u64 0, .int .i64 0, .slice none 0 0, .slice none 0 0] (0, 0) _ (.int .i64 4) rfl (by refine blk_put (cs := #[.int .u64 0, .int .u64 0, .string ⟨#[]⟩, .int .i64 0, .string ⟨#[]⟩, .string ⟨#[]⟩, .int .u64 0, .int .i64 0, .slice none 0 0, .slice none 0 0]) ?_ 9 _ rfl; refine blk_put (cs := #[.int .u64 0, .int .u64 0, .string ⟨#[]⟩, .int .i64 0, .string ⟨#[]⟩, .string ⟨#[]⟩, .int .u64 0, .int .i64 0, .slice none 0 0, .slice none 0 0]) ?_ 8 _ rfl; refine blk_put (cs := #[.int .u64 0, .int .u64 0, .string ⟨#[]⟩, .int .i64 0, .string ⟨#[]⟩, .string ⟨#[]⟩, .int .u64 0, .int .i64 0, .slice none 0 0, .slice none 0 0]) ?_ 7 _ rfl; refine blk_put (cs := #[.int .u64 0, .int .u64 0, .string ⟨#[]⟩, .int .i64 0, .string ⟨#[]⟩, .string ⟨#[]⟩, .int .u64 0, .int .i64 0, .slice none 0 0, .slice none 0 0]) ?_ 6 _ rfl; refine blk_put (cs := #[.int .u64 0, .int .u64 0, .string ⟨#[]⟩, .int .i64 0, .string ⟨#[]⟩, .string ⟨#[]⟩, .int .u64 0, .int .i64 0, .slice none 0 0, .slice none 0 0]) ?_ 5 _ rfl; refine blk_put (cs := #[.int .u64 0, .int .u64 0, .string ⟨#[]⟩, .int .i64 0, .string ⟨#[]⟩, .string ⟨#[]⟩, .int .u64 0, .int .i64 0, .slice none 0 0, .slice none 0 0]) ?_ 4 _ rfl; refine blk_put (cs := #[.int .u64 0, .int .u64 0, .string ⟨#[]⟩, .int .i64 0, .string ⟨#[]⟩, .string ⟨#[]⟩, .int .u64 0, .int .i64 0, .slice none 0 0, .slice none 0 0]) ?_ 3 _ rfl; refine blk_put (cs := #[.int .u64 0, .int .u64 0, .string ⟨#[]⟩, .int .i64 0, .string ⟨#[]⟩, .string ⟨#[]⟩, .int .u64 0, .int .i64 0, .slice none 0 0, .slice none 0 0]) ?_ 2 _ rfl; refine blk_put (cs := #[.int .u64 0, .int .u64 0, .string ⟨#[]⟩, .int .i64 0, .string ⟨#[]⟩, .string ⟨#[]⟩, .int .u64 0, .int .i64 0, .slice none 0 0, .slice none 0 0]) ?_ 1 _ rfl; refine blk_put (cs := #[.int .u64 0, .int .u64 0, .string ⟨#[]⟩, .int .i64 0, .string ⟨#[]⟩, .string ⟨#[]⟩, .int .u64 0, .int .i64 0, .slice none 0 0, .slice none 0 0]) ?_ 0 _ rfl; exact BK2.out) Try.underlying69 rfl (by kernel_rfl) rfl) rfl ?_
              unfold RdPost
              refine ⟨?_, by repeat (first | (with_reducible first | exact HB.out | apply below_alloc | apply pw_below_drewN | apply below_drew1 | refine below_set ?_ GE5.out | refine below_set ?_ GE2.out) | exact HB.out)⟩
              rw [if_neg (by rw [HGG.out]; decide)]
          · have e2 : decide (9999 < n7) = true := decide_eq_true (by omega)
            go_wp2
            refine bodyPost_ret (results_cell_tmp rfl _ _ g2 69 #[.int .u64 0, .int .u64 0, .string ⟨#[]⟩, .int .i64 0, .string ⟨#[]⟩, .string ⟨#[]⟩, .int .u64 0, .int .i64 0, .slice none 0 0, .slice none 0 0] (0, 0) _ (.int .i64 4) rfl (by refine blk_put (cs := #[.int .u64 0, .int .u64 0, .string ⟨#[]⟩, .int .i64 0, .string ⟨#[]⟩, .string ⟨#[]⟩, .int .u64 0, .int .i64 0, .slice none 0 0, .slice none 0 0]) ?_ 9 _ rfl; refine blk_put (cs := #[.int .u64 0, .int .u64 0, .string ⟨#[]⟩, .int .i64 0, .string ⟨#[]⟩, .string ⟨#[]⟩, .int .u64 0, .int .i64 0, .slice none 0 0, .slice none 0 0]) ?_ 8 _ rfl; refine blk_put (cs := #[.int .u64 0, .int .u64 0, .string ⟨#[]⟩, .int .i64 0, .string ⟨#[]⟩, .string ⟨#[]⟩, .int .u64 0, .int .i64 0, .slice none 0 0, .slice none 0 0]) ?_ 7 _ rfl; refine blk_put (cs := #[.int .u64 0, .int .u64 0, .string ⟨#[]⟩, .int .i64 0, .string ⟨#[]⟩, .string ⟨#[]⟩, .int .u64 0, .int .i64 0, .slice none 0 0, .slice none 0 0]) ?_ 6 _ rfl; refine blk_put (cs := #[.int .u64 0, .int .u64 0, .string ⟨#[]⟩, .int .i64 0, .string ⟨#[]⟩, .string ⟨#[]⟩, .int .u64 0, .int .i64 0, .slice none 0 0, .slice none 0 0]) ?_ 5 _ rfl; refine blk_put (cs := #[.int .u64 0, .int .u64 0, .string ⟨#[]⟩, .int .i64 0, .string ⟨#[]⟩, .string ⟨#[]⟩, .int .u64 0, .int .i64 0, .slice none 0 0, .slice none 0 0]) ?_ 4 _ rfl; refine blk_put (cs := #[.int .u64 0, .int .u64 0, .string ⟨#[]⟩, .int .i64 0, .string ⟨#[]⟩, .string ⟨#[]⟩, .int .u64 0, .int .i64 0, .slice none 0 0, .slice none 0 0]) ?_ 3 _ rfl; refine blk_put (cs := #[.int .u64 0, .int .u64 0, .string ⟨#[]⟩, .int .i64 0, .string ⟨#[]⟩, .string ⟨#[]⟩, .int .u64 0, .int .i64 0, .slice none 0 0, .slice none 0 0]) ?_ 2 _ rfl; refine blk_put (cs := #[.int .u64 0, .int .u64 0, .string ⟨#[]⟩, .int .i64 0, .string ⟨#[]⟩, .string ⟨#[]⟩, .int .u64 0, .int .i64 0, .slice none 0 0, .slice none 0 0]) ?_ 1 _ rfl; refine blk_put (cs := #[.int .u64 0, .int .u64 0, .string ⟨#[]⟩, .int .i64 0, .string ⟨#[]⟩, .string ⟨#[]⟩, .int .u64 0, .int .i64 0, .slice none 0 0, .slice none 0 0]) ?_ 0 _ rfl; exact BK2.out) Try.underlying69 rfl (by kernel_rfl) rfl) rfl ?_
            unfold RdPost
            refine ⟨?_, by repeat (first | (with_reducible first | exact HB.out | apply below_alloc | apply pw_below_drewN | apply below_drew1 | refine below_set ?_ GE5.out | refine below_set ?_ GE2.out) | exact HB.out)⟩
            rw [if_neg (by rw [HG.out]; rw [decide_eq_false (p := n7 ≤ 9999) (by omega)]; simp)]
        · have e1 : decide (1000 < n3) = true := decide_eq_true (by omega)
          go_wp2
          refine bodyPost_ret (results_cell_tmp rfl _ _ g2 69 #[.int .u64 0, .int .u64 0, .string ⟨#[]⟩, .int .i64 0, .string ⟨#[]⟩, .string ⟨#[]⟩, .int .u64 0, .int .i64 0, .slice none 0 0, .slice none 0 0] (0, 0) _ (.int .i64 4) rfl (by refine blk_put (cs := #[.int .u64 0, .int .u64 0, .string ⟨#[]⟩, .int .i64 0, .string ⟨#[]⟩, .string ⟨#[]⟩, .int .u64 0, .int .i64 0, .slice none 0 0, .slice none 0 0]) ?_ 9 _ rfl; refine blk_put (cs := #[.int .u64 0, .int .u64 0, .string ⟨#[]⟩, .int .i64 0, .string ⟨#[]⟩, .string ⟨#[]⟩, .int .u64 0, .int .i64 0, .slice none 0 0, .slice none 0 0]) ?_ 8 _ rfl; refine blk_put (cs := #[.int .u64 0, .int .u64 0, .string ⟨#[]⟩, .int .i64 0, .string ⟨#[]⟩, .string ⟨#[]⟩, .int .u64 0, .int .i64 0, .slice none 0 0, .slice none 0 0]) ?_ 7 _ rfl; refine blk_put (cs := #[.int .u64 0, .int .u64 0, .string ⟨#[]⟩, .int .i64 0, .string ⟨#[]⟩, .string ⟨#[]⟩, .int .u64 0, .int .i64 0, .slice none 0 0, .slice none 0 0]) ?_ 6 _ rfl; refine blk_put (cs := #[.int .u64 0, .int .u64 0, .string ⟨#[]⟩, .int .i64 0, .string ⟨#[]⟩, .string ⟨#[]⟩, .int .u64 0, .int .i64 0, .slice none 0 0, .slice none 0 0]) ?_ 5 _ rfl; refine blk_put (cs := #[.int .u64 0, .int .u64 0, .string ⟨#[]⟩, .int .i64 0, .string ⟨#[]⟩, .string ⟨#[]⟩, .int .u64 0, .int .i64 0, .slice none 0 0, .slice none 0 0]) ?_ 4 _ rfl; refine blk_put (cs := #[.int .u64 0, .int .u64 0, .string ⟨#[]⟩, .int .i64 0, .string ⟨#[]⟩, .string ⟨#[]⟩, .int .u64 0, .int .i64 0, .slice none 0 0, .slice none 0 0]) ?_ 3 _ rfl; refine blk_put (cs := #[.int .u64 0, .int .u64 0, .string ⟨#[]⟩, .int .i64 0, .string ⟨#[]⟩, .string ⟨#[]⟩, .int .u64 0, .int .i64 0, .slice none 0 0, .slice none 0 0]) ?_ 2 _ rfl; refine blk_put (cs := #[.int .u64 0, .int .u64 0, .string ⟨#[]⟩, .int .i64 0, .string ⟨#[]⟩, .string ⟨#[]⟩, .int .u64 0, .int .i64 0, .slice none 0 0, .slice none 0 0]) ?_ 1 _ rfl; refine blk_put (cs := #[.int .u64 0, .int .u64 0, .string ⟨#[]⟩, .int .i64 0, .string ⟨#[]⟩, .string ⟨#[]⟩, .int .u64 0, .int .i64 0, .slice none 0 0, .slice none 0 0]) ?_ 0 _ rfl; exact BK2.out) Try.underlying69 rfl (by kernel_rfl) rfl) rfl ?_
          unfold RdPost
          refine ⟨?_, by repeat (first | (with_reducible first | exact HB.out | apply below_alloc | apply pw_below_drewN | apply below_drew1 | refine below_set ?_ GE5.out | refine below_set ?_ GE2.out) | exact HB.out)⟩
          rw [if_neg (by rw [HG.out]; rw [decide_eq_false (p := n3 ≤ 1000) (by omega)]; simp)]
      · have d1 : decide ((at_ : Int) < (b.length : Int)) = true := decide_eq_true (by have : 0 < l10.length := List.length_pos_iff.2 hl; omega)
        have d2 : decide (at_ < b.length) = true := decide_eq_true (by have : 0 < l10.length := List.length_pos_iff.2 hl; omega)
        clear hlen hat
        go_wp2
        refine bodyPost_ret (results_cell_tmp rfl _ _ g2 69 #[.int .u64 0, .int .u64 0, .string ⟨#[]⟩, .int .i64 0, .string ⟨#[]⟩, .string ⟨#[]⟩, .int .u64 0, .int .i64 0, .slice none 0 0, .slice none 0 0] (0, 0) _ (.int .i64 4) rfl (by refine blk_put (cs := #[.int .u64 0, .int .u64 0, .string ⟨#[]⟩, .int .i64 0, .string ⟨#[]⟩, .string ⟨#[]⟩, .int .u64 0, .int .i64 0, .slice none 0 0, .slice none 0 0]) ?_ 9 _ rfl; refine blk_put (cs := #[.int .u64 0, .int .u64 0, .string ⟨#[]⟩, .int .i64 0, .string ⟨#[]⟩, .string ⟨#[]⟩, .int .u64 0, .int .i64 0, .slice none 0 0, .slice none 0 0]) ?_ 8 _ rfl; refine blk_put (cs := #[.int .u64 0, .int .u64 0, .string ⟨#[]⟩, .int .i64 0, .string ⟨#[]⟩, .string ⟨#[]⟩, .int .u64 0, .int .i64 0, .slice none 0 0, .slice none 0 0]) ?_ 7 _ rfl; refine blk_put (cs := #[.int .u64 0, .int .u64 0, .string ⟨#[]⟩, .int .i64 0, .string ⟨#[]⟩, .string ⟨#[]⟩, .int .u64 0, .int .i64 0, .slice none 0 0, .slice none 0 0]) ?_ 6 _ rfl; refine blk_put (cs := #[.int .u64 0, .int .u64 0, .string ⟨#[]⟩, .int .i64 0, .string ⟨#[]⟩, .string ⟨#[]⟩, .int .u64 0, .int .i64 0, .slice none 0 0, .slice none 0 0]) ?_ 5 _ rfl; refine blk_put (cs := #[.int .u64 0, .int .u64 0, .string ⟨#[]⟩, .int .i64 0, .string ⟨#[]⟩, .string ⟨#[]⟩, .int .u64 0, .int .i64 0, .slice none 0 0, .slice none 0 0]) ?_ 4 _ rfl; refine blk_put (cs := #[.int .u64 0, .int .u64 0, .string ⟨#[]⟩, .int .i64 0, .string ⟨#[]⟩, .string ⟨#[]⟩, .int .u64 0, .int .i64 0, .slice none 0 0, .slice none 0 0]) ?_ 3 _ rfl; refine blk_put (cs := #[.int .u64 0, .int .u64 0, .string ⟨#[]⟩, .int .i64 0, .string ⟨#[]⟩, .string ⟨#[]⟩, .int .u64 0, .int .i64 0, .slice none 0 0, .slice none 0 0]) ?_ 2 _ rfl; refine blk_put (cs := #[.int .u64 0, .int .u64 0, .string ⟨#[]⟩, .int .i64 0, .string ⟨#[]⟩, .string ⟨#[]⟩, .int .u64 0, .int .i64 0, .slice none 0 0, .slice none 0 0]) ?_ 1 _ rfl; refine blk_put (cs := #[.int .u64 0, .int .u64 0, .string ⟨#[]⟩, .int .i64 0, .string ⟨#[]⟩, .string ⟨#[]⟩, .int .u64 0, .int .i64 0, .slice none 0 0, .slice none 0 0]) ?_ 0 _ rfl; exact BK2.out) Try.underlying69 rfl (by kernel_rfl) rfl) rfl ?_
        unfold RdPost
        refine ⟨?_, by repeat (first | (with_reducible first | exact HB.out | apply below_alloc | apply pw_below_drewN | apply below_drew1 | refine below_set ?_ GE5.out | refine below_set ?_ GE2.out) | exact HB.out)⟩
        rw [if_neg (by rw [HG.out]; rw [decide_eq_false (p := l10 = []) hl]; simp)]
end Go.Proofs.Ytlnpmodhejakiaa.AV
namespace Go.Proofs.Ytlnpmodhejakiaa.AV
open Go.RowKit Go.Proofs.YtlnpmodhejakiaaW.PrintWords Go.Proofs.YtlnpmodhejakiaaW.PrintLast Go.Proofs.YtlnpmodhejakiaaW.PrintMore Go.Proofs.Ytlnpmodhejakiaa.Sha Go.Proofs.Ytlnpmodhejakiaa.D Go.Proofs.Ytlnpmodhejakiaa.PC Go.Proofs.Ytlnpmodhejakiaa.CP Go.Proofs.Ytlnpmodhejakiaa.PV
set_option linter.unusedVariables false
set_option linter.unusedSimpArgs false
theorem str_sizeU (l : List Int) : (strOfNums l).size = l.length := by
  unfold strOfNums ByteArray.size
  simp
theorem rsame_u (x : S69) (A8 : Option Addr) (c8 : Nat) (A9 : Option Addr) (c9 : Nat) (B8 : Option Addr) (d8 : Nat) (B9 : Option Addr) (d9 : Nat) (w : World) (h : RecC w x A8 c8 A9 c9) (hx : okX x) (h' : RecC w x B8 d8 B9 d9) :
    Calls Try.prog 75 #[.agg #[.int .u64 x.f0, .int .u64 x.f1, .string x.f2, .int .i64 x.f3, .string x.f4, .string x.f5, .int .u64 x.f6, .int .i64 x.f7, .slice A8 x.f8.length c8, .slice A9 x.f9.length c9], .agg #[.int .u64 x.f0, .int .u64 x.f1, .string x.f2, .int .i64 x.f3, .string x.f4, .string x.f5, .int .u64 x.f6, .int .i64 x.f7, .slice B8 x.f8.length d8, .slice B9 x.f9.length d9]] w fun e w' => e = .returned (.bool true) ∧ Below w.heap.size w w' := by
  rw [← (sameP_iff x x).2 rfl]
  exact rsame_c x A8 c8 A9 c9 x B8 d8 B9 d9 w h hx h' hx
theorem uint_ok {l : List Int} {bad : Bool} {n : Int} {l' : List Int} {q : Bool} (h : uintS l bad = (n, l', q)) (hl : okL l) : (0 ≤ n ∧ n ≤ 18446744073709551615) ∧ okL l' ∧ l'.length ≤ l.length := by
  unfold uintS at h
  cases hv : headV l bad 117 8 with
  | none => rw [hv] at h; simp only [Prod.mk.injEq] at h; obtain ⟨rfl, rfl, rfl⟩ := h; exact ⟨by omega, hl, Nat.le_refl _⟩
  | some m =>
    rw [hv] at h
    simp only [Prod.mk.injEq] at h
    obtain ⟨rfl, rfl, rfl⟩ := h
    have := headV_bd hl hv
    have h8 : (256 : Int) ^ 8 = 18446744073709551616 := by decide
    refine ⟨⟨this.2.2.2.2.1, by have := this.2.2.2.2.2; omega⟩, okL_drop hl _, by rw [List.length_drop]; omega⟩
theorem some_ok {l : List Int} {bad : Bool} {s : Int} {t l' : List Int} {q : Bool} (h : someS l bad s = (t, l', q)) (hl : okL l) : B255 t ∧ t.length ≤ l.length ∧ okL l' ∧ l'.length ≤ l.length := by
  unfold someS at h
  cases hv : headV l bad s 4 with
  | none => rw [hv] at h; simp only [Prod.mk.injEq] at h; obtain ⟨rfl, rfl, rfl⟩ := h; exact ⟨B255.nil, Nat.zero_le _, hl, Nat.le_refl _⟩
  | some m =>
    rw [hv] at h
    simp only at h
    split at h
    · simp only [Prod.mk.injEq] at h; obtain ⟨rfl, rfl, rfl⟩ := h; exact ⟨B255.nil, Nat.zero_le _, hl, Nat.le_refl _⟩
    · simp only [Prod.mk.injEq] at h
      obtain ⟨rfl, rfl, rfl⟩ := h
      exact ⟨fun y hy => hl.2 y (List.mem_of_mem_drop (List.mem_of_mem_take hy)), by rw [List.length_take, List.length_drop]; omega, okL_drop hl _, by rw [List.length_drop]; omega⟩
def z0 : S69 := ⟨0, 0, ⟨#[]⟩, 0, ⟨#[]⟩, ⟨#[]⟩, 0, 0, [], []⟩
theorem ok_z0 : okX z0 := ⟨by decide, by decide, by decide, by decide, by decide, by decide, (fun _ h => by cases h), (fun _ h => by cases h)⟩
theorem rd_get {x : S69} {good : Bool} {w : World} {e : Ending} {w' : World} (h : RdPost x good w e w') (y : S69) (er : Int) (hy : y = if good = true then x else z0) (he : er = if good = true then 0 else 4) :
    ∃ A8 c8 A9 c9, e = .returned (.tuple #[.agg #[.int .u64 y.f0, .int .u64 y.f1, .string y.f2, .int .i64 y.f3, .string y.f4, .string y.f5, .int .u64 y.f6, .int .i64 y.f7, .slice A8 y.f8.length c8, .slice A9 y.f9.length c9], .int .i64 er]) ∧ RecC w' y A8 c8 A9 c9 ∧ Below w.heap.size w w' := by
  obtain ⟨h1, hb⟩ := h
  cases good with
  | true =>
    rw [if_pos rfl] at h1 hy he
    subst hy he
    obtain ⟨A8, c8, A9, c9, h2, h3⟩ := h1
    exact ⟨A8, c8, A9, c9, h2, h3, hb⟩
  | false =>
    rw [if_neg (by decide)] at h1 hy he
    subst hy he
    exact ⟨none, 0, none, 0, h1, ⟨C_none _ _, Nat.le_refl _, C_none _ _, Nat.le_refl _⟩, hb⟩
theorem reads_plain (b : List Int) (hb : okL b) (hl : b.length ≤ 10000) : ∃ (y : S69) (er : Int), okX y ∧
    (∀ (A : Option Addr) (c : Nat) (w : World), Kd.C (Kd.int .u8) w A b.length b → b.length ≤ c → Calls Try.prog 88 #[.slice A b.length c] w fun e w' => ∃ A8 c8 A9 c9, e = .returned (.tuple #[.agg #[.int .u64 y.f0, .int .u64 y.f1, .string y.f2, .int .i64 y.f3, .string y.f4, .string y.f5, .int .u64 y.f6, .int .i64 y.f7, .slice A8 y.f8.length c8, .slice A9 y.f9.length c9], .int .i64 er]) ∧ RecC w' y A8 c8 A9 c9 ∧ Below w.heap.size w w') ∧
    (∀ (A : Option Addr) (c : Nat) (w : World), Kd.C (Kd.int .u8) w A b.length b → b.length ≤ c → Calls Try.prog 89 #[.slice A b.length c] w fun e w' => ∃ A8 c8 A9 c9, e = .returned (.tuple #[.agg #[.int .u64 y.f0, .int .u64 y.f1, .string y.f2, .int .i64 y.f3, .string y.f4, .string y.f5, .int .u64 y.f6, .int .i64 y.f7, .slice A8 y.f8.length c8, .slice A9 y.f9.length c9], .int .i64 er]) ∧ RecC w' y A8 c8 A9 c9 ∧ Below w.heap.size w w') := by
  obtain ⟨⟨n0, l1, q1⟩, H0⟩ : ∃ r, uintS b false = r := ⟨_, rfl⟩
  have b0 := uint_ok H0 hb
  have e1 : l1.length ≤ 10000 := Nat.le_trans b0.2.2 hl
  obtain ⟨⟨n1, l2, q2⟩, H1⟩ : ∃ r, uintS l1 q1 = r := ⟨_, rfl⟩
  have b1 := uint_ok H1 b0.2.1
  have e2 : l2.length ≤ 10000 := Nat.le_trans b1.2.2 e1
  obtain ⟨⟨t2, l3, q3⟩, H2⟩ : ∃ r, someS l2 q2 115 = r := ⟨_, rfl⟩
  have b2 := some_ok H2 b1.2.1
  have e3 : l3.length ≤ 10000 := Nat.le_trans b2.2.2.2 e2
  obtain ⟨⟨n3, l4, q4⟩, H3⟩ : ∃ r, uintS l3 q3 = r := ⟨_, rfl⟩
  have b3 := uint_ok H3 b2.2.2.1
  have e4 : l4.length ≤ 10000 := Nat.le_trans b3.2.2 e3
  obtain ⟨⟨t4, l5, q5⟩, H4⟩ : ∃ r, someS l4 q4 115 = r := ⟨_, rfl⟩
  have b4 := some_ok H4 b3.2.1
  have e5 : l5.length ≤ 10000 := Nat.le_trans b4.2.2.2 e4
  obtain ⟨⟨t5, l6, q6⟩, H5⟩ : ∃ r, someS l5 q5 115 = r := ⟨_, rfl⟩
  have b5 := some_ok H5 b4.2.2.1
  have e6 : l6.length ≤ 10000 := Nat.le_trans b5.2.2.2 e5
  obtain ⟨⟨n6, l7, q7⟩, H6⟩ : ∃ r, uintS l6 q6 = r := ⟨_, rfl⟩
  have b6 := uint_ok H6 b5.2.2.1
  have e7 : l7.length ≤ 10000 := Nat.le_trans b6.2.2 e6
  obtain ⟨⟨n7, l8, q8⟩, H7⟩ : ∃ r, uintS l7 q7 = r := ⟨_, rfl⟩
  have b7 := uint_ok H7 b6.2.1
  have e8 : l8.length ≤ 10000 := Nat.le_trans b7.2.2 e7
  obtain ⟨⟨s8, l9, q9⟩, H8⟩ : ∃ r, someS l8 q8 98 = r := ⟨_, rfl⟩
  have b8 := some_ok H8 b7.2.1
  have e9 : l9.length ≤ 10000 := Nat.le_trans b8.2.2.2 e8
  obtain ⟨⟨s9, l10, q10⟩, H9⟩ : ∃ r, someS l9 q9 98 = r := ⟨_, rfl⟩
  have b9 := some_ok H9 b8.2.2.1
  have e10 : l10.length ≤ 10000 := Nat.le_trans b9.2.2.2 e9
  have x2 := b2.2.1
  have x4 := b4.2.1
  have x5 := b5.2.1
  have x8 := b8.2.1
  have x9 := b9.2.1
  have bulk : (strOfNums t2).size + (strOfNums t4).size + (strOfNums t5).size + s8.length + s9.length ≤ 1000000 := by rw [str_sizeU, str_sizeU, str_sizeU]; omega
  have hd : (decide (doneS l10 q10 = 0)) = (!q10 && decide (l10 = [])) := by
    unfold doneS
    cases q10 with
    | true => rw [if_pos (Or.inl rfl)]; rfl
    | false =>
      by_cases h : l10 = []
      · rw [if_neg (by rintro (h' | h'); cases h'; exact h' h), decide_eq_true h]; rfl
      · rw [if_pos (Or.inr h), decide_eq_false h]; rfl
  have okA : okX ⟨n0, n1, strOfNums t2, mn n3 20, strOfNums t4, strOfNums t5, n6, mn n7 10000, s8, s9⟩ := ⟨b0.1, b1.1, b6.1, by show _ ≤ mn n3 20 ∧ mn n3 20 ≤ _; unfold mn; split <;> omega, by show _ ≤ mn n7 10000 ∧ mn n7 10000 ≤ _; unfold mn; split <;> omega, bulk, b8.1, b9.1⟩
  have okB : n3 ≤ 1000 → n7 ≤ 9999 → okX ⟨n0, n1, strOfNums t2, n3, strOfNums t4, strOfNums t5, n6, n7, s8, s9⟩ := fun h3 h7 => ⟨b0.1, b1.1, b6.1, by show _ ≤ n3 ∧ n3 ≤ _; omega, by show _ ≤ n7 ∧ n7 ≤ _; omega, bulk, b8.1, b9.1⟩
  have gg : (decide (doneS l10 q10 = 0) && rightP ⟨n0, n1, strOfNums t2, mn n3 20, strOfNums t4, strOfNums t5, n6, mn n7 10000, s8, s9⟩) = (!q10 && decide (l10 = []) && decide (n3 ≤ 1000) && decide (n7 ≤ 9999) && rightP ⟨n0, n1, strOfNums t2, n3, strOfNums t4, strOfNums t5, n6, n7, s8, s9⟩) ∧ ((decide (doneS l10 q10 = 0) && rightP ⟨n0, n1, strOfNums t2, mn n3 20, strOfNums t4, strOfNums t5, n6, mn n7 10000, s8, s9⟩) = true → (⟨n0, n1, strOfNums t2, mn n3 20, strOfNums t4, strOfNums t5, n6, mn n7 10000, s8, s9⟩ : S69) = ⟨n0, n1, strOfNums t2, n3, strOfNums t4, strOfNums t5, n6, n7, s8, s9⟩) := by
    rw [hd]
    by_cases h3 : n3 ≤ 19
    · by_cases h7 : n7 ≤ 9999
      · rw [show mn n3 20 = n3 by unfold mn; split <;> omega, show mn n7 10000 = n7 by unfold mn; split <;> omega, decide_eq_true (show n3 ≤ 1000 by omega), decide_eq_true h7]
        exact ⟨by simp, fun _ => rfl⟩
      · have e : rightP ⟨n0, n1, strOfNums t2, mn n3 20, strOfNums t4, strOfNums t5, n6, mn n7 10000, s8, s9⟩ = false := by unfold rightP; rw [decide_eq_false (show ¬ (mn n7 10000 ≤ 9999) by unfold mn; split <;> omega)]; simp
        rw [e, decide_eq_false h7]
        exact ⟨by simp, fun h => by simp at h⟩
    · have e : rightP ⟨n0, n1, strOfNums t2, mn n3 20, strOfNums t4, strOfNums t5, n6, mn n7 10000, s8, s9⟩ = false := by unfold rightP; rw [decide_eq_false (show ¬ (mn n3 20 ≤ 19) by unfold mn; split <;> omega)]; simp
      have e' : rightP ⟨n0, n1, strOfNums t2, n3, strOfNums t4, strOfNums t5, n6, n7, s8, s9⟩ = false := by unfold rightP; rw [decide_eq_false (show ¬ (n3 ≤ 19) from h3)]; simp
      rw [e, e']
      exact ⟨by simp, fun h => by simp at h⟩
  obtain ⟨ga, hga⟩ : ∃ g, (decide (doneS l10 q10 = 0) && rightP ⟨n0, n1, strOfNums t2, mn n3 20, strOfNums t4, strOfNums t5, n6, mn n7 10000, s8, s9⟩) = g := ⟨_, rfl⟩
  rw [hga] at gg
  refine ⟨if ga = true then ⟨n0, n1, strOfNums t2, mn n3 20, strOfNums t4, strOfNums t5, n6, mn n7 10000, s8, s9⟩ else z0, if ga = true then 0 else 4, by split; exact okA; exact ok_z0, fun A c w hC hc => ?_, fun A c w hC hc => ?_⟩
  · exact (aread_any A c b w hC hc hl n0 n1 n3 n6 n7 t2 t4 t5 s8 s9 b l1 l2 l3 l4 l5 l6 l7 l8 l9 l10 false q1 q2 q3 q4 q5 q6 q7 q8 q9 q10 rfl rfl H0 hb H1 b0.2.1 H2 b1.2.1 H3 b2.2.2.1 H4 b3.2.1 H5 b4.2.2.1 H6 b5.2.2.1 H7 b6.2.1 H8 b7.2.1 H9 b8.2.2.1 b3.1 b7.1 okA ga hga.symm).mono fun e w' h => rd_get h _ _ rfl rfl
  · refine (rread_any A c b w hC hc hl hb n0 n1 n3 n6 n7 t2 t4 t5 s8 s9 b l1 l2 l3 l4 l5 l6 l7 l8 l9 l10 false q1 q2 q3 q4 q5 q6 q7 q8 q9 q10 rfl rfl H0 H1 H2 H3 H4 H5 H6 H7 H8 H9 b3.1.1 b7.1.1 okB ga gg.1).mono fun e w' h => rd_get h _ _ ?_ rfl
    cases ga with
    | true => rw [if_pos rfl, if_pos rfl]; exact gg.2 rfl
    | false => rfl
theorem C_blkw {w w' : World} {y : S69} {A8 A9 : Option Addr} {c8 c9 : Nat} (h : RecC w y A8 c8 A9 c9) (hb : Below w.heap.size w w') : RecC w' y A8 c8 A9 c9 := h.below hb
set_option maxHeartbeats 32000000 in
set_option maxRecDepth 100000 in
theorem reads_any (A : Option Addr) (c : Nat) (b : List Int) (w : World) (hC : Kd.C (Kd.int .u8) w A b.length b) (hc : b.length ≤ c) (hb : okL b) :
    Calls Try.prog 22 #[.slice A b.length c] w fun e w' => e = .returned (.bool true) ∧ Below w.heap.size w w' := by
  have hu69 := Try.underlying69
  have HB := Aside0.mk (Below.refl w.heap.size w)
  have HC := Aside0.mk hC
  have Hc := Aside0.mk hc
  by_cases hl : b.length ≤ 10000
  · obtain ⟨y, er, hok, ha, hr⟩ := reads_plain b hb hl
    have RA := Aside0.mk (fun W h => ha A c W h Hc.out)
    have RR := Aside0.mk (fun W h => hr A c W h Hc.out)
    have NS := Aside0.mk (fun a b' c' d e f g h W h1 h2 => rsame_u y a b' c' d e f g h W h1 hok h2)
    have d1 : decide (10000 < (b.length : Int)) = false := decide_eq_false (by omega)
    have d2 : decide (10000 < b.length) = false := decide_eq_false (by omega)
    clear hC hc hb hl hok ha hr
    go_enter Try.func22, Try.ntmps22
    go_upto_region 3 with (fail)
    go_cut [3, 4] (fun v3 v4 wc => ∃ g3 A8 c8 A9 c9, v3 = .pointer (some ⟨g3, 0, none⟩) ∧ v4 = .int .i64 er ∧ Aside0 (wc.heap[g3]? = some (.cells #[.int .u64 y.f0, .int .u64 y.f1, .string y.f2, .int .i64 y.f3, .string y.f4, .string y.f5, .int .u64 y.f6, .int .i64 y.f7, .slice A8 y.f8.length c8, .slice A9 y.f9.length c9] 69 (0, 0))) ∧ Aside0 (∃ w1, RecC w1 y A8 c8 A9 c9 ∧ Below w1.heap.size w1 wc) ∧ Aside0 (w.heap.size ≤ g3) ∧ Aside0 (Below w.heap.size w wc))
    case first =>
      go_wp2_with (first
        | (go_at_call 88; (with_reducible refine (RA.out _ HC.out).mono ?_); rintro e w1 ⟨A8, c8, A9, c9, rfl, hR, hb⟩; have RY := Aside0.mk hR; have nb_ := Aside0.mk hb; clear HB hR hb; have HB := nb_; clear nb_)
        | ((with_reducible refine gate_dst (N := 3) rfl ?_); refine box_event ?hg (N := 3) ?hd (cs := #[.int .u64 0, .int .u64 0, .string ⟨#[]⟩, .int .i64 0, .string ⟨#[]⟩, .string ⟨#[]⟩, .int .u64 0, .int .i64 0, .slice none 0 0, .slice none 0 0]) (t := 69) ?hr ?_; (case hd => rfl); (case hg => rfl); (case hr => first | (go_simp; done) | (go_simp; rfl)); intro g3 hg w2 hbox hb; have BK3 := Aside0.mk hbox; have GE3 := Aside0.mk (by rw [hg]; exact below_size HB.out : w.heap.size ≤ g3); have G13 := Aside0.mk (by rw [hg]; exact Nat.le_refl _ : w1.heap.size ≤ g3); have HB1 := Aside0.mk hb; have nb_ := Aside0.mk (below_step HB.out hb); clear HB; have HB := nb_; clear nb_ hbox hb hg; obtain ⟨hz0, hz1, hz2, hz3, hz4, hz5, hz6, hz7, hz8, hz9, fz0, fz1, fz2, fz3, fz4, fz5, fz6, fz7, fz8, fz9⟩ := cells10 BK3.out))
      go_meet
      case rel => exact ⟨g3, A8, c8, A9, c9, rfl, rfl, ⟨by refine blk_put (cs := #[.int .u64 y.f0, .int .u64 y.f1, .string y.f2, .int .i64 y.f3, .string y.f4, .string y.f5, .int .u64 y.f6, .int .i64 y.f7, .slice A8 y.f8.length c8, .slice none 0 0]) ?_ 9 _ rfl; refine blk_put (cs := #[.int .u64 y.f0, .int .u64 y.f1, .string y.f2, .int .i64 y.f3, .string y.f4, .string y.f5, .int .u64 y.f6, .int .i64 y.f7, .slice none 0 0, .slice none 0 0]) ?_ 8 _ rfl; refine blk_put (cs := #[.int .u64 y.f0, .int .u64 y.f1, .string y.f2, .int .i64 y.f3, .string y.f4, .string y.f5, .int .u64 y.f6, .int .i64 0, .slice none 0 0, .slice none 0 0]) ?_ 7 _ rfl; refine blk_put (cs := #[.int .u64 y.f0, .int .u64 y.f1, .string y.f2, .int .i64 y.f3, .string y.f4, .string y.f5, .int .u64 0, .int .i64 0, .slice none 0 0, .slice none 0 0]) ?_ 6 _ rfl; refine blk_put (cs := #[.int .u64 y.f0, .int .u64 y.f1, .string y.f2, .int .i64 y.f3, .string y.f4, .string ⟨#[]⟩, .int .u64 0, .int .i64 0, .slice none 0 0, .slice none 0 0]) ?_ 5 _ rfl; refine blk_put (cs := #[.int .u64 y.f0, .int .u64 y.f1, .string y.f2, .int .i64 y.f3, .string ⟨#[]⟩, .string ⟨#[]⟩, .int .u64 0, .int .i64 0, .slice none 0 0, .slice none 0 0]) ?_ 4 _ rfl; refine blk_put (cs := #[.int .u64 y.f0, .int .u64 y.f1, .string y.f2, .int .i64 0, .string ⟨#[]⟩, .string ⟨#[]⟩, .int .u64 0, .int .i64 0, .slice none 0 0, .slice none 0 0]) ?_ 3 _ rfl; refine blk_put (cs := #[.int .u64 y.f0, .int .u64 y.f1, .string ⟨#[]⟩, .int .i64 0, .string ⟨#[]⟩, .string ⟨#[]⟩, .int .u64 0, .int .i64 0, .slice none 0 0, .slice none 0 0]) ?_ 2 _ rfl; refine blk_put (cs := #[.int .u64 y.f0, .int .u64 0, .string ⟨#[]⟩, .int .i64 0, .string ⟨#[]⟩, .string ⟨#[]⟩, .int .u64 0, .int .i64 0, .slice none 0 0, .slice none 0 0]) ?_ 1 _ rfl; refine blk_put (cs := #[.int .u64 0, .int .u64 0, .string ⟨#[]⟩, .int .i64 0, .string ⟨#[]⟩, .string ⟨#[]⟩, .int .u64 0, .int .i64 0, .slice none 0 0, .slice none 0 0]) ?_ 0 _ rfl; exact BK3.out⟩, ⟨_, RY.out, by (iterate 10 (refine below_set ?_ G13.out)); exact HB1.out⟩, GE3, ⟨by repeat (first | (with_reducible first | exact HB.out | apply below_alloc | apply pw_below_drewN | apply below_drew1 | refine below_set ?_ GE3.out | refine below_set ?_ GE5.out) | exact HB.out)⟩⟩
    case rest =>
      obtain ⟨g3, A8, c8, A9, c9, rfl, rfl, BK3, RY, GE3, HB⟩ := hcut
      go_upto_region 4 with (fail)
      go_cut [5, 6] (fun v5 v6 wc => ∃ g5 B8 d8 B9 d9, v5 = .pointer (some ⟨g5, 0, none⟩) ∧ v6 = .int .i64 er ∧ Aside0 (wc.heap[g3]? = some (.cells #[.int .u64 y.f0, .int .u64 y.f1, .string y.f2, .int .i64 y.f3, .string y.f4, .string y.f5, .int .u64 y.f6, .int .i64 y.f7, .slice A8 y.f8.length c8, .slice A9 y.f9.length c9] 69 (0, 0))) ∧ Aside0 (wc.heap[g5]? = some (.cells #[.int .u64 y.f0, .int .u64 y.f1, .string y.f2, .int .i64 y.f3, .string y.f4, .string y.f5, .int .u64 y.f6, .int .i64 y.f7, .slice B8 y.f8.length d8, .slice B9 y.f9.length d9] 69 (0, 0))) ∧ Aside0 (RecC wc y A8 c8 A9 c9) ∧ Aside0 (∃ w1, RecC w1 y B8 d8 B9 d9 ∧ Below w1.heap.size w1 wc) ∧ Aside0 (Below w.heap.size w wc))
      case first =>
        go_wp2_with (first
          | (go_at_call 89; (with_reducible refine (RR.out _ (Kd.C_below HC.out HB.out)).mono ?_); rintro e w3 ⟨B8, d8, B9, d9, rfl, hR, hb⟩; have RZ := Aside0.mk hR; have RY3 := Aside0.mk (show RecC w3 y A8 c8 A9 c9 from (by obtain ⟨wq, h1, h2⟩ := RY.out; exact h1.below (below_step h2 hb))); have B3_ := Aside0.mk (blk_below BK3.out hb); have nb_ := Aside0.mk (below_step HB.out hb); clear HB hR hb RY BK3; have HB := nb_; have BK3 := B3_; clear nb_ B3_)
          | ((with_reducible refine gate_dst (N := 5) rfl ?_); refine box_event ?hg (N := 5) ?hd (cs := #[.int .u64 0, .int .u64 0, .string ⟨#[]⟩, .int .i64 0, .string ⟨#[]⟩, .string ⟨#[]⟩, .int .u64 0, .int .i64 0, .slice none 0 0, .slice none 0 0]) (t := 69) ?hr ?_; (case hd => rfl); (case hg => rfl); (case hr => first | (go_simp; done) | (go_simp; rfl)); intro g5 hg w4 hbox hb; have BK5 := Aside0.mk hbox; have GE5 := Aside0.mk (by rw [hg]; exact below_size HB.out : w.heap.size ≤ g5); have G35 := Aside0.mk (by rw [hg]; exact Nat.le_refl _ : w3.heap.size ≤ g5); have N35 := Aside0.mk (by rw [hg]; exact Nat.ne_of_lt (blk_lt BK3.out) : g3 ≠ g5); have HB1 := Aside0.mk hb; have B3_ := Aside0.mk (blk_below BK3.out hb); have nb_ := Aside0.mk (below_step HB.out hb); clear HB BK3; have HB := nb_; have BK3 := B3_; clear nb_ B3_ hbox hb hg; obtain ⟨hx0, hx1, hx2, hx3, hx4, hx5, hx6, hx7, hx8, hx9, fx0, fx1, fx2, fx3, fx4, fx5, fx6, fx7, fx8, fx9⟩ := cells10 BK5.out))
        go_meet
        case rel => exact ⟨g5, B8, d8, B9, d9, rfl, rfl, ⟨by (iterate 10 (refine blk_far ?_ N35.out _)); exact BK3.out⟩, ⟨by refine blk_put (cs := #[.int .u64 y.f0, .int .u64 y.f1, .string y.f2, .int .i64 y.f3, .string y.f4, .string y.f5, .int .u64 y.f6, .int .i64 y.f7, .slice B8 y.f8.length d8, .slice none 0 0]) ?_ 9 _ rfl; refine blk_put (cs := #[.int .u64 y.f0, .int .u64 y.f1, .string y.f2, .int .i64 y.f3, .string y.f4, .string y.f5, .int .u64 y.f6, .int .i64 y.f7, .slice none 0 0, .slice none 0 0]) ?_ 8 _ rfl; refine blk_put (cs := #[.int .u64 y.f0, .int .u64 y.f1, .string y.f2, .int .i64 y.f3, .string y.f4, .string y.f5, .int .u64 y.f6, .int .i64 0, .slice none 0 0, .slice none 0 0]) ?_ 7 _ rfl; refine blk_put (cs := #[.int .u64 y.f0, .int .u64 y.f1, .string y.f2, .int .i64 y.f3, .string y.f4, .string y.f5, .int .u64 0, .int .i64 0, .slice none 0 0, .slice none 0 0]) ?_ 6 _ rfl; refine blk_put (cs := #[.int .u64 y.f0, .int .u64 y.f1, .string y.f2, .int .i64 y.f3, .string y.f4, .string ⟨#[]⟩, .int .u64 0, .int .i64 0, .slice none 0 0, .slice none 0 0]) ?_ 5 _ rfl; refine blk_put (cs := #[.int .u64 y.f0, .int .u64 y.f1, .string y.f2, .int .i64 y.f3, .string ⟨#[]⟩, .string ⟨#[]⟩, .int .u64 0, .int .i64 0, .slice none 0 0, .slice none 0 0]) ?_ 4 _ rfl; refine blk_put (cs := #[.int .u64 y.f0, .int .u64 y.f1, .string y.f2, .int .i64 0, .string ⟨#[]⟩, .string ⟨#[]⟩, .int .u64 0, .int .i64 0, .slice none 0 0, .slice none 0 0]) ?_ 3 _ rfl; refine blk_put (cs := #[.int .u64 y.f0, .int .u64 y.f1, .string ⟨#[]⟩, .int .i64 0, .string ⟨#[]⟩, .string ⟨#[]⟩, .int .u64 0, .int .i64 0, .slice none 0 0, .slice none 0 0]) ?_ 2 _ rfl; refine blk_put (cs := #[.int .u64 y.f0, .int .u64 0, .string ⟨#[]⟩, .int .i64 0, .string ⟨#[]⟩, .string ⟨#[]⟩, .int .u64 0, .int .i64 0, .slice none 0 0, .slice none 0 0]) ?_ 1 _ rfl; refine blk_put (cs := #[.int .u64 0, .int .u64 0, .string ⟨#[]⟩, .int .i64 0, .string ⟨#[]⟩, .string ⟨#[]⟩, .int .u64 0, .int .i64 0, .slice none 0 0, .slice none 0 0]) ?_ 0 _ rfl; exact BK5.out⟩, ⟨RY3.out.below (by (iterate 10 (refine below_set ?_ G35.out)); exact HB1.out)⟩, ⟨_, RZ.out, by (iterate 10 (refine below_set ?_ G35.out)); exact HB1.out⟩, ⟨by repeat (first | (with_reducible first | exact HB.out | apply below_alloc | apply pw_below_drewN | apply below_drew1 | refine below_set ?_ GE3.out | refine below_set ?_ GE5.out) | exact HB.out)⟩⟩
      case rest =>
        obtain ⟨g5, B8, d8, B9, d9, rfl, rfl, BK3, BK5, RY, RZ, HB⟩ := hcut
        obtain ⟨hu0, hu1, hu2, hu3, hu4, hu5, hu6, hu7, hu8, hu9, fu0, fu1, fu2, fu3, fu4, fu5, fu6, fu7, fu8, fu9⟩ := cells10 BK3.out
        obtain ⟨hv0, hv1, hv2, hv3, hv4, hv5, hv6, hv7, hv8, hv9, fv0, fv1, fv2, fv3, fv4, fv5, fv6, fv7, fv8, fv9⟩ := cells10 BK5.out
        go_wp2_with (first
          | (go_at_call 75; (with_reducible refine (NS.out A8 c8 A9 c9 B8 d8 B9 d9 _ RY.out (by obtain ⟨wq, h1, h2⟩ := RZ.out; exact h1.below h2)).mono ?_); rintro e w7 ⟨rfl, hb⟩; have HB7 := Aside0.mk (below_step HB.out hb); clear hb)
          | (go_at_call 74; (with_reducible refine (alive14 _).mono ?_); rintro e w8 ⟨rfl, hb⟩; have HB8 := Aside0.mk (below_step HB7.out hb); clear hb))
        go_ret
        exact ⟨rfl, HB8.out⟩
  · have d1 : decide (10000 < (b.length : Int)) = true := decide_eq_true (by omega)
    have d2 : decide (10000 < b.length) = true := decide_eq_true (by omega)
    clear hC hc hb hl
    go_enter Try.func22, Try.ntmps22
    go_wp2_with (go_at_call 74; (with_reducible refine (alive14 _).mono ?_); rintro e w8 ⟨rfl, hb⟩; have HB8 := Aside0.mk hb; clear hb)
    go_ret
    exact ⟨rfl, HB8.out⟩
end Go.Proofs.Ytlnpmodhejakiaa.AV
namespace Go.Proofs.Ytlnpmodhejakiaa.PV
open Go.RowKit Go.Proofs.YtlnpmodhejakiaaW.PrintWords Go.Proofs.YtlnpmodhejakiaaW.PrintLast Go.Proofs.YtlnpmodhejakiaaW.PrintMore Go.Proofs.Ytlnpmodhejakiaa.D Go.Proofs.Ytlnpmodhejakiaa.AV
open Classical in
noncomputable def stelelaw14_AuditReads.f (l0 : List Int) : Option Bool := if okL l0 then some true else none
theorem stelelaw14_AuditReads.calls (A0 : Option Addr) (c0 : Nat) (l0 : List Int) (r : Bool) (w : World) (hr0 : Kd.C (Kd.int .u8) w A0 l0.length l0) (hc0 : l0.length ≤ c0) (h : stelelaw14_AuditReads.f l0 = some r) :
    Calls Try.prog 22 #[.slice A0 l0.length c0] w fun e w' => e = .returned (.bool r) ∧ Below w.heap.size w w' := by
  unfold stelelaw14_AuditReads.f at h
  split at h
  · rename_i hh
    obtain rfl := Option.some.inj h
    exact reads_any A0 c0 l0 w hr0 hc0 hh
  · cases h
end Go.Proofs.Ytlnpmodhejakiaa.PV
