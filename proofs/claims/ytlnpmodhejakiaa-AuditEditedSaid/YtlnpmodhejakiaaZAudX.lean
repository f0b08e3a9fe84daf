/- audit.Next and steleref14.Next in plain words. -/
import Derived.Test.YtlnpmodhejakiaaZAudN
import Derived.Test.YtlnpmodhejakiaaZWb
import Derived.Test.YtlnpmodhejakiaaZShab
import Derived.Test.YtlnpmodhejakiaaZAudBb
namespace Go.Proofs.Ytlnpmodhejakiaa.AV
open Go.RowKit Go.Proofs.YtlnpmodhejakiaaW.PrintWords Go.Proofs.YtlnpmodhejakiaaW.PrintLast Go.Proofs.YtlnpmodhejakiaaW.PrintMore Go.Proofs.Ytlnpmodhejakiaa.Sha Go.Proofs.Ytlnpmodhejakiaa.D Go.Proofs.Ytlnpmodhejakiaa.PC Go.Proofs.Ytlnpmodhejakiaa.CP Go.Proofs.Ytlnpmodhejakiaa.PV
set_option linter.unusedVariables false
set_option linter.unusedSimpArgs false
theorem R_offg' {w : World} {base g : Nat} {v : Value} {l : List Int} (h : Kd.R (Kd.int .u8) 5 w base (fun _ => True) v l) (hg : g < base) (i : Nat) (u : Value) : Kd.R (Kd.int .u8) 5 (w.setCell ⟨g, i, none⟩ u) base (fun _ => True) v l :=
  Kd.R_mono (Kd.R_far (Kd.R_bound h) (p := ⟨g, i, none⟩) (fun k hk => by show k ≠ g; have := hk.2.1; omega) u) (fun _ _ => trivial)
theorem nextP_8 (l : List S69) (x : S69) : (nextP l x).f8 = x.f8 := by unfold nextP; split <;> rfl
theorem rdig32 (y : S69) (A8 : Option Addr) (c8 : Nat) (A9 : Option Addr) (c9 : Nat) (w : World) (h : RecC w y A8 c8 A9 c9) (hy : okX y) :
    Calls Try.prog 82 #[.agg #[.int .u64 y.f0, .int .u64 y.f1, .string y.f2, .int .i64 y.f3, .string y.f4, .string y.f5, .int .u64 y.f6, .int .i64 y.f7, .slice A8 y.f8.length c8, .slice A9 y.f9.length c9]] w fun e w' => ∃ B d, e = .returned (.slice B 32 d) ∧ Kd.R (Kd.int .u8) 5 w' w.heap.size (fun _ => True) (.slice B 32 d) (digP y) ∧ Below w.heap.size w w' :=
  (rdig_c y A8 c8 A9 c9 w h hy).mono fun e w' ⟨v, he, hr, hb⟩ => by
    obtain ⟨A, c, rfl, hc, hC⟩ := Kd.R_reads hr
    rw [digP_len] at *
    exact ⟨A, c, he, hr, hb⟩
set_option maxHeartbeats 16000000 in
set_option maxRecDepth 100000 in
theorem rnext_nil (A : Option Addr) (c : Nat) (x : S69) (A8 : Option Addr) (c8 : Nat) (A9 : Option Addr) (c9 : Nat) (w : World) :
    Calls Try.prog 77 #[.slice A 0 c, .agg #[.int .u64 x.f0, .int .u64 x.f1, .string x.f2, .int .i64 x.f3, .string x.f4, .string x.f5, .int .u64 x.f6, .int .i64 x.f7, .slice A8 x.f8.length c8, .slice A9 x.f9.length c9]] w fun e w' => e = .returned (.agg #[.int .u64 1, .int .u64 x.f1, .string x.f2, .int .i64 x.f3, .string x.f4, .string x.f5, .int .u64 x.f6, .int .i64 x.f7, .slice A8 x.f8.length c8, .slice none 0 0]) ∧ Below w.heap.size w w' := by
  have hu69 := Try.underlying69
  have HB := Aside0.mk (Below.refl w.heap.size w)
  go_enter Try.func77, Try.ntmps77
  go_wp2_with (first
    | ((with_reducible refine gate_dst (N := 3) rfl ?_); refine box_event ?hg (N := 3) ?hd (cs := #[.int .u64 x.f0, .int .u64 x.f1, .string x.f2, .int .i64 x.f3, .string x.f4, .string x.f5, .int .u64 x.f6, .int .i64 x.f7, .slice A8 x.f8.length c8, .slice A9 x.f9.length c9]) (t := 69) ?hr ?_; (case hd => rfl); (case hg => rfl); (case hr => first | (go_simp; done) | (go_simp; rfl)); intro g3 hg w3 hbox hb; have nb_ := Aside0.mk (below_step HB.out hb); have BK3 := Aside0.mk hbox; have GE3 := Aside0.mk (by rw [hg]; exact below_size HB.out : w.heap.size ≤ g3); clear HB; have HB := nb_; clear nb_ hb hbox hg; )
    | ((with_reducible refine gate_dst (N := 4) rfl ?_); refine box_event ?hg (N := 4) ?hd (cs := #[.int .u64 0, .int .u64 0, .string ⟨#[]⟩, .int .i64 0, .string ⟨#[]⟩, .string ⟨#[]⟩, .int .u64 0, .int .i64 0, .slice none 0 0, .slice none 0 0]) (t := 69) ?hr ?_; (case hd => rfl); (case hg => rfl); (case hr => first | (go_simp; done) | (go_simp; rfl)); intro g4 hg w4 hbox hb; have NE := Aside0.mk (by rw [hg]; exact Nat.ne_of_lt (blk_lt BK3.out) : g3 ≠ g4); have BK3' := Aside0.mk (blk_below BK3.out hb); clear BK3; have BK3 := BK3'; clear BK3'; have nb_ := Aside0.mk (below_step HB.out hb); have BK4 := Aside0.mk hbox; have GE4 := Aside0.mk (by rw [hg]; exact below_size HB.out : w.heap.size ≤ g4); clear HB; have HB := nb_; clear nb_ hb hbox hg; have hp0 : w4.cell? ⟨g3, 0, none⟩ = some (.int .u64 x.f0) := (blk_cell BK3.out 0).trans rfl; have hp1 : w4.cell? ⟨g3, 1, none⟩ = some (.int .u64 x.f1) := (blk_cell BK3.out 1).trans rfl; have hp2 : w4.cell? ⟨g3, 2, none⟩ = some (.string x.f2) := (blk_cell BK3.out 2).trans rfl; have hp3 : w4.cell? ⟨g3, 3, none⟩ = some (.int .i64 x.f3) := (blk_cell BK3.out 3).trans rfl; have hp4 : w4.cell? ⟨g3, 4, none⟩ = some (.string x.f4) := (blk_cell BK3.out 4).trans rfl; have hp5 : w4.cell? ⟨g3, 5, none⟩ = some (.string x.f5) := (blk_cell BK3.out 5).trans rfl; have hp6 : w4.cell? ⟨g3, 6, none⟩ = some (.int .u64 x.f6) := (blk_cell BK3.out 6).trans rfl; have hp7 : w4.cell? ⟨g3, 7, none⟩ = some (.int .i64 x.f7) := (blk_cell BK3.out 7).trans rfl; have hp8 : w4.cell? ⟨g3, 8, none⟩ = some (.slice A8 x.f8.length c8) := (blk_cell BK3.out 8).trans rfl; have hp9 : w4.cell? ⟨g3, 9, none⟩ = some (.slice A9 x.f9.length c9) := (blk_cell BK3.out 9).trans rfl; have fp0 := blk_frozen BK3.out 0; have fp1 := blk_frozen BK3.out 1; have fp2 := blk_frozen BK3.out 2; have fp3 := blk_frozen BK3.out 3; have fp4 := blk_frozen BK3.out 4; have fp5 := blk_frozen BK3.out 5; have fp6 := blk_frozen BK3.out 6; have fp7 := blk_frozen BK3.out 7; have fp8 := blk_frozen BK3.out 8; have fp9 := blk_frozen BK3.out 9; have hq0 : w4.cell? ⟨g4, 0, none⟩ = some (.int .u64 0) := (blk_cell BK4.out 0).trans rfl; have hq1 : w4.cell? ⟨g4, 1, none⟩ = some (.int .u64 0) := (blk_cell BK4.out 1).trans rfl; have hq2 : w4.cell? ⟨g4, 2, none⟩ = some (.string ⟨#[]⟩) := (blk_cell BK4.out 2).trans rfl; have hq3 : w4.cell? ⟨g4, 3, none⟩ = some (.int .i64 0) := (blk_cell BK4.out 3).trans rfl; have hq4 : w4.cell? ⟨g4, 4, none⟩ = some (.string ⟨#[]⟩) := (blk_cell BK4.out 4).trans rfl; have hq5 : w4.cell? ⟨g4, 5, none⟩ = some (.string ⟨#[]⟩) := (blk_cell BK4.out 5).trans rfl; have hq6 : w4.cell? ⟨g4, 6, none⟩ = some (.int .u64 0) := (blk_cell BK4.out 6).trans rfl; have hq7 : w4.cell? ⟨g4, 7, none⟩ = some (.int .i64 0) := (blk_cell BK4.out 7).trans rfl; have hq8 : w4.cell? ⟨g4, 8, none⟩ = some (.slice none 0 0) := (blk_cell BK4.out 8).trans rfl; have hq9 : w4.cell? ⟨g4, 9, none⟩ = some (.slice none 0 0) := (blk_cell BK4.out 9).trans rfl; have fq0 := blk_frozen BK4.out 0; have fq1 := blk_frozen BK4.out 1; have fq2 := blk_frozen BK4.out 2; have fq3 := blk_frozen BK4.out 3; have fq4 := blk_frozen BK4.out 4; have fq5 := blk_frozen BK4.out 5; have fq6 := blk_frozen BK4.out 6; have fq7 := blk_frozen BK4.out 7; have fq8 := blk_frozen BK4.out 8; have fq9 := blk_frozen BK4.out 9; have hne := NE.out; have hne' := Ne.symm NE.out))
  refine bodyPost_ret (results_cell_row rfl _ _ g4 69 #[.int .u64 1, .int .u64 x.f1, .string x.f2, .int .i64 x.f3, .string x.f4, .string x.f5, .int .u64 x.f6, .int .i64 x.f7, .slice A8 x.f8.length c8, .slice none 0 0] (0, 0) _ rfl (by refine blk_put (cs := #[.int .u64 1, .int .u64 x.f1, .string x.f2, .int .i64 x.f3, .string x.f4, .string x.f5, .int .u64 x.f6, .int .i64 x.f7, .slice A8 x.f8.length c8, .slice none 0 0]) ?_ 9 _ rfl; refine blk_put (cs := #[.int .u64 1, .int .u64 x.f1, .string x.f2, .int .i64 x.f3, .string x.f4, .string x.f5, .int .u64 x.f6, .int .i64 x.f7, .slice none 0 0, .slice none 0 0]) ?_ 8 _ rfl; refine blk_put (cs := #[.int .u64 1, .int .u64 x.f1, .string x.f2, .int .i64 x.f3, .string x.f4, .string x.f5, .int .u64 x.f6, .int .i64 0, .slice none 0 0, .slice none 0 0]) ?_ 7 _ rfl; refine blk_put (cs := #[.int .u64 1, .int .u64 x.f1, .string x.f2, .int .i64 x.f3, .string x.f4, .string x.f5, .int .u64 0, .int .i64 0, .slice none 0 0, .slice none 0 0]) ?_ 6 _ rfl; refine blk_put (cs := #[.int .u64 1, .int .u64 x.f1, .string x.f2, .int .i64 x.f3, .string x.f4, .string ⟨#[]⟩, .int .u64 0, .int .i64 0, .slice none 0 0, .slice none 0 0]) ?_ 5 _ rfl; refine blk_put (cs := #[.int .u64 1, .int .u64 x.f1, .string x.f2, .int .i64 x.f3, .string ⟨#[]⟩, .string ⟨#[]⟩, .int .u64 0, .int .i64 0, .slice none 0 0, .slice none 0 0]) ?_ 4 _ rfl; refine blk_put (cs := #[.int .u64 1, .int .u64 x.f1, .string x.f2, .int .i64 0, .string ⟨#[]⟩, .string ⟨#[]⟩, .int .u64 0, .int .i64 0, .slice none 0 0, .slice none 0 0]) ?_ 3 _ rfl; refine blk_put (cs := #[.int .u64 1, .int .u64 x.f1, .string ⟨#[]⟩, .int .i64 0, .string ⟨#[]⟩, .string ⟨#[]⟩, .int .u64 0, .int .i64 0, .slice none 0 0, .slice none 0 0]) ?_ 2 _ rfl; refine blk_put (cs := #[.int .u64 1, .int .u64 0, .string ⟨#[]⟩, .int .i64 0, .string ⟨#[]⟩, .string ⟨#[]⟩, .int .u64 0, .int .i64 0, .slice none 0 0, .slice none 0 0]) ?_ 1 _ rfl; refine blk_put (cs := #[.int .u64 0, .int .u64 0, .string ⟨#[]⟩, .int .i64 0, .string ⟨#[]⟩, .string ⟨#[]⟩, .int .u64 0, .int .i64 0, .slice none 0 0, .slice none 0 0]) ?_ 0 _ rfl; refine blk_far ?_ hne' _; refine blk_far ?_ hne' _; exact BK4.out) Try.underlying69 rfl (by kernel_rfl)) rfl ?_
  exact ⟨rfl, by repeat (first | (with_reducible first | exact HB.out | apply below_alloc | apply pw_below_drewN | apply below_drew1 | refine below_set ?_ GE3.out | refine below_set ?_ GE4.out | refine below_set ?_ GE5.out) | exact HB.out)⟩
set_option maxHeartbeats 32000000 in
set_option maxRecDepth 100000 in
theorem rnext_cons (A : Option Addr) (c : Nat) (l : List S69) (x : S69) (A8 : Option Addr) (c8 : Nat) (A9 : Option Addr) (c9 : Nat) (w : World) (hC : Kd.C k69 w A l.length l) (hc : l.length ≤ c) (hl : l.length ≤ 1000) (hpos : 0 < l.length) (y : S69) (hy : rd_T69 l ((l.length : Int) - 1) = y) (hok : okX y) :
    Calls Try.prog 77 #[.slice A l.length c, .agg #[.int .u64 x.f0, .int .u64 x.f1, .string x.f2, .int .i64 x.f3, .string x.f4, .string x.f5, .int .u64 x.f6, .int .i64 x.f7, .slice A8 x.f8.length c8, .slice A9 x.f9.length c9]] w fun e w' => ∃ B9 d9, e = .returned (.agg #[.int .u64 (IntKind.u64.wrap (y.f0 + 1)), .int .u64 x.f1, .string x.f2, .int .i64 x.f3, .string x.f4, .string x.f5, .int .u64 x.f6, .int .i64 x.f7, .slice A8 x.f8.length c8, .slice B9 32 d9]) ∧ Kd.R (Kd.int .u8) 5 w' w.heap.size (fun _ => True) (.slice B9 32 d9) (digP y) ∧ Below w.heap.size w w' := by
  have hu69 := Try.underlying69
  have HB := Aside0.mk (Below.refl w.heap.size w)
  have HY := Aside0.mk hok
  obtain ⟨ad, E8, e8, E9, e9, hA, hx0, hx1, hx2, hx3, hx4, hx5, hx6, hx7, hx8, hx9, l8, C8, l9, C9⟩ := at_T69 hC ((l.length : Int) - 1) (by omega) (by omega)
  subst hA
  rw [show ((l.length : Int) - 1).toNat = l.length - 1 by omega] at hx0 hx1 hx2 hx3 hx4 hx5 hx6 hx7 hx8 hx9
  rw [hy] at hx0 hx1 hx2 hx3 hx4 hx5 hx6 hx7 hx8 hx9 l8 C8 l9 C9
  have RY := Aside0.mk (show RecC w y E8 e8 E9 e9 from ⟨C8, l8, C9, l9⟩)
  have HX0 := Aside0.mk hx0
  have HX1 := Aside0.mk hx1
  have HX2 := Aside0.mk hx2
  have HX3 := Aside0.mk hx3
  have HX4 := Aside0.mk hx4
  have HX5 := Aside0.mk hx5
  have HX6 := Aside0.mk hx6
  have HX7 := Aside0.mk hx7
  have HX8 := Aside0.mk hx8
  have HX9 := Aside0.mk hx9
  have p1 : (0 : Int) ≤ (l.length : Int) - 1 := by omega
  have q1 : (l.length : Int) - 1 < (l.length : Int) := by omega
  have d0 : decide (0 < (l.length : Int)) = true := decide_eq_true (by omega)
  have d1 : decide (0 < l.length) = true := decide_eq_true hpos
  have hl63 : (l.length : Int) ≤ 1000 := by omega
  clear hC hc hl hpos hy hok l8 C8 l9 C9 hx0 hx1 hx2 hx3 hx4 hx5 hx6 hx7 hx8 hx9
  go_enter Try.func77, Try.ntmps77
  go_upto_region 2 with (first
    | ((with_reducible refine gate_dst (N := 3) rfl ?_); refine box_event ?hg (N := 3) ?hd (cs := #[.int .u64 x.f0, .int .u64 x.f1, .string x.f2, .int .i64 x.f3, .string x.f4, .string x.f5, .int .u64 x.f6, .int .i64 x.f7, .slice A8 x.f8.length c8, .slice A9 x.f9.length c9]) (t := 69) ?hr ?_; (case hd => rfl); (case hg => rfl); (case hr => first | (go_simp; done) | (go_simp; rfl)); intro g3 hg w3 hbox hb; have nb_ := Aside0.mk (below_step HB.out hb); have BK3 := Aside0.mk hbox; have GE3 := Aside0.mk (by rw [hg]; exact below_size HB.out : w.heap.size ≤ g3); clear HB; have HB := nb_; clear nb_ hb hbox hg; )
    | ((with_reducible refine gate_dst (N := 4) rfl ?_); refine box_event ?hg (N := 4) ?hd (cs := #[.int .u64 0, .int .u64 0, .string ⟨#[]⟩, .int .i64 0, .string ⟨#[]⟩, .string ⟨#[]⟩, .int .u64 0, .int .i64 0, .slice none 0 0, .slice none 0 0]) (t := 69) ?hr ?_; (case hd => rfl); (case hg => rfl); (case hr => first | (go_simp; done) | (go_simp; rfl)); intro g4 hg w4 hbox hb; have NE := Aside0.mk (by rw [hg]; exact Nat.ne_of_lt (blk_lt BK3.out) : g3 ≠ g4); have BK3' := Aside0.mk (blk_below BK3.out hb); clear BK3; have BK3 := BK3'; clear BK3'; have nb_ := Aside0.mk (below_step HB.out hb); have BK4 := Aside0.mk hbox; have GE4 := Aside0.mk (by rw [hg]; exact below_size HB.out : w.heap.size ≤ g4); clear HB; have HB := nb_; clear nb_ hb hbox hg; have hp0 : w4.cell? ⟨g3, 0, none⟩ = some (.int .u64 x.f0) := (blk_cell BK3.out 0).trans rfl; have hp1 : w4.cell? ⟨g3, 1, none⟩ = some (.int .u64 x.f1) := (blk_cell BK3.out 1).trans rfl; have hp2 : w4.cell? ⟨g3, 2, none⟩ = some (.string x.f2) := (blk_cell BK3.out 2).trans rfl; have hp3 : w4.cell? ⟨g3, 3, none⟩ = some (.int .i64 x.f3) := (blk_cell BK3.out 3).trans rfl; have hp4 : w4.cell? ⟨g3, 4, none⟩ = some (.string x.f4) := (blk_cell BK3.out 4).trans rfl; have hp5 : w4.cell? ⟨g3, 5, none⟩ = some (.string x.f5) := (blk_cell BK3.out 5).trans rfl; have hp6 : w4.cell? ⟨g3, 6, none⟩ = some (.int .u64 x.f6) := (blk_cell BK3.out 6).trans rfl; have hp7 : w4.cell? ⟨g3, 7, none⟩ = some (.int .i64 x.f7) := (blk_cell BK3.out 7).trans rfl; have hp8 : w4.cell? ⟨g3, 8, none⟩ = some (.slice A8 x.f8.length c8) := (blk_cell BK3.out 8).trans rfl; have hp9 : w4.cell? ⟨g3, 9, none⟩ = some (.slice A9 x.f9.length c9) := (blk_cell BK3.out 9).trans rfl; have fp0 := blk_frozen BK3.out 0; have fp1 := blk_frozen BK3.out 1; have fp2 := blk_frozen BK3.out 2; have fp3 := blk_frozen BK3.out 3; have fp4 := blk_frozen BK3.out 4; have fp5 := blk_frozen BK3.out 5; have fp6 := blk_frozen BK3.out 6; have fp7 := blk_frozen BK3.out 7; have fp8 := blk_frozen BK3.out 8; have fp9 := blk_frozen BK3.out 9; have hq0 : w4.cell? ⟨g4, 0, none⟩ = some (.int .u64 0) := (blk_cell BK4.out 0).trans rfl; have hq1 : w4.cell? ⟨g4, 1, none⟩ = some (.int .u64 0) := (blk_cell BK4.out 1).trans rfl; have hq2 : w4.cell? ⟨g4, 2, none⟩ = some (.string ⟨#[]⟩) := (blk_cell BK4.out 2).trans rfl; have hq3 : w4.cell? ⟨g4, 3, none⟩ = some (.int .i64 0) := (blk_cell BK4.out 3).trans rfl; have hq4 : w4.cell? ⟨g4, 4, none⟩ = some (.string ⟨#[]⟩) := (blk_cell BK4.out 4).trans rfl; have hq5 : w4.cell? ⟨g4, 5, none⟩ = some (.string ⟨#[]⟩) := (blk_cell BK4.out 5).trans rfl; have hq6 : w4.cell? ⟨g4, 6, none⟩ = some (.int .u64 0) := (blk_cell BK4.out 6).trans rfl; have hq7 : w4.cell? ⟨g4, 7, none⟩ = some (.int .i64 0) := (blk_cell BK4.out 7).trans rfl; have hq8 : w4.cell? ⟨g4, 8, none⟩ = some (.slice none 0 0) := (blk_cell BK4.out 8).trans rfl; have hq9 : w4.cell? ⟨g4, 9, none⟩ = some (.slice none 0 0) := (blk_cell BK4.out 9).trans rfl; have fq0 := blk_frozen BK4.out 0; have fq1 := blk_frozen BK4.out 1; have fq2 := blk_frozen BK4.out 2; have fq3 := blk_frozen BK4.out 3; have fq4 := blk_frozen BK4.out 4; have fq5 := blk_frozen BK4.out 5; have fq6 := blk_frozen BK4.out 6; have fq7 := blk_frozen BK4.out 7; have fq8 := blk_frozen BK4.out 8; have fq9 := blk_frozen BK4.out 9; have hne := NE.out; have hne' := Ne.symm NE.out))
  go_cut [] (fun wc => Aside0 (wc.heap[g3]? = some (.cells #[.int .u64 1, .int .u64 x.f1, .string x.f2, .int .i64 x.f3, .string x.f4, .string x.f5, .int .u64 x.f6, .int .i64 x.f7, .slice A8 x.f8.length c8, .slice none 0 0] 69 (0, 0))) ∧ Aside0 (wc.heap[g4]? = some (.cells #[.int .u64 0, .int .u64 0, .string ⟨#[]⟩, .int .i64 0, .string ⟨#[]⟩, .string ⟨#[]⟩, .int .u64 0, .int .i64 0, .slice none 0 0, .slice none 0 0] 69 (0, 0))) ∧ Aside0 (Below w.heap.size w wc))
  case first =>
    go_wp2
    go_meet
    case rel => exact ⟨⟨by refine blk_put (cs := #[.int .u64 1, .int .u64 x.f1, .string x.f2, .int .i64 x.f3, .string x.f4, .string x.f5, .int .u64 x.f6, .int .i64 x.f7, .slice A8 x.f8.length c8, .slice A9 x.f9.length c9]) ?_ 9 _ rfl; refine blk_put (cs := #[.int .u64 x.f0, .int .u64 x.f1, .string x.f2, .int .i64 x.f3, .string x.f4, .string x.f5, .int .u64 x.f6, .int .i64 x.f7, .slice A8 x.f8.length c8, .slice A9 x.f9.length c9]) ?_ 0 _ rfl; exact BK3.out⟩, ⟨by refine blk_far ?_ hne' _; refine blk_far ?_ hne' _; exact BK4.out⟩, ⟨by repeat (first | (with_reducible first | exact HB.out | apply below_alloc | apply pw_below_drewN | apply below_drew1 | refine below_set ?_ GE3.out | refine below_set ?_ GE4.out | refine below_set ?_ GE5.out) | exact HB.out)⟩⟩
  case rest =>
    obtain ⟨BK3, BK4, HB⟩ := hcut
    go_upto_region 4 with (fail)
    go_cut [5] (fun v5 wc => ∃ g5, v5 = .pointer (some ⟨g5, 0, none⟩) ∧ Aside0 (wc.heap[g5]? = some (.cells #[.int .u64 y.f0, .int .u64 y.f1, .string y.f2, .int .i64 y.f3, .string y.f4, .string y.f5, .int .u64 y.f6, .int .i64 y.f7, .slice E8 y.f8.length e8, .slice E9 y.f9.length e9] 69 (0, 0))) ∧ Aside0 (wc.heap[g3]? = some (.cells #[.int .u64 1, .int .u64 x.f1, .string x.f2, .int .i64 x.f3, .string x.f4, .string x.f5, .int .u64 x.f6, .int .i64 x.f7, .slice A8 x.f8.length c8, .slice none 0 0] 69 (0, 0))) ∧ Aside0 (wc.heap[g4]? = some (.cells #[.int .u64 0, .int .u64 0, .string ⟨#[]⟩, .int .i64 0, .string ⟨#[]⟩, .string ⟨#[]⟩, .int .u64 0, .int .i64 0, .slice none 0 0, .slice none 0 0] 69 (0, 0))) ∧ Aside0 (g3 ≠ g5) ∧ Aside0 (g4 ≠ g5) ∧ Aside0 (w.heap.size ≤ g5) ∧ Aside0 (Below w.heap.size w wc))
    case first =>
      have hx0 := (HB.out.cell (World.block_lt_of_cell? w _ HX0.out)).trans HX0.out
      have hx1 := (HB.out.cell (World.block_lt_of_cell? w _ HX1.out)).trans HX1.out
      have hx2 := (HB.out.cell (World.block_lt_of_cell? w _ HX2.out)).trans HX2.out
      have hx3 := (HB.out.cell (World.block_lt_of_cell? w _ HX3.out)).trans HX3.out
      have hx4 := (HB.out.cell (World.block_lt_of_cell? w _ HX4.out)).trans HX4.out
      have hx5 := (HB.out.cell (World.block_lt_of_cell? w _ HX5.out)).trans HX5.out
      have hx6 := (HB.out.cell (World.block_lt_of_cell? w _ HX6.out)).trans HX6.out
      have hx7 := (HB.out.cell (World.block_lt_of_cell? w _ HX7.out)).trans HX7.out
      have hx8 := (HB.out.cell (World.block_lt_of_cell? w _ HX8.out)).trans HX8.out
      have hx9 := (HB.out.cell (World.block_lt_of_cell? w _ HX9.out)).trans HX9.out
      go_wp2_with (first | ((with_reducible refine gate_dst (N := 5) rfl ?_); refine box_event ?hg (N := 5) ?hd (cs := #[.int .u64 0, .int .u64 0, .string ⟨#[]⟩, .int .i64 0, .string ⟨#[]⟩, .string ⟨#[]⟩, .int .u64 0, .int .i64 0, .slice none 0 0, .slice none 0 0]) (t := 69) ?hr ?_; (case hd => rfl); (case hg => rfl); (case hr => first | (go_simp; done) | (go_simp; rfl)); intro g5 hg w5 hbox hb; have N35 := Aside0.mk (by rw [hg]; exact Nat.ne_of_lt (blk_lt BK3.out) : g3 ≠ g5); have N45 := Aside0.mk (by rw [hg]; exact Nat.ne_of_lt (blk_lt BK4.out) : g4 ≠ g5); have BK3' := Aside0.mk (blk_below BK3.out hb); have BK4' := Aside0.mk (blk_below BK4.out hb); have nb_ := Aside0.mk (below_step HB.out hb); have BK5 := Aside0.mk hbox; have GE5 := Aside0.mk (by rw [hg]; exact below_size HB.out : w.heap.size ≤ g5); clear HB; have HB := nb_; clear nb_ hb hbox hg; have hz0 : w5.cell? ⟨g5, 0, none⟩ = some (.int .u64 0) := (blk_cell BK5.out 0).trans rfl; have hz1 : w5.cell? ⟨g5, 1, none⟩ = some (.int .u64 0) := (blk_cell BK5.out 1).trans rfl; have hz2 : w5.cell? ⟨g5, 2, none⟩ = some (.string ⟨#[]⟩) := (blk_cell BK5.out 2).trans rfl; have hz3 : w5.cell? ⟨g5, 3, none⟩ = some (.int .i64 0) := (blk_cell BK5.out 3).trans rfl; have hz4 : w5.cell? ⟨g5, 4, none⟩ = some (.string ⟨#[]⟩) := (blk_cell BK5.out 4).trans rfl; have hz5 : w5.cell? ⟨g5, 5, none⟩ = some (.string ⟨#[]⟩) := (blk_cell BK5.out 5).trans rfl; have hz6 : w5.cell? ⟨g5, 6, none⟩ = some (.int .u64 0) := (blk_cell BK5.out 6).trans rfl; have hz7 : w5.cell? ⟨g5, 7, none⟩ = some (.int .i64 0) := (blk_cell BK5.out 7).trans rfl; have hz8 : w5.cell? ⟨g5, 8, none⟩ = some (.slice none 0 0) := (blk_cell BK5.out 8).trans rfl; have hz9 : w5.cell? ⟨g5, 9, none⟩ = some (.slice none 0 0) := (blk_cell BK5.out 9).trans rfl; have fz0 := blk_frozen BK5.out 0; have fz1 := blk_frozen BK5.out 1; have fz2 := blk_frozen BK5.out 2; have fz3 := blk_frozen BK5.out 3; have fz4 := blk_frozen BK5.out 4; have fz5 := blk_frozen BK5.out 5; have fz6 := blk_frozen BK5.out 6; have fz7 := blk_frozen BK5.out 7; have fz8 := blk_frozen BK5.out 8; have fz9 := blk_frozen BK5.out 9))
      go_meet
      case rel => exact ⟨g5, rfl, ⟨by refine blk_put (cs := #[.int .u64 y.f0, .int .u64 y.f1, .string y.f2, .int .i64 y.f3, .string y.f4, .string y.f5, .int .u64 y.f6, .int .i64 y.f7, .slice E8 y.f8.length e8, .slice none 0 0]) ?_ 9 _ rfl; refine blk_put (cs := #[.int .u64 y.f0, .int .u64 y.f1, .string y.f2, .int .i64 y.f3, .string y.f4, .string y.f5, .int .u64 y.f6, .int .i64 y.f7, .slice none 0 0, .slice none 0 0]) ?_ 8 _ rfl; refine blk_put (cs := #[.int .u64 y.f0, .int .u64 y.f1, .string y.f2, .int .i64 y.f3, .string y.f4, .string y.f5, .int .u64 y.f6, .int .i64 0, .slice none 0 0, .slice none 0 0]) ?_ 7 _ rfl; refine blk_put (cs := #[.int .u64 y.f0, .int .u64 y.f1, .string y.f2, .int .i64 y.f3, .string y.f4, .string y.f5, .int .u64 0, .int .i64 0, .slice none 0 0, .slice none 0 0]) ?_ 6 _ rfl; refine blk_put (cs := #[.int .u64 y.f0, .int .u64 y.f1, .string y.f2, .int .i64 y.f3, .string y.f4, .string ⟨#[]⟩, .int .u64 0, .int .i64 0, .slice none 0 0, .slice none 0 0]) ?_ 5 _ rfl; refine blk_put (cs := #[.int .u64 y.f0, .int .u64 y.f1, .string y.f2, .int .i64 y.f3, .string ⟨#[]⟩, .string ⟨#[]⟩, .int .u64 0, .int .i64 0, .slice none 0 0, .slice none 0 0]) ?_ 4 _ rfl; refine blk_put (cs := #[.int .u64 y.f0, .int .u64 y.f1, .string y.f2, .int .i64 0, .string ⟨#[]⟩, .string ⟨#[]⟩, .int .u64 0, .int .i64 0, .slice none 0 0, .slice none 0 0]) ?_ 3 _ rfl; refine blk_put (cs := #[.int .u64 y.f0, .int .u64 y.f1, .string ⟨#[]⟩, .int .i64 0, .string ⟨#[]⟩, .string ⟨#[]⟩, .int .u64 0, .int .i64 0, .slice none 0 0, .slice none 0 0]) ?_ 2 _ rfl; refine blk_put (cs := #[.int .u64 y.f0, .int .u64 0, .string ⟨#[]⟩, .int .i64 0, .string ⟨#[]⟩, .string ⟨#[]⟩, .int .u64 0, .int .i64 0, .slice none 0 0, .slice none 0 0]) ?_ 1 _ rfl; refine blk_put (cs := #[.int .u64 0, .int .u64 0, .string ⟨#[]⟩, .int .i64 0, .string ⟨#[]⟩, .string ⟨#[]⟩, .int .u64 0, .int .i64 0, .slice none 0 0, .slice none 0 0]) ?_ 0 _ rfl; exact BK5.out⟩, ⟨by (iterate 10 (refine blk_far ?_ N35.out _)); exact BK3'.out⟩, ⟨by (iterate 10 (refine blk_far ?_ N45.out _)); exact BK4'.out⟩, N35, N45, GE5, ⟨by repeat (first | (with_reducible first | exact HB.out | apply below_alloc | apply pw_below_drewN | apply below_drew1 | refine below_set ?_ GE3.out | refine below_set ?_ GE4.out | refine below_set ?_ GE5.out) | exact HB.out)⟩⟩
    case rest =>
      obtain ⟨g5, rfl, BK5, BK3, BK4, N35, N45, GE5, HB⟩ := hcut
      have hn35 := N35.out
      have hn53 := Ne.symm N35.out
      have hn45 := N45.out
      have hn54 := Ne.symm N45.out
      have hu0 : wc.cell? ⟨g3, 0, none⟩ = some (.int .u64 1) := (blk_cell BK3.out 0).trans rfl
      have hu1 : wc.cell? ⟨g3, 1, none⟩ = some (.int .u64 x.f1) := (blk_cell BK3.out 1).trans rfl
      have hu2 : wc.cell? ⟨g3, 2, none⟩ = some (.string x.f2) := (blk_cell BK3.out 2).trans rfl
      have hu3 : wc.cell? ⟨g3, 3, none⟩ = some (.int .i64 x.f3) := (blk_cell BK3.out 3).trans rfl
      have hu4 : wc.cell? ⟨g3, 4, none⟩ = some (.string x.f4) := (blk_cell BK3.out 4).trans rfl
      have hu5 : wc.cell? ⟨g3, 5, none⟩ = some (.string x.f5) := (blk_cell BK3.out 5).trans rfl
      have hu6 : wc.cell? ⟨g3, 6, none⟩ = some (.int .u64 x.f6) := (blk_cell BK3.out 6).trans rfl
      have hu7 : wc.cell? ⟨g3, 7, none⟩ = some (.int .i64 x.f7) := (blk_cell BK3.out 7).trans rfl
      have hu8 : wc.cell? ⟨g3, 8, none⟩ = some (.slice A8 x.f8.length c8) := (blk_cell BK3.out 8).trans rfl
      have hu9 : wc.cell? ⟨g3, 9, none⟩ = some (.slice none 0 0) := (blk_cell BK3.out 9).trans rfl
      have fu0 := blk_frozen BK3.out 0
      have fu1 := blk_frozen BK3.out 1
      have fu2 := blk_frozen BK3.out 2
      have fu3 := blk_frozen BK3.out 3
      have fu4 := blk_frozen BK3.out 4
      have fu5 := blk_frozen BK3.out 5
      have fu6 := blk_frozen BK3.out 6
      have fu7 := blk_frozen BK3.out 7
      have fu8 := blk_frozen BK3.out 8
      have fu9 := blk_frozen BK3.out 9
      have hv0 : wc.cell? ⟨g5, 0, none⟩ = some (.int .u64 y.f0) := (blk_cell BK5.out 0).trans rfl
      have hv1 : wc.cell? ⟨g5, 1, none⟩ = some (.int .u64 y.f1) := (blk_cell BK5.out 1).trans rfl
      have hv2 : wc.cell? ⟨g5, 2, none⟩ = some (.string y.f2) := (blk_cell BK5.out 2).trans rfl
      have hv3 : wc.cell? ⟨g5, 3, none⟩ = some (.int .i64 y.f3) := (blk_cell BK5.out 3).trans rfl
      have hv4 : wc.cell? ⟨g5, 4, none⟩ = some (.string y.f4) := (blk_cell BK5.out 4).trans rfl
      have hv5 : wc.cell? ⟨g5, 5, none⟩ = some (.string y.f5) := (blk_cell BK5.out 5).trans rfl
      have hv6 : wc.cell? ⟨g5, 6, none⟩ = some (.int .u64 y.f6) := (blk_cell BK5.out 6).trans rfl
      have hv7 : wc.cell? ⟨g5, 7, none⟩ = some (.int .i64 y.f7) := (blk_cell BK5.out 7).trans rfl
      have hv8 : wc.cell? ⟨g5, 8, none⟩ = some (.slice E8 y.f8.length e8) := (blk_cell BK5.out 8).trans rfl
      have hv9 : wc.cell? ⟨g5, 9, none⟩ = some (.slice E9 y.f9.length e9) := (blk_cell BK5.out 9).trans rfl
      have fv0 := blk_frozen BK5.out 0
      have fv1 := blk_frozen BK5.out 1
      have fv2 := blk_frozen BK5.out 2
      have fv3 := blk_frozen BK5.out 3
      have fv4 := blk_frozen BK5.out 4
      have fv5 := blk_frozen BK5.out 5
      have fv6 := blk_frozen BK5.out 6
      have fv7 := blk_frozen BK5.out 7
      have fv8 := blk_frozen BK5.out 8
      have fv9 := blk_frozen BK5.out 9
      go_upto_region 6 with (fail)
      go_cut [] (fun wc => ∃ B9 d9, Aside0 (wc.heap[g3]? = some (.cells #[.int .u64 (IntKind.u64.wrap (y.f0 + 1)), .int .u64 x.f1, .string x.f2, .int .i64 x.f3, .string x.f4, .string x.f5, .int .u64 x.f6, .int .i64 x.f7, .slice A8 x.f8.length c8, .slice B9 32 d9] 69 (0, 0))) ∧ Aside0 (wc.heap[g4]? = some (.cells #[.int .u64 0, .int .u64 0, .string ⟨#[]⟩, .int .i64 0, .string ⟨#[]⟩, .string ⟨#[]⟩, .int .u64 0, .int .i64 0, .slice none 0 0, .slice none 0 0] 69 (0, 0))) ∧ Aside0 (∃ base, Kd.R (Kd.int .u8) 5 wc base (fun _ => True) (.slice B9 32 d9) (digP y) ∧ g3 < base ∧ g4 < base) ∧ Aside0 (Below w.heap.size w wc))
      case first =>
        go_wp2_with (first
          | (go_at_call 82; go_loud ((with_reducible refine (rdig32 y E8 e8 E9 e9 _ (RY.out.below (below_set HB.out GE3.out)) HY.out).mono ?_); rintro e w6 ⟨B9, d9, rfl, hC9, hb⟩; have BK3' := Aside0.mk (blk_below (g := g3) (o := .cells #[.int .u64 (IntKind.u64.wrap (y.f0 + 1)), .int .u64 x.f1, .string x.f2, .int .i64 x.f3, .string x.f4, .string x.f5, .int .u64 x.f6, .int .i64 x.f7, .slice A8 x.f8.length c8, .slice none 0 0] 69 (0, 0)) (by refine blk_put (cs := #[.int .u64 1, .int .u64 x.f1, .string x.f2, .int .i64 x.f3, .string x.f4, .string x.f5, .int .u64 x.f6, .int .i64 x.f7, .slice A8 x.f8.length c8, .slice none 0 0]) ?_ 0 _ rfl; exact BK3.out) hb); have BK4' := Aside0.mk (blk_below (g := g4) (o := .cells #[.int .u64 0, .int .u64 0, .string ⟨#[]⟩, .int .i64 0, .string ⟨#[]⟩, .string ⟨#[]⟩, .int .u64 0, .int .i64 0, .slice none 0 0, .slice none 0 0] 69 (0, 0)) (by refine blk_far ?_ (Ne.symm NE.out) _; exact BK4.out) hb); have HB' := Aside0.mk (below_step (below_set HB.out GE3.out) hb); have HC := Aside0.mk hC9; have G3 := Aside0.mk (show g3 < (wc.setCell ⟨g3, 0, none⟩ (.int .u64 (IntKind.u64.wrap (y.f0 + 1)))).heap.size from blk_lt (blk_put (cs := #[.int .u64 1, .int .u64 x.f1, .string x.f2, .int .i64 x.f3, .string x.f4, .string x.f5, .int .u64 x.f6, .int .i64 x.f7, .slice A8 x.f8.length c8, .slice none 0 0]) BK3.out 0 _ rfl)); have G4 := Aside0.mk (show g4 < (wc.setCell ⟨g3, 0, none⟩ (.int .u64 (IntKind.u64.wrap (y.f0 + 1)))).heap.size from blk_lt (blk_far BK4.out (Ne.symm NE.out) _)); clear hb hC9; have hz9 : w6.cell? ⟨g3, 9, none⟩ = some (.slice none 0 0) := (blk_cell BK3'.out 9).trans rfl; have fz9 := blk_frozen BK3'.out 9)))
        go_meet
        case rel => exact ⟨B9, d9, ⟨by refine blk_put (cs := #[.int .u64 (IntKind.u64.wrap (y.f0 + 1)), .int .u64 x.f1, .string x.f2, .int .i64 x.f3, .string x.f4, .string x.f5, .int .u64 x.f6, .int .i64 x.f7, .slice A8 x.f8.length c8, .slice none 0 0]) ?_ 9 _ rfl; exact BK3'.out⟩, ⟨by refine blk_far ?_ (Ne.symm NE.out) _; exact BK4'.out⟩, ⟨_, R_offg' HC.out G3.out 9 _, G3.out, G4.out⟩, ⟨below_set HB'.out GE3.out⟩⟩
      case rest =>
        obtain ⟨B9, d9, BK3, BK4, HC, HB⟩ := hcut
        have hs0 : wc.cell? ⟨g3, 0, none⟩ = some (.int .u64 (IntKind.u64.wrap (y.f0 + 1))) := (blk_cell BK3.out 0).trans rfl
        have hs1 : wc.cell? ⟨g3, 1, none⟩ = some (.int .u64 x.f1) := (blk_cell BK3.out 1).trans rfl
        have hs2 : wc.cell? ⟨g3, 2, none⟩ = some (.string x.f2) := (blk_cell BK3.out 2).trans rfl
        have hs3 : wc.cell? ⟨g3, 3, none⟩ = some (.int .i64 x.f3) := (blk_cell BK3.out 3).trans rfl
        have hs4 : wc.cell? ⟨g3, 4, none⟩ = some (.string x.f4) := (blk_cell BK3.out 4).trans rfl
        have hs5 : wc.cell? ⟨g3, 5, none⟩ = some (.string x.f5) := (blk_cell BK3.out 5).trans rfl
        have hs6 : wc.cell? ⟨g3, 6, none⟩ = some (.int .u64 x.f6) := (blk_cell BK3.out 6).trans rfl
        have hs7 : wc.cell? ⟨g3, 7, none⟩ = some (.int .i64 x.f7) := (blk_cell BK3.out 7).trans rfl
        have hs8 : wc.cell? ⟨g3, 8, none⟩ = some (.slice A8 x.f8.length c8) := (blk_cell BK3.out 8).trans rfl
        have hs9 : wc.cell? ⟨g3, 9, none⟩ = some (.slice B9 32 d9) := (blk_cell BK3.out 9).trans rfl
        have fs0 := blk_frozen BK3.out 0
        have fs1 := blk_frozen BK3.out 1
        have fs2 := blk_frozen BK3.out 2
        have fs3 := blk_frozen BK3.out 3
        have fs4 := blk_frozen BK3.out 4
        have fs5 := blk_frozen BK3.out 5
        have fs6 := blk_frozen BK3.out 6
        have fs7 := blk_frozen BK3.out 7
        have fs8 := blk_frozen BK3.out 8
        have fs9 := blk_frozen BK3.out 9
        have ht0 : wc.cell? ⟨g4, 0, none⟩ = some (.int .u64 0) := (blk_cell BK4.out 0).trans rfl
        have ht1 : wc.cell? ⟨g4, 1, none⟩ = some (.int .u64 0) := (blk_cell BK4.out 1).trans rfl
        have ht2 : wc.cell? ⟨g4, 2, none⟩ = some (.string ⟨#[]⟩) := (blk_cell BK4.out 2).trans rfl
        have ht3 : wc.cell? ⟨g4, 3, none⟩ = some (.int .i64 0) := (blk_cell BK4.out 3).trans rfl
        have ht4 : wc.cell? ⟨g4, 4, none⟩ = some (.string ⟨#[]⟩) := (blk_cell BK4.out 4).trans rfl
        have ht5 : wc.cell? ⟨g4, 5, none⟩ = some (.string ⟨#[]⟩) := (blk_cell BK4.out 5).trans rfl
        have ht6 : wc.cell? ⟨g4, 6, none⟩ = some (.int .u64 0) := (blk_cell BK4.out 6).trans rfl
        have ht7 : wc.cell? ⟨g4, 7, none⟩ = some (.int .i64 0) := (blk_cell BK4.out 7).trans rfl
        have ht8 : wc.cell? ⟨g4, 8, none⟩ = some (.slice none 0 0) := (blk_cell BK4.out 8).trans rfl
        have ht9 : wc.cell? ⟨g4, 9, none⟩ = some (.slice none 0 0) := (blk_cell BK4.out 9).trans rfl
        have ft0 := blk_frozen BK4.out 0
        have ft1 := blk_frozen BK4.out 1
        have ft2 := blk_frozen BK4.out 2
        have ft3 := blk_frozen BK4.out 3
        have ft4 := blk_frozen BK4.out 4
        have ft5 := blk_frozen BK4.out 5
        have ft6 := blk_frozen BK4.out 6
        have ft7 := blk_frozen BK4.out 7
        have ft8 := blk_frozen BK4.out 8
        have ft9 := blk_frozen BK4.out 9
        have hne := NE.out
        have hne' := Ne.symm NE.out
        go_wp2
        refine bodyPost_ret (results_cell_row rfl _ _ g4 69 #[.int .u64 (IntKind.u64.wrap (y.f0 + 1)), .int .u64 x.f1, .string x.f2, .int .i64 x.f3, .string x.f4, .string x.f5, .int .u64 x.f6, .int .i64 x.f7, .slice A8 x.f8.length c8, .slice B9 32 d9] (0, 0) _ rfl (by refine blk_put (cs := #[.int .u64 (IntKind.u64.wrap (y.f0 + 1)), .int .u64 x.f1, .string x.f2, .int .i64 x.f3, .string x.f4, .string x.f5, .int .u64 x.f6, .int .i64 x.f7, .slice A8 x.f8.length c8, .slice none 0 0]) ?_ 9 _ rfl; refine blk_put (cs := #[.int .u64 (IntKind.u64.wrap (y.f0 + 1)), .int .u64 x.f1, .string x.f2, .int .i64 x.f3, .string x.f4, .string x.f5, .int .u64 x.f6, .int .i64 x.f7, .slice none 0 0, .slice none 0 0]) ?_ 8 _ rfl; refine blk_put (cs := #[.int .u64 (IntKind.u64.wrap (y.f0 + 1)), .int .u64 x.f1, .string x.f2, .int .i64 x.f3, .string x.f4, .string x.f5, .int .u64 x.f6, .int .i64 0, .slice none 0 0, .slice none 0 0]) ?_ 7 _ rfl; refine blk_put (cs := #[.int .u64 (IntKind.u64.wrap (y.f0 + 1)), .int .u64 x.f1, .string x.f2, .int .i64 x.f3, .string x.f4, .string x.f5, .int .u64 0, .int .i64 0, .slice none 0 0, .slice none 0 0]) ?_ 6 _ rfl; refine blk_put (cs := #[.int .u64 (IntKind.u64.wrap (y.f0 + 1)), .int .u64 x.f1, .string x.f2, .int .i64 x.f3, .string x.f4, .string ⟨#[]⟩, .int .u64 0, .int .i64 0, .slice none 0 0, .slice none 0 0]) ?_ 5 _ rfl; refine blk_put (cs := #[.int .u64 (IntKind.u64.wrap (y.f0 + 1)), .int .u64 x.f1, .string x.f2, .int .i64 x.f3, .string ⟨#[]⟩, .string ⟨#[]⟩, .int .u64 0, .int .i64 0, .slice none 0 0, .slice none 0 0]) ?_ 4 _ rfl; refine blk_put (cs := #[.int .u64 (IntKind.u64.wrap (y.f0 + 1)), .int .u64 x.f1, .string x.f2, .int .i64 0, .string ⟨#[]⟩, .string ⟨#[]⟩, .int .u64 0, .int .i64 0, .slice none 0 0, .slice none 0 0]) ?_ 3 _ rfl; refine blk_put (cs := #[.int .u64 (IntKind.u64.wrap (y.f0 + 1)), .int .u64 x.f1, .string ⟨#[]⟩, .int .i64 0, .string ⟨#[]⟩, .string ⟨#[]⟩, .int .u64 0, .int .i64 0, .slice none 0 0, .slice none 0 0]) ?_ 2 _ rfl; refine blk_put (cs := #[.int .u64 (IntKind.u64.wrap (y.f0 + 1)), .int .u64 0, .string ⟨#[]⟩, .int .i64 0, .string ⟨#[]⟩, .string ⟨#[]⟩, .int .u64 0, .int .i64 0, .slice none 0 0, .slice none 0 0]) ?_ 1 _ rfl; refine blk_put (cs := #[.int .u64 0, .int .u64 0, .string ⟨#[]⟩, .int .i64 0, .string ⟨#[]⟩, .string ⟨#[]⟩, .int .u64 0, .int .i64 0, .slice none 0 0, .slice none 0 0]) ?_ 0 _ rfl; exact BK4.out) Try.underlying69 rfl (by kernel_rfl)) rfl ?_
        obtain ⟨base, hR, hg3, hg4⟩ := HC.out
        exact ⟨B9, d9, rfl, Kd.R_lower ((R_offg' (R_offg' (R_offg' (R_offg' (R_offg' (R_offg' (R_offg' (R_offg' (R_offg' (R_offg' hR hg4 0 (.int .u64 (IntKind.u64.wrap (y.f0 + 1)))) hg4 1 (.int .u64 x.f1)) hg4 2 (.string x.f2)) hg4 3 (.int .i64 x.f3)) hg4 4 (.string x.f4)) hg4 5 (.string x.f5)) hg4 6 (.int .u64 x.f6)) hg4 7 (.int .i64 x.f7)) hg4 8 (.slice A8 x.f8.length c8)) hg4 9 (.slice B9 32 d9))) (by have := GE3.out; omega), by repeat (first | (with_reducible first | exact HB.out | apply below_alloc | apply pw_below_drewN | apply below_drew1 | refine below_set ?_ GE3.out | refine below_set ?_ GE4.out | refine below_set ?_ GE5.out) | exact HB.out)⟩
theorem nextP_nil (x : S69) : nextP [] x = ⟨1, x.f1, x.f2, x.f3, x.f4, x.f5, x.f6, x.f7, x.f8, []⟩ := rfl
theorem rnext_m (A : Option Addr) (c : Nat) (l : List S69) (x : S69) (A8 : Option Addr) (c8 : Nat) (A9 : Option Addr) (c9 : Nat) (w : World) (hC : Kd.C k69 w A l.length l) (hc : l.length ≤ c) (hl : l.length ≤ 1000) (hs : ∀ y ∈ l, okX y) (h : RecC w x A8 c8 A9 c9) :
    Calls Try.prog 77 #[.slice A l.length c, .agg #[.int .u64 x.f0, .int .u64 x.f1, .string x.f2, .int .i64 x.f3, .string x.f4, .string x.f5, .int .u64 x.f6, .int .i64 x.f7, .slice A8 x.f8.length c8, .slice A9 x.f9.length c9]] w fun e w' => ∃ B9 d9, e = .returned (.agg #[.int .u64 (nextP l x).f0, .int .u64 (nextP l x).f1, .string (nextP l x).f2, .int .i64 (nextP l x).f3, .string (nextP l x).f4, .string (nextP l x).f5, .int .u64 (nextP l x).f6, .int .i64 (nextP l x).f7, .slice A8 (nextP l x).f8.length c8, .slice B9 (nextP l x).f9.length d9]) ∧ Kd.R (Kd.int .u8) 5 w' w.heap.size (fun _ => True) (.slice B9 (nextP l x).f9.length d9) (nextP l x).f9 ∧ Below w.heap.size w w' := by
  rcases List.eq_nil_or_concat l with rfl | ⟨m, y, rfl⟩
  · refine (rnext_nil A c x A8 c8 A9 c9 w).mono fun e w' ⟨he, hb⟩ => ⟨none, 0, he, ?_, hb⟩
    rw [nextP_nil]
    exact Kd.R_nil _ _ _ _ _
  · rw [List.concat_eq_append] at *
    have hy : rd_T69 (m ++ [y]) (((m ++ [y]).length : Int) - 1) = y := by
      rw [List.length_append, List.length_singleton, show (((m.length + 1 : Nat) : Int) - 1) = (m.length : Int) by omega, rdT _ m.length (by simp)]
      simp
    refine (rnext_cons A c (m ++ [y]) x A8 c8 A9 c9 w hC hc hl (by simp) y hy (hs y (by simp))).mono fun e w' ⟨B9, d9, he, hR9, hb⟩ => ⟨B9, d9, ?_, ?_, hb⟩
    · rw [nextP_snoc]; exact he
    · rw [nextP_snoc]; exact hR9
end Go.Proofs.Ytlnpmodhejakiaa.AV
