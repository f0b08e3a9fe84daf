/- The law RecordsShows: its function. -/
import Derived.Test.YtlnpmodhejakiaaYRecK
import Derived.Test.YtlnpmodhejakiaaYMc
import Derived.Test.YtlnpmodhejakiaaYPXx2
namespace Go.Proofs.Ytlnpmodhejakiaa.RW
open Go.RowKit Go.Proofs.YtlnpmodhejakiaaW.PrintWords Go.Proofs.YtlnpmodhejakiaaW.PrintLast Go.Proofs.YtlnpmodhejakiaaW.PrintMore Go.Proofs.Ytlnpmodhejakiaa.Sha Go.Proofs.Ytlnpmodhejakiaa.D Go.Proofs.Ytlnpmodhejakiaa.PC Go.Proofs.Ytlnpmodhejakiaa.CP
open Go.Proofs.Ytlnpmodhejakiaa.AV (pos pos_wrap bsame_c)
open Go.Proofs.Ytlnpmodhejakiaa.PX
set_option linter.unusedVariables false
set_option linter.unusedSimpArgs false
theorem bsame_t (A : Option Addr) (c : Nat) (l : List Int) (A1 : Option Addr) (c1 : Nat) (w : World) (hC : Kd.C (Kd.int .u8) w A l.length l) (hc : l.length ≤ c) (hC1 : Kd.C (Kd.int .u8) w A1 l.length l) (hc1 : l.length ≤ c1) (hl : l.length ≤ 140737488355328) :
    Calls Try.prog 29 #[.slice A l.length c, .slice A1 l.length c1] w fun e w' => e = .returned (.bool true) ∧ Below w.heap.size w w' :=
  (bsame_c A c l A1 c1 l w hC hc hC1 hc1 hl).mono fun e w' ⟨he, hb⟩ => ⟨by rw [he, beq_self_eq_true], hb⟩
theorem R_to_C (l : List Int) (W : World) (e : Ending) (w' : World) (h : ∃ v0_ : Value, e = .returned (v0_) ∧ Kd.R (Kd.int .u8) 5 w' W.heap.size (fun _ => True) v0_ l ∧ Below W.heap.size W w') : ∃ A c, e = .returned (.slice A l.length c) ∧ l.length ≤ c ∧ Kd.C (Kd.int .u8) w' A l.length l ∧ Below W.heap.size W w' := by
  obtain ⟨v, rfl, hR, hb⟩ := h
  obtain ⟨A, c, rfl, hc, hC⟩ := Kd.R_reads hR
  exact ⟨A, c, rfl, hc, hC, hb⟩
theorem r_text (out : List Int) (s : ByteArray) (h : out.length + s.size + 9 ≤ 140737488355000) : steleref02_Text.f out s = some (textL out s) := by unfold steleref02_Text.f; exact if_pos h
theorem r_num (out : List Int) (a : Int) (ha : a ≤ 9223372036854775807) (h : out.length + 9 ≤ 140737488355000) : steleref19_num.f 9 out a = some (uintL out (pos a)) := by
  unfold steleref19_num.f
  rw [pos_wrap a ha, r_uint 9 (Nat.le_refl _) out _ h]
  rfl
theorem rshowB (b0 : ByteArray) (b1 : Int) (b2 b3 : Bool) (b4 b5 : Int) (b6 : ByteArray) (b7 b8 : Int) (hz : b0.size + b6.size + 200 ≤ 140737488355000) (i1 : b1 ≤ 9223372036854775807) (i4 : b4 ≤ 9223372036854775807) (i5 : b5 ≤ 9223372036854775807) (i7 : b7 ≤ 9223372036854775807) (i8 : b8 ≤ 9223372036854775807) :
    steleref19_ShowBucket.f 9 b0 b1 b2 b3 b4 b5 b6 b7 b8 = some (bucketL b0 b1 b2 b3 b4 b5 b6 b7 b8) := by
  unfold steleref19_ShowBucket.f bucketL
  rw [r_text _ _ (by simp only [uintL_len, textL_len, boolL_len, List.length_nil]; omega)]; dsimp only [Option.bind]
  rw [r_num _ _ i1 (by simp only [uintL_len, textL_len, boolL_len, List.length_nil]; omega)]; dsimp only [Option.bind]
  rw [r_bool _ _ (by simp only [uintL_len, textL_len, boolL_len, List.length_nil]; omega)]; dsimp only [Option.bind]
  rw [r_bool _ _ (by simp only [uintL_len, textL_len, boolL_len, List.length_nil]; omega)]; dsimp only [Option.bind]
  rw [r_num _ _ i4 (by simp only [uintL_len, textL_len, boolL_len, List.length_nil]; omega)]; dsimp only [Option.bind]
  rw [r_num _ _ i5 (by simp only [uintL_len, textL_len, boolL_len, List.length_nil]; omega)]; dsimp only [Option.bind]
  rw [r_text _ _ (by simp only [uintL_len, textL_len, boolL_len, List.length_nil]; omega)]; dsimp only [Option.bind]
  rw [r_num _ _ i7 (by simp only [uintL_len, textL_len, boolL_len, List.length_nil]; omega)]; dsimp only [Option.bind]
  rw [r_num _ _ i8 (by simp only [uintL_len, textL_len, boolL_len, List.length_nil]; omega)]
theorem rshowV (v0 v1 : ByteArray) (v2 v3 : Int) (v4 : Bool) (l5 : List Int) (v6 v7 : Int) (v8 : Bool) (v9 : Int) (hz : v0.size + v1.size + 200 ≤ 140737488355000) (i6 : v6 ≤ 9223372036854775807) :
    steleref19_ShowVersion.f 9 v0 v1 v2 v3 v4 l5 v6 v7 v8 v9 = some (versionL v0 v1 v2 v3 v4 v6 v7 v8 v9) := by
  unfold steleref19_ShowVersion.f versionL
  rw [r_text _ _ (by simp only [uintL_len, textL_len, boolL_len, List.length_nil]; omega)]; dsimp only [Option.bind]
  rw [r_text _ _ (by simp only [uintL_len, textL_len, boolL_len, List.length_nil]; omega)]; dsimp only [Option.bind]
  rw [r_uint 9 (Nat.le_refl _) _ _ (by simp only [uintL_len, textL_len, boolL_len, List.length_nil]; omega)]; dsimp only [Option.bind]
  rw [r_uint 9 (Nat.le_refl _) _ _ (by simp only [uintL_len, textL_len, boolL_len, List.length_nil]; omega)]; dsimp only [Option.bind]
  rw [r_bool _ _ (by simp only [uintL_len, textL_len, boolL_len, List.length_nil]; omega)]; dsimp only [Option.bind]
  rw [r_num _ _ i6 (by simp only [uintL_len, textL_len, boolL_len, List.length_nil]; omega)]; dsimp only [Option.bind]
  rw [r_uint 9 (Nat.le_refl _) _ _ (by simp only [uintL_len, textL_len, boolL_len, List.length_nil]; omega)]; dsimp only [Option.bind]
  rw [r_bool _ _ (by simp only [uintL_len, textL_len, boolL_len, List.length_nil]; omega)]; dsimp only [Option.bind]
  rw [r_uint 9 (Nat.le_refl _) _ _ (by simp only [uintL_len, textL_len, boolL_len, List.length_nil]; omega)]
theorem rshowU (u0 u1 : ByteArray) (u2 u3 : Int) (l4 : List S195) (hz : u0.size + u1.size + 200 ≤ 140737488355000) :
    steleref19_ShowUpload.f 9 u0 u1 u2 u3 l4 = some (uploadL u0 u1 u2 u3) := by
  unfold steleref19_ShowUpload.f uploadL
  rw [r_text _ _ (by simp only [uintL_len, textL_len, boolL_len, List.length_nil]; omega)]; dsimp only [Option.bind]
  rw [r_text _ _ (by simp only [uintL_len, textL_len, boolL_len, List.length_nil]; omega)]; dsimp only [Option.bind]
  rw [r_uint 9 (Nat.le_refl _) _ _ (by simp only [uintL_len, textL_len, boolL_len, List.length_nil]; omega)]; dsimp only [Option.bind]
  rw [r_uint 9 (Nat.le_refl _) _ _ (by simp only [uintL_len, textL_len, boolL_len, List.length_nil]; omega)]
theorem rshowS (m0 : List S89) (m1 : List S95) (m2 : List S101) (s3 s4 : Int) : steleref19_ShowClock.f 9 m0 m1 m2 s3 s4 = some (clockL s3 s4) := by
  unfold steleref19_ShowClock.f clockL
  rw [r_uint 9 (Nat.le_refl _) _ _ (by simp only [uintL_len, textL_len, boolL_len, List.length_nil]; omega)]; dsimp only [Option.bind]
  rw [r_uint 9 (Nat.le_refl _) _ _ (by simp only [uintL_len, textL_len, boolL_len, List.length_nil]; omega)]
set_option maxHeartbeats 64000000 in
set_option maxRecDepth 100000 in
theorem recshows_any (b0 : ByteArray) (b1 : Int) (b2 b3 : Bool) (b4 b5 : Int) (b6 : ByteArray) (b7 b8 : Int) (v0 v1 : ByteArray) (v2 v3 : Int) (v4 : Bool) (A5 : Option Addr) (c5 : Nat) (l5 : List Int) (v6 v7 : Int) (v8 : Bool) (v9 : Int) (u0 u1 : ByteArray) (u2 u3 : Int) (A4 : Option Addr) (c4 : Nat) (l4 : List S195)
    (S0 : Option Addr) (d0 : Nat) (m0 : List S89) (S1 : Option Addr) (d1 : Nat) (m1 : List S95) (S2 : Option Addr) (d2 : Nat) (m2 : List S101) (s3 s4 : Int) (w : World)
    (hv : Kd.C (Kd.int .u8) w A5 l5.length l5) (hcv : l5.length ≤ c5) (hu : Kd.C k195 w A4 l4.length l4) (hcu : l4.length ≤ c4) (h0 : Kd.C k89 w S0 m0.length m0) (hc0 : m0.length ≤ d0) (h1 : Kd.C k95 w S1 m1.length m1) (hc1 : m1.length ≤ d1) (h2 : Kd.C k101 w S2 m2.length m2) (hc2 : m2.length ≤ d2)
    (hz : b0.size + b6.size ≤ 140737488354000 ∧ v0.size + v1.size ≤ 140737488354000 ∧ u0.size + u1.size ≤ 140737488354000) (hi : b1 ≤ 9223372036854775807 ∧ b4 ≤ 9223372036854775807 ∧ b5 ≤ 9223372036854775807 ∧ b7 ≤ 9223372036854775807 ∧ b8 ≤ 9223372036854775807 ∧ v6 ≤ 9223372036854775807) :
    Calls Try.prog 25 #[.agg #[.string b0, .int .i64 b1, .bool b2, .bool b3, .int .i64 b4, .int .i64 b5, .string b6, .int .i64 b7, .int .i64 b8], .agg #[.string v0, .string v1, .int .u64 v2, .int .u64 v3, .bool v4, .slice A5 l5.length c5, .int .i64 v6, .int .u64 v7, .bool v8, .int .u64 v9], .agg #[.string u0, .string u1, .int .u64 u2, .int .u64 u3, .slice A4 l4.length c4], .agg #[.slice S0 m0.length d0, .slice S1 m1.length d1, .slice S2 m2.length d2, .int .u64 s3, .int .u64 s4]] w fun e w' => e = .returned (.bool true) ∧ Below w.heap.size w w' := by
  have hu1 := Try.underlying89
  have hu2 := Try.underlying95
  have hu3 := Try.underlying101
  have hu4 := Try.underlying110
  have HV := Aside0.mk hv
  have HU := Aside0.mk hu
  have HS0 := Aside0.mk h0
  have HS1 := Aside0.mk h1
  have HS2 := Aside0.mk h2
  have nB : (bucketL b0 b1 b2 b3 b4 b5 b6 b7 b8).length ≤ 140737488355328 := by unfold bucketL; simp only [uintL_len, textL_len, boolL_len, List.length_nil]; omega
  have nV : (versionL v0 v1 v2 v3 v4 v6 v7 v8 v9).length ≤ 140737488355328 := by unfold versionL; simp only [uintL_len, textL_len, boolL_len, List.length_nil]; omega
  have nU : (uploadL u0 u1 u2 u3).length ≤ 140737488355328 := by unfold uploadL; simp only [uintL_len, textL_len, boolL_len, List.length_nil]; omega
  have nS : (clockL s3 s4).length ≤ 140737488355328 := by unfold clockL; simp only [uintL_len, textL_len, boolL_len, List.length_nil]; omega
  have Pb := Aside0.mk (fun W => ShowBucket_c b0 b1 b2 b3 b4 b5 b6 b7 b8 W (by omega) hi.1 hi.2.1 hi.2.2.1 hi.2.2.2.1 hi.2.2.2.2.1)
  have Pv := Aside0.mk (fun W => ShowVersion_c v0 v1 v2 v3 v4 A5 l5.length c5 v6 v7 v8 v9 W (by omega) hi.2.2.2.2.2)
  have Pu := Aside0.mk (fun W => ShowUpload_c u0 u1 u2 u3 A4 l4.length c4 W (by omega))
  have Ps := Aside0.mk (fun W => ShowClock_c S0 m0.length d0 S1 m1.length d1 S2 m2.length d2 s3 s4 W (by omega))
  have Rb := Aside0.mk (fun W => (steleref19_ShowBucket.calls 9 b0 b1 b2 b3 b4 b5 b6 b7 b8 _ W (rshowB b0 b1 b2 b3 b4 b5 b6 b7 b8 (by omega) hi.1 hi.2.1 hi.2.2.1 hi.2.2.2.1 hi.2.2.2.2.1)).mono (R_to_C (bucketL b0 b1 b2 b3 b4 b5 b6 b7 b8) W))
  have Rv := Aside0.mk (fun W h => (steleref19_ShowVersion.calls 9 v0 v1 v2 v3 v4 A5 c5 l5 v6 v7 v8 v9 _ W h hcv (rshowV v0 v1 v2 v3 v4 l5 v6 v7 v8 v9 (by omega) hi.2.2.2.2.2)).mono (R_to_C (versionL v0 v1 v2 v3 v4 v6 v7 v8 v9) W))
  have Ru := Aside0.mk (fun W h => (steleref19_ShowUpload.calls 9 u0 u1 u2 u3 A4 c4 l4 _ W h hcu (rshowU u0 u1 u2 u3 l4 (by omega))).mono (R_to_C (uploadL u0 u1 u2 u3) W))
  have Rs := Aside0.mk (fun W h h' h'' => (steleref19_ShowClock.calls 9 S0 d0 m0 S1 d1 m1 S2 d2 m2 s3 s4 _ W h hc0 h' hc1 h'' hc2 (rshowS m0 m1 m2 s3 s4)).mono (R_to_C (clockL s3 s4) W))
  obtain ⟨Lb, eLb⟩ : ∃ l, bucketL b0 b1 b2 b3 b4 b5 b6 b7 b8 = l := ⟨_, rfl⟩
  obtain ⟨Lv, eLv⟩ : ∃ l, versionL v0 v1 v2 v3 v4 v6 v7 v8 v9 = l := ⟨_, rfl⟩
  obtain ⟨Lu, eLu⟩ : ∃ l, uploadL u0 u1 u2 u3 = l := ⟨_, rfl⟩
  obtain ⟨Ls, eLs⟩ : ∃ l, clockL s3 s4 = l := ⟨_, rfl⟩
  rw [eLb] at Pb Rb nB
  rw [eLv] at Pv Rv nV
  rw [eLu] at Pu Ru nU
  rw [eLs] at Ps Rs nS
  have Nb := Aside0.mk nB
  have Nv := Aside0.mk nV
  have Nu := Aside0.mk nU
  have Ns := Aside0.mk nS
  have HB := Aside0.mk (Below.refl w.heap.size w)
  clear hv hcv hu hcu h0 hc0 h1 hc1 h2 hc2 hz hi nB nV nU nS eLb eLv eLu eLs
  go_enter Try.func25, Try.ntmps25
  go_upto_region 1 with (first
    | ((with_reducible refine gate_dst (N := 4) rfl ?_); refine box_event ?hg (N := 4) ?hd (cs := #[.string b0, .int .i64 b1, .bool b2, .bool b3, .int .i64 b4, .int .i64 b5, .string b6, .int .i64 b7, .int .i64 b8]) (t := 89) ?hr ?_; (case hd => rfl); (case hg => rfl); (case hr => first | (go_simp; done) | (go_simp; rfl)); intro gb hg wb hbox hb; have BKb := Aside0.mk hbox; have oh_ := Aside0.mk (below_step HB.out hb); clear HB; have HB := oh_; clear oh_ hbox hb hg)
    | ((with_reducible refine gate_dst (N := 5) rfl ?_); refine box_event ?hg (N := 5) ?hd (cs := #[.string v0, .string v1, .int .u64 v2, .int .u64 v3, .bool v4, .slice A5 l5.length c5, .int .i64 v6, .int .u64 v7, .bool v8, .int .u64 v9]) (t := 95) ?hr ?_; (case hd => rfl); (case hg => rfl); (case hr => first | (go_simp; done) | (go_simp; rfl)); intro gv hg wv hbox hb; have o_ := Aside0.mk (blk_below BKb.out hb); clear BKb; have BKb := o_; clear o_; have BKv := Aside0.mk hbox; have oh_ := Aside0.mk (below_step HB.out hb); clear HB; have HB := oh_; clear oh_ hbox hb hg)
    | ((with_reducible refine gate_dst (N := 6) rfl ?_); refine box_event ?hg (N := 6) ?hd (cs := #[.string u0, .string u1, .int .u64 u2, .int .u64 u3, .slice A4 l4.length c4]) (t := 101) ?hr ?_; (case hd => rfl); (case hg => rfl); (case hr => first | (go_simp; done) | (go_simp; rfl)); intro gu hg wu hbox hb; have o_ := Aside0.mk (blk_below BKb.out hb); clear BKb; have BKb := o_; clear o_; have o_ := Aside0.mk (blk_below BKv.out hb); clear BKv; have BKv := o_; clear o_; have BKu := Aside0.mk hbox; have oh_ := Aside0.mk (below_step HB.out hb); clear HB; have HB := oh_; clear oh_ hbox hb hg)
    | ((with_reducible refine gate_dst (N := 7) rfl ?_); refine box_event ?hg (N := 7) ?hd (cs := #[.slice S0 m0.length d0, .slice S1 m1.length d1, .slice S2 m2.length d2, .int .u64 s3, .int .u64 s4]) (t := 110) ?hr ?_; (case hd => rfl); (case hg => rfl); (case hr => first | (go_simp; done) | (go_simp; rfl)); intro gs hg ws hbox hb; have o_ := Aside0.mk (blk_below BKb.out hb); clear BKb; have BKb := o_; clear o_; have o_ := Aside0.mk (blk_below BKv.out hb); clear BKv; have BKv := o_; clear o_; have o_ := Aside0.mk (blk_below BKu.out hb); clear BKu; have BKu := o_; clear o_; have BKs := Aside0.mk hbox; have oh_ := Aside0.mk (below_step HB.out hb); clear HB; have HB := oh_; clear oh_ hbox hb hg))
  (try simp only [Act.put, List.setIfInBounds_toArray, List.set_cons_zero, List.set_cons_succ])
  have ob_ := Aside0.mk (blk_drew BKb.out)
  have ov_ := Aside0.mk (blk_drew BKv.out)
  have ou_ := Aside0.mk (blk_drew BKu.out)
  have os_ := Aside0.mk (blk_drew BKs.out)
  have oh_ := Aside0.mk (below_drew1 HB.out)
  clear BKb BKv BKu BKs HB
  have BKb := ob_
  have BKv := ov_
  have BKu := ou_
  have BKs := os_
  have HB := oh_
  clear ob_ ov_ ou_ os_ oh_
  refine start_ (n := 30) (S := fun w' => w'.cell? ⟨gb, 0, none⟩ = some (.string b0) ∧ w'.cell? ⟨gb, 1, none⟩ = some (.int .i64 b1) ∧ w'.cell? ⟨gb, 2, none⟩ = some (.bool b2) ∧ w'.cell? ⟨gb, 3, none⟩ = some (.bool b3) ∧ w'.cell? ⟨gb, 4, none⟩ = some (.int .i64 b4) ∧ w'.cell? ⟨gb, 5, none⟩ = some (.int .i64 b5) ∧ w'.cell? ⟨gb, 6, none⟩ = some (.string b6) ∧ w'.cell? ⟨gb, 7, none⟩ = some (.int .i64 b7) ∧ w'.cell? ⟨gb, 8, none⟩ = some (.int .i64 b8) ∧ w'.cell? ⟨gv, 0, none⟩ = some (.string v0) ∧ w'.cell? ⟨gv, 1, none⟩ = some (.string v1) ∧ w'.cell? ⟨gv, 2, none⟩ = some (.int .u64 v2) ∧ w'.cell? ⟨gv, 3, none⟩ = some (.int .u64 v3) ∧ w'.cell? ⟨gv, 4, none⟩ = some (.bool v4) ∧ w'.cell? ⟨gv, 5, none⟩ = some (.slice A5 l5.length c5) ∧ w'.cell? ⟨gv, 6, none⟩ = some (.int .i64 v6) ∧ w'.cell? ⟨gv, 7, none⟩ = some (.int .u64 v7) ∧ w'.cell? ⟨gv, 8, none⟩ = some (.bool v8) ∧ w'.cell? ⟨gv, 9, none⟩ = some (.int .u64 v9) ∧ w'.cell? ⟨gu, 0, none⟩ = some (.string u0) ∧ w'.cell? ⟨gu, 1, none⟩ = some (.string u1) ∧ w'.cell? ⟨gu, 2, none⟩ = some (.int .u64 u2) ∧ w'.cell? ⟨gu, 3, none⟩ = some (.int .u64 u3) ∧ w'.cell? ⟨gu, 4, none⟩ = some (.slice A4 l4.length c4) ∧ w'.cell? ⟨gs, 0, none⟩ = some (.slice S0 m0.length d0) ∧ w'.cell? ⟨gs, 1, none⟩ = some (.slice S1 m1.length d1) ∧ w'.cell? ⟨gs, 2, none⟩ = some (.slice S2 m2.length d2) ∧ w'.cell? ⟨gs, 3, none⟩ = some (.int .u64 s3) ∧ w'.cell? ⟨gs, 4, none⟩ = some (.int .u64 s4)) (ds := []) #[false, false, false, false, false, false, false, false, false, false, false, false, false, false, false, false, false, false, false, false, false, false, false, false, false, false, false, false, false, false] (by kernel_rfl) rfl rfl ⟨(blk_cell BKb.out 0).trans rfl, (blk_cell BKb.out 1).trans rfl, (blk_cell BKb.out 2).trans rfl, (blk_cell BKb.out 3).trans rfl, (blk_cell BKb.out 4).trans rfl, (blk_cell BKb.out 5).trans rfl, (blk_cell BKb.out 6).trans rfl, (blk_cell BKb.out 7).trans rfl, (blk_cell BKb.out 8).trans rfl, (blk_cell BKv.out 0).trans rfl, (blk_cell BKv.out 1).trans rfl, (blk_cell BKv.out 2).trans rfl, (blk_cell BKv.out 3).trans rfl, (blk_cell BKv.out 4).trans rfl, (blk_cell BKv.out 5).trans rfl, (blk_cell BKv.out 6).trans rfl, (blk_cell BKv.out 7).trans rfl, (blk_cell BKv.out 8).trans rfl, (blk_cell BKv.out 9).trans rfl, (blk_cell BKu.out 0).trans rfl, (blk_cell BKu.out 1).trans rfl, (blk_cell BKu.out 2).trans rfl, (blk_cell BKu.out 3).trans rfl, (blk_cell BKu.out 4).trans rfl, (blk_cell BKs.out 0).trans rfl, (blk_cell BKs.out 1).trans rfl, (blk_cell BKs.out 2).trans rfl, (blk_cell BKs.out 3).trans rfl, (blk_cell BKs.out 4).trans rfl⟩ (fun hHeld => ?_)
  generalize World.drew ws = wd at BKb BKv BKu BKs HB hHeld ⊢
  refine take_ (i := 0) (N := some 9) (v := ?_) (a' := ?_) #[true, false, false, false, false, false, false, false, false, false, false, false, false, false, false, false, false, false, false, false, false, false, false, false, false, false, false, false, false, false] rfl rfl (by kernel_rfl) (fun _ _ _ h => h) (Or.inl ⟨by rfl, ?_⟩) hHeld ?_ ?_
  rotate_left
  · rintro w' ⟨s0, s1, s2, s3, s4, s5, s6, s7, s8, s9, s10, s11, s12, s13, s14, s15, s16, s17, s18, s19, s20, s21, s22, s23, s24, s25, s26, s27, s28⟩
    go_simp
    with_reducible rfl
  rotate_left
  · simp only [Act.put, List.setIfInBounds_toArray, List.set_cons_zero, List.set_cons_succ, i64_w, i32_w]
    rfl
  refine take_ (i := 2) (N := some 11) (v := ?_) (a' := ?_) #[true, false, true, false, false, false, false, false, false, false, false, false, false, false, false, false, false, false, false, false, false, false, false, false, false, false, false, false, false, false] rfl rfl (by kernel_rfl) (fun _ _ _ h => h) (Or.inl ⟨by rfl, ?_⟩) hHeld ?_ ?_
  rotate_left
  · rintro w' ⟨s0, s1, s2, s3, s4, s5, s6, s7, s8, s9, s10, s11, s12, s13, s14, s15, s16, s17, s18, s19, s20, s21, s22, s23, s24, s25, s26, s27, s28⟩
    go_simp
    with_reducible rfl
  rotate_left
  · simp only [Act.put, List.setIfInBounds_toArray, List.set_cons_zero, List.set_cons_succ, i64_w, i32_w]
    rfl
  refine one_ (i := 1) (N := some 10) #[true, true, true, false, false, false, false, false, false, false, false, false, false, false, false, false, false, false, false, false, false, false, false, false, false, false, false, false, false, false] rfl rfl (by kernel_rfl) (by decide) (fun K hK => ?_)
  refine goes_ Try.func100 (by kernel_rfl) rfl #[.agg #[.string b0, .int .i64 b1, .bool b2, .bool b3, .int .i64 b4, .int .i64 b5, .string b6, .int .i64 b7, .int .i64 b8]] (by rfl) rfl rfl (by first | (simp only [List.map_toArray, List.map_cons, List.map_nil]; done) | (simp only [List.map_toArray, List.map_cons, List.map_nil]; rfl)) ?_
  with_reducible refine (Pb.out _).mono ?_
  rintro e wa0 ⟨Aa, ca, rfl, hca, hCa, hb⟩
  refine ⟨_, rfl, ?_⟩
  have C1 := Aside0.mk hCa
  have L1 := Aside0.mk hca
  clear hCa hca
  have ob_ := Aside0.mk (blk_below BKb.out hb)
  have ov_ := Aside0.mk (blk_below BKv.out hb)
  have ou_ := Aside0.mk (blk_below BKu.out hb)
  have os_ := Aside0.mk (blk_below BKs.out hb)
  have oh_ := Aside0.mk (below_step HB.out hb)
  clear BKb BKv BKu BKs HB hb 
  have BKb := ob_
  have BKv := ov_
  have BKu := ou_
  have BKs := os_
  have HB := oh_
  clear ob_ ov_ ou_ os_ oh_ 
  refine hK.out _ _ ⟨(blk_cell BKb.out 0).trans rfl, (blk_cell BKb.out 1).trans rfl, (blk_cell BKb.out 2).trans rfl, (blk_cell BKb.out 3).trans rfl, (blk_cell BKb.out 4).trans rfl, (blk_cell BKb.out 5).trans rfl, (blk_cell BKb.out 6).trans rfl, (blk_cell BKb.out 7).trans rfl, (blk_cell BKb.out 8).trans rfl, (blk_cell BKv.out 0).trans rfl, (blk_cell BKv.out 1).trans rfl, (blk_cell BKv.out 2).trans rfl, (blk_cell BKv.out 3).trans rfl, (blk_cell BKv.out 4).trans rfl, (blk_cell BKv.out 5).trans rfl, (blk_cell BKv.out 6).trans rfl, (blk_cell BKv.out 7).trans rfl, (blk_cell BKv.out 8).trans rfl, (blk_cell BKv.out 9).trans rfl, (blk_cell BKu.out 0).trans rfl, (blk_cell BKu.out 1).trans rfl, (blk_cell BKu.out 2).trans rfl, (blk_cell BKu.out 3).trans rfl, (blk_cell BKu.out 4).trans rfl, (blk_cell BKs.out 0).trans rfl, (blk_cell BKs.out 1).trans rfl, (blk_cell BKs.out 2).trans rfl, (blk_cell BKs.out 3).trans rfl, (blk_cell BKs.out 4).trans rfl⟩ (fun hHeld => ?_)
  clear hK K
  refine norm_ (a' := ?_) ?_ ?_
  rotate_left
  · show Act.put _ (some 10) _ = _
    simp only [Act.put, List.setIfInBounds_toArray, List.set_cons_zero, List.set_cons_succ, i64_w, i32_w]
    rfl
  refine one_ (i := 3) (N := some 12) #[true, true, true, true, false, false, false, false, false, false, false, false, false, false, false, false, false, false, false, false, false, false, false, false, false, false, false, false, false, false] rfl rfl (by kernel_rfl) (by decide) (fun K hK => ?_)
  refine goes_ Try.func101 (by kernel_rfl) rfl #[.agg #[.string b0, .int .i64 b1, .bool b2, .bool b3, .int .i64 b4, .int .i64 b5, .string b6, .int .i64 b7, .int .i64 b8]] (by rfl) rfl rfl (by first | (simp only [List.map_toArray, List.map_cons, List.map_nil]; done) | (simp only [List.map_toArray, List.map_cons, List.map_nil]; rfl)) ?_
  with_reducible refine (Rb.out _).mono ?_
  rintro e wb0 ⟨Ab, cb, rfl, hcb, hCb, hb⟩
  refine ⟨_, rfl, ?_⟩
  have C2 := Aside0.mk hCb
  have L2 := Aside0.mk hcb
  clear hCb hcb
  have ob_ := Aside0.mk (blk_below BKb.out hb)
  have ov_ := Aside0.mk (blk_below BKv.out hb)
  have ou_ := Aside0.mk (blk_below BKu.out hb)
  have os_ := Aside0.mk (blk_below BKs.out hb)
  have oh_ := Aside0.mk (below_step HB.out hb)
  have oC1_ := Aside0.mk (Kd.C_below C1.out hb)
  clear BKb BKv BKu BKs HB hb C1
  have BKb := ob_
  have BKv := ov_
  have BKu := ou_
  have BKs := os_
  have HB := oh_
  have C1 := oC1_
  clear ob_ ov_ ou_ os_ oh_ oC1_
  refine hK.out _ _ ⟨(blk_cell BKb.out 0).trans rfl, (blk_cell BKb.out 1).trans rfl, (blk_cell BKb.out 2).trans rfl, (blk_cell BKb.out 3).trans rfl, (blk_cell BKb.out 4).trans rfl, (blk_cell BKb.out 5).trans rfl, (blk_cell BKb.out 6).trans rfl, (blk_cell BKb.out 7).trans rfl, (blk_cell BKb.out 8).trans rfl, (blk_cell BKv.out 0).trans rfl, (blk_cell BKv.out 1).trans rfl, (blk_cell BKv.out 2).trans rfl, (blk_cell BKv.out 3).trans rfl, (blk_cell BKv.out 4).trans rfl, (blk_cell BKv.out 5).trans rfl, (blk_cell BKv.out 6).trans rfl, (blk_cell BKv.out 7).trans rfl, (blk_cell BKv.out 8).trans rfl, (blk_cell BKv.out 9).trans rfl, (blk_cell BKu.out 0).trans rfl, (blk_cell BKu.out 1).trans rfl, (blk_cell BKu.out 2).trans rfl, (blk_cell BKu.out 3).trans rfl, (blk_cell BKu.out 4).trans rfl, (blk_cell BKs.out 0).trans rfl, (blk_cell BKs.out 1).trans rfl, (blk_cell BKs.out 2).trans rfl, (blk_cell BKs.out 3).trans rfl, (blk_cell BKs.out 4).trans rfl⟩ (fun hHeld => ?_)
  clear hK K
  refine norm_ (a' := ?_) ?_ ?_
  rotate_left
  · show Act.put _ (some 12) _ = _
    simp only [Act.put, List.setIfInBounds_toArray, List.set_cons_zero, List.set_cons_succ, i64_w, i32_w]
    rfl
  refine one_ (i := 4) (N := some 13) #[true, true, true, true, true, false, false, false, false, false, false, false, false, false, false, false, false, false, false, false, false, false, false, false, false, false, false, false, false, false] rfl rfl (by kernel_rfl) (by decide) (fun K hK => ?_)
  refine goes_ Try.func29 (by kernel_rfl) rfl #[.slice Aa Lb.length ca, .slice Ab Lb.length cb] (by rfl) rfl rfl (by first | (simp only [List.map_toArray, List.map_cons, List.map_nil]; done) | (simp only [List.map_toArray, List.map_cons, List.map_nil]; rfl)) ?_
  with_reducible refine (bsame_t Aa ca Lb Ab cb _ C1.out L1.out C2.out L2.out Nb.out).mono ?_
  rintro e wc0 ⟨rfl, hb⟩
  refine ⟨_, rfl, ?_⟩
  clear C1 C2 L1 L2
  have ob_ := Aside0.mk (blk_below BKb.out hb)
  have ov_ := Aside0.mk (blk_below BKv.out hb)
  have ou_ := Aside0.mk (blk_below BKu.out hb)
  have os_ := Aside0.mk (blk_below BKs.out hb)
  have oh_ := Aside0.mk (below_step HB.out hb)
  clear BKb BKv BKu BKs HB hb 
  have BKb := ob_
  have BKv := ov_
  have BKu := ou_
  have BKs := os_
  have HB := oh_
  clear ob_ ov_ ou_ os_ oh_ 
  refine hK.out _ _ ⟨(blk_cell BKb.out 0).trans rfl, (blk_cell BKb.out 1).trans rfl, (blk_cell BKb.out 2).trans rfl, (blk_cell BKb.out 3).trans rfl, (blk_cell BKb.out 4).trans rfl, (blk_cell BKb.out 5).trans rfl, (blk_cell BKb.out 6).trans rfl, (blk_cell BKb.out 7).trans rfl, (blk_cell BKb.out 8).trans rfl, (blk_cell BKv.out 0).trans rfl, (blk_cell BKv.out 1).trans rfl, (blk_cell BKv.out 2).trans rfl, (blk_cell BKv.out 3).trans rfl, (blk_cell BKv.out 4).trans rfl, (blk_cell BKv.out 5).trans rfl, (blk_cell BKv.out 6).trans rfl, (blk_cell BKv.out 7).trans rfl, (blk_cell BKv.out 8).trans rfl, (blk_cell BKv.out 9).trans rfl, (blk_cell BKu.out 0).trans rfl, (blk_cell BKu.out 1).trans rfl, (blk_cell BKu.out 2).trans rfl, (blk_cell BKu.out 3).trans rfl, (blk_cell BKu.out 4).trans rfl, (blk_cell BKs.out 0).trans rfl, (blk_cell BKs.out 1).trans rfl, (blk_cell BKs.out 2).trans rfl, (blk_cell BKs.out 3).trans rfl, (blk_cell BKs.out 4).trans rfl⟩ (fun hHeld => ?_)
  clear hK K
  refine norm_ (a' := ?_) ?_ ?_
  rotate_left
  · show Act.put _ (some 13) _ = _
    simp only [Act.put, List.setIfInBounds_toArray, List.set_cons_zero, List.set_cons_succ, i64_w, i32_w]
    rfl
  refine pure_ (i := 5) (N := some 14) (v := ?_) (a' := ?_) #[true, true, true, true, true, true, false, false, false, false, false, false, false, false, false, false, false, false, false, false, false, false, false, false, false, false, false, false, false, false] rfl rfl (by kernel_rfl) (fun _ _ _ h => h) (Or.inl ⟨by rfl, ?_⟩) ?_ ?_
  rotate_left
  · intro w'
    go_simp
    with_reducible rfl
  rotate_left
  · simp only [Act.put, List.setIfInBounds_toArray, List.set_cons_zero, List.set_cons_succ, i64_w, i32_w]
    rfl
  refine take_ (i := 6) (N := some 15) (v := ?_) (a' := ?_) #[true, true, true, true, true, true, true, false, false, false, false, false, false, false, false, false, false, false, false, false, false, false, false, false, false, false, false, false, false, false] rfl rfl (by kernel_rfl) (fun _ _ _ h => h) (Or.inl ⟨by rfl, ?_⟩) hHeld ?_ ?_
  rotate_left
  · rintro w' ⟨s0, s1, s2, s3, s4, s5, s6, s7, s8, s9, s10, s11, s12, s13, s14, s15, s16, s17, s18, s19, s20, s21, s22, s23, s24, s25, s26, s27, s28⟩
    go_simp
    with_reducible rfl
  rotate_left
  · simp only [Act.put, List.setIfInBounds_toArray, List.set_cons_zero, List.set_cons_succ, i64_w, i32_w]
    rfl
  refine take_ (i := 8) (N := some 17) (v := ?_) (a' := ?_) #[true, true, true, true, true, true, true, false, true, false, false, false, false, false, false, false, false, false, false, false, false, false, false, false, false, false, false, false, false, false] rfl rfl (by kernel_rfl) (fun _ _ _ h => h) (Or.inl ⟨by rfl, ?_⟩) hHeld ?_ ?_
  rotate_left
  · rintro w' ⟨s0, s1, s2, s3, s4, s5, s6, s7, s8, s9, s10, s11, s12, s13, s14, s15, s16, s17, s18, s19, s20, s21, s22, s23, s24, s25, s26, s27, s28⟩
    go_simp
    with_reducible rfl
  rotate_left
  · simp only [Act.put, List.setIfInBounds_toArray, List.set_cons_zero, List.set_cons_succ, i64_w, i32_w]
    rfl
  refine one_ (i := 7) (N := some 16) #[true, true, true, true, true, true, true, true, true, false, false, false, false, false, false, false, false, false, false, false, false, false, false, false, false, false, false, false, false, false] rfl rfl (by kernel_rfl) (by decide) (fun K hK => ?_)
  refine goes_ Try.func102 (by kernel_rfl) rfl #[.agg #[.string v0, .string v1, .int .u64 v2, .int .u64 v3, .bool v4, .slice A5 l5.length c5, .int .i64 v6, .int .u64 v7, .bool v8, .int .u64 v9]] (by rfl) rfl rfl (by first | (simp only [List.map_toArray, List.map_cons, List.map_nil]; done) | (simp only [List.map_toArray, List.map_cons, List.map_nil]; rfl)) ?_
  with_reducible refine (Pv.out _).mono ?_
  rintro e wa1 ⟨Aa, ca, rfl, hca, hCa, hb⟩
  refine ⟨_, rfl, ?_⟩
  have C1 := Aside0.mk hCa
  have L1 := Aside0.mk hca
  clear hCa hca
  have ob_ := Aside0.mk (blk_below BKb.out hb)
  have ov_ := Aside0.mk (blk_below BKv.out hb)
  have ou_ := Aside0.mk (blk_below BKu.out hb)
  have os_ := Aside0.mk (blk_below BKs.out hb)
  have oh_ := Aside0.mk (below_step HB.out hb)
  clear BKb BKv BKu BKs HB hb 
  have BKb := ob_
  have BKv := ov_
  have BKu := ou_
  have BKs := os_
  have HB := oh_
  clear ob_ ov_ ou_ os_ oh_ 
  refine hK.out _ _ ⟨(blk_cell BKb.out 0).trans rfl, (blk_cell BKb.out 1).trans rfl, (blk_cell BKb.out 2).trans rfl, (blk_cell BKb.out 3).trans rfl, (blk_cell BKb.out 4).trans rfl, (blk_cell BKb.out 5).trans rfl, (blk_cell BKb.out 6).trans rfl, (blk_cell BKb.out 7).trans rfl, (blk_cell BKb.out 8).trans rfl, (blk_cell BKv.out 0).trans rfl, (blk_cell BKv.out 1).trans rfl, (blk_cell BKv.out 2).trans rfl, (blk_cell BKv.out 3).trans rfl, (blk_cell BKv.out 4).trans rfl, (blk_cell BKv.out 5).trans rfl, (blk_cell BKv.out 6).trans rfl, (blk_cell BKv.out 7).trans rfl, (blk_cell BKv.out 8).trans rfl, (blk_cell BKv.out 9).trans rfl, (blk_cell BKu.out 0).trans rfl, (blk_cell BKu.out 1).trans rfl, (blk_cell BKu.out 2).trans rfl, (blk_cell BKu.out 3).trans rfl, (blk_cell BKu.out 4).trans rfl, (blk_cell BKs.out 0).trans rfl, (blk_cell BKs.out 1).trans rfl, (blk_cell BKs.out 2).trans rfl, (blk_cell BKs.out 3).trans rfl, (blk_cell BKs.out 4).trans rfl⟩ (fun hHeld => ?_)
  clear hK K
  refine norm_ (a' := ?_) ?_ ?_
  rotate_left
  · show Act.put _ (some 16) _ = _
    simp only [Act.put, List.setIfInBounds_toArray, List.set_cons_zero, List.set_cons_succ, i64_w, i32_w]
    rfl
  refine one_ (i := 9) (N := some 18) #[true, true, true, true, true, true, true, true, true, true, false, false, false, false, false, false, false, false, false, false, false, false, false, false, false, false, false, false, false, false] rfl rfl (by kernel_rfl) (by decide) (fun K hK => ?_)
  refine goes_ Try.func103 (by kernel_rfl) rfl #[.agg #[.string v0, .string v1, .int .u64 v2, .int .u64 v3, .bool v4, .slice A5 l5.length c5, .int .i64 v6, .int .u64 v7, .bool v8, .int .u64 v9]] (by rfl) rfl rfl (by first | (simp only [List.map_toArray, List.map_cons, List.map_nil]; done) | (simp only [List.map_toArray, List.map_cons, List.map_nil]; rfl)) ?_
  with_reducible refine (Rv.out _ (Kd.C_below HV.out HB.out)).mono ?_
  rintro e wb1 ⟨Ab, cb, rfl, hcb, hCb, hb⟩
  refine ⟨_, rfl, ?_⟩
  have C2 := Aside0.mk hCb
  have L2 := Aside0.mk hcb
  clear hCb hcb
  have ob_ := Aside0.mk (blk_below BKb.out hb)
  have ov_ := Aside0.mk (blk_below BKv.out hb)
  have ou_ := Aside0.mk (blk_below BKu.out hb)
  have os_ := Aside0.mk (blk_below BKs.out hb)
  have oh_ := Aside0.mk (below_step HB.out hb)
  have oC1_ := Aside0.mk (Kd.C_below C1.out hb)
  clear BKb BKv BKu BKs HB hb C1
  have BKb := ob_
  have BKv := ov_
  have BKu := ou_
  have BKs := os_
  have HB := oh_
  have C1 := oC1_
  clear ob_ ov_ ou_ os_ oh_ oC1_
  refine hK.out _ _ ⟨(blk_cell BKb.out 0).trans rfl, (blk_cell BKb.out 1).trans rfl, (blk_cell BKb.out 2).trans rfl, (blk_cell BKb.out 3).trans rfl, (blk_cell BKb.out 4).trans rfl, (blk_cell BKb.out 5).trans rfl, (blk_cell BKb.out 6).trans rfl, (blk_cell BKb.out 7).trans rfl, (blk_cell BKb.out 8).trans rfl, (blk_cell BKv.out 0).trans rfl, (blk_cell BKv.out 1).trans rfl, (blk_cell BKv.out 2).trans rfl, (blk_cell BKv.out 3).trans rfl, (blk_cell BKv.out 4).trans rfl, (blk_cell BKv.out 5).trans rfl, (blk_cell BKv.out 6).trans rfl, (blk_cell BKv.out 7).trans rfl, (blk_cell BKv.out 8).trans rfl, (blk_cell BKv.out 9).trans rfl, (blk_cell BKu.out 0).trans rfl, (blk_cell BKu.out 1).trans rfl, (blk_cell BKu.out 2).trans rfl, (blk_cell BKu.out 3).trans rfl, (blk_cell BKu.out 4).trans rfl, (blk_cell BKs.out 0).trans rfl, (blk_cell BKs.out 1).trans rfl, (blk_cell BKs.out 2).trans rfl, (blk_cell BKs.out 3).trans rfl, (blk_cell BKs.out 4).trans rfl⟩ (fun hHeld => ?_)
  clear hK K
  refine norm_ (a' := ?_) ?_ ?_
  rotate_left
  · show Act.put _ (some 18) _ = _
    simp only [Act.put, List.setIfInBounds_toArray, List.set_cons_zero, List.set_cons_succ, i64_w, i32_w]
    rfl
  refine one_ (i := 10) (N := some 19) #[true, true, true, true, true, true, true, true, true, true, true, false, false, false, false, false, false, false, false, false, false, false, false, false, false, false, false, false, false, false] rfl rfl (by kernel_rfl) (by decide) (fun K hK => ?_)
  refine goes_ Try.func29 (by kernel_rfl) rfl #[.slice Aa Lv.length ca, .slice Ab Lv.length cb] (by rfl) rfl rfl (by first | (simp only [List.map_toArray, List.map_cons, List.map_nil]; done) | (simp only [List.map_toArray, List.map_cons, List.map_nil]; rfl)) ?_
  with_reducible refine (bsame_t Aa ca Lv Ab cb _ C1.out L1.out C2.out L2.out Nv.out).mono ?_
  rintro e wc1 ⟨rfl, hb⟩
  refine ⟨_, rfl, ?_⟩
  clear C1 C2 L1 L2
  have ob_ := Aside0.mk (blk_below BKb.out hb)
  have ov_ := Aside0.mk (blk_below BKv.out hb)
  have ou_ := Aside0.mk (blk_below BKu.out hb)
  have os_ := Aside0.mk (blk_below BKs.out hb)
  have oh_ := Aside0.mk (below_step HB.out hb)
  clear BKb BKv BKu BKs HB hb 
  have BKb := ob_
  have BKv := ov_
  have BKu := ou_
  have BKs := os_
  have HB := oh_
  clear ob_ ov_ ou_ os_ oh_ 
  refine hK.out _ _ ⟨(blk_cell BKb.out 0).trans rfl, (blk_cell BKb.out 1).trans rfl, (blk_cell BKb.out 2).trans rfl, (blk_cell BKb.out 3).trans rfl, (blk_cell BKb.out 4).trans rfl, (blk_cell BKb.out 5).trans rfl, (blk_cell BKb.out 6).trans rfl, (blk_cell BKb.out 7).trans rfl, (blk_cell BKb.out 8).trans rfl, (blk_cell BKv.out 0).trans rfl, (blk_cell BKv.out 1).trans rfl, (blk_cell BKv.out 2).trans rfl, (blk_cell BKv.out 3).trans rfl, (blk_cell BKv.out 4).trans rfl, (blk_cell BKv.out 5).trans rfl, (blk_cell BKv.out 6).trans rfl, (blk_cell BKv.out 7).trans rfl, (blk_cell BKv.out 8).trans rfl, (blk_cell BKv.out 9).trans rfl, (blk_cell BKu.out 0).trans rfl, (blk_cell BKu.out 1).trans rfl, (blk_cell BKu.out 2).trans rfl, (blk_cell BKu.out 3).trans rfl, (blk_cell BKu.out 4).trans rfl, (blk_cell BKs.out 0).trans rfl, (blk_cell BKs.out 1).trans rfl, (blk_cell BKs.out 2).trans rfl, (blk_cell BKs.out 3).trans rfl, (blk_cell BKs.out 4).trans rfl⟩ (fun hHeld => ?_)
  clear hK K
  refine norm_ (a' := ?_) ?_ ?_
  rotate_left
  · show Act.put _ (some 19) _ = _
    simp only [Act.put, List.setIfInBounds_toArray, List.set_cons_zero, List.set_cons_succ, i64_w, i32_w]
    rfl
  refine pure_ (i := 11) (N := some 20) (v := ?_) (a' := ?_) #[true, true, true, true, true, true, true, true, true, true, true, true, false, false, false, false, false, false, false, false, false, false, false, false, false, false, false, false, false, false] rfl rfl (by kernel_rfl) (fun _ _ _ h => h) (Or.inl ⟨by rfl, ?_⟩) ?_ ?_
  rotate_left
  · intro w'
    go_simp
    with_reducible rfl
  rotate_left
  · simp only [Act.put, List.setIfInBounds_toArray, List.set_cons_zero, List.set_cons_succ, i64_w, i32_w]
    rfl
  refine pure_ (i := 12) (N := some 21) (v := ?_) (a' := ?_) #[true, true, true, true, true, true, true, true, true, true, true, true, true, false, false, false, false, false, false, false, false, false, false, false, false, false, false, false, false, false] rfl rfl (by kernel_rfl) (fun _ _ _ h => h) (Or.inl ⟨by rfl, ?_⟩) ?_ ?_
  rotate_left
  · intro w'
    go_simp
    with_reducible rfl
  rotate_left
  · simp only [Act.put, List.setIfInBounds_toArray, List.set_cons_zero, List.set_cons_succ, i64_w, i32_w]
    rfl
  refine take_ (i := 13) (N := some 22) (v := ?_) (a' := ?_) #[true, true, true, true, true, true, true, true, true, true, true, true, true, true, false, false, false, false, false, false, false, false, false, false, false, false, false, false, false, false] rfl rfl (by kernel_rfl) (fun _ _ _ h => h) (Or.inl ⟨by rfl, ?_⟩) hHeld ?_ ?_
  rotate_left
  · rintro w' ⟨s0, s1, s2, s3, s4, s5, s6, s7, s8, s9, s10, s11, s12, s13, s14, s15, s16, s17, s18, s19, s20, s21, s22, s23, s24, s25, s26, s27, s28⟩
    go_simp
    with_reducible rfl
  rotate_left
  · simp only [Act.put, List.setIfInBounds_toArray, List.set_cons_zero, List.set_cons_succ, i64_w, i32_w]
    rfl
  refine take_ (i := 15) (N := some 24) (v := ?_) (a' := ?_) #[true, true, true, true, true, true, true, true, true, true, true, true, true, true, false, true, false, false, false, false, false, false, false, false, false, false, false, false, false, false] rfl rfl (by kernel_rfl) (fun _ _ _ h => h) (Or.inl ⟨by rfl, ?_⟩) hHeld ?_ ?_
  rotate_left
  · rintro w' ⟨s0, s1, s2, s3, s4, s5, s6, s7, s8, s9, s10, s11, s12, s13, s14, s15, s16, s17, s18, s19, s20, s21, s22, s23, s24, s25, s26, s27, s28⟩
    go_simp
    with_reducible rfl
  rotate_left
  · simp only [Act.put, List.setIfInBounds_toArray, List.set_cons_zero, List.set_cons_succ, i64_w, i32_w]
    rfl
  refine one_ (i := 14) (N := some 23) #[true, true, true, true, true, true, true, true, true, true, true, true, true, true, true, true, false, false, false, false, false, false, false, false, false, false, false, false, false, false] rfl rfl (by kernel_rfl) (by decide) (fun K hK => ?_)
  refine goes_ Try.func104 (by kernel_rfl) rfl #[.agg #[.string u0, .string u1, .int .u64 u2, .int .u64 u3, .slice A4 l4.length c4]] (by rfl) rfl rfl (by first | (simp only [List.map_toArray, List.map_cons, List.map_nil]; done) | (simp only [List.map_toArray, List.map_cons, List.map_nil]; rfl)) ?_
  with_reducible refine (Pu.out _).mono ?_
  rintro e wa2 ⟨Aa, ca, rfl, hca, hCa, hb⟩
  refine ⟨_, rfl, ?_⟩
  have C1 := Aside0.mk hCa
  have L1 := Aside0.mk hca
  clear hCa hca
  have ob_ := Aside0.mk (blk_below BKb.out hb)
  have ov_ := Aside0.mk (blk_below BKv.out hb)
  have ou_ := Aside0.mk (blk_below BKu.out hb)
  have os_ := Aside0.mk (blk_below BKs.out hb)
  have oh_ := Aside0.mk (below_step HB.out hb)
  clear BKb BKv BKu BKs HB hb 
  have BKb := ob_
  have BKv := ov_
  have BKu := ou_
  have BKs := os_
  have HB := oh_
  clear ob_ ov_ ou_ os_ oh_ 
  refine hK.out _ _ ⟨(blk_cell BKb.out 0).trans rfl, (blk_cell BKb.out 1).trans rfl, (blk_cell BKb.out 2).trans rfl, (blk_cell BKb.out 3).trans rfl, (blk_cell BKb.out 4).trans rfl, (blk_cell BKb.out 5).trans rfl, (blk_cell BKb.out 6).trans rfl, (blk_cell BKb.out 7).trans rfl, (blk_cell BKb.out 8).trans rfl, (blk_cell BKv.out 0).trans rfl, (blk_cell BKv.out 1).trans rfl, (blk_cell BKv.out 2).trans rfl, (blk_cell BKv.out 3).trans rfl, (blk_cell BKv.out 4).trans rfl, (blk_cell BKv.out 5).trans rfl, (blk_cell BKv.out 6).trans rfl, (blk_cell BKv.out 7).trans rfl, (blk_cell BKv.out 8).trans rfl, (blk_cell BKv.out 9).trans rfl, (blk_cell BKu.out 0).trans rfl, (blk_cell BKu.out 1).trans rfl, (blk_cell BKu.out 2).trans rfl, (blk_cell BKu.out 3).trans rfl, (blk_cell BKu.out 4).trans rfl, (blk_cell BKs.out 0).trans rfl, (blk_cell BKs.out 1).trans rfl, (blk_cell BKs.out 2).trans rfl, (blk_cell BKs.out 3).trans rfl, (blk_cell BKs.out 4).trans rfl⟩ (fun hHeld => ?_)
  clear hK K
  refine norm_ (a' := ?_) ?_ ?_
  rotate_left
  · show Act.put _ (some 23) _ = _
    simp only [Act.put, List.setIfInBounds_toArray, List.set_cons_zero, List.set_cons_succ, i64_w, i32_w]
    rfl
  refine one_ (i := 16) (N := some 25) #[true, true, true, true, true, true, true, true, true, true, true, true, true, true, true, true, true, false, false, false, false, false, false, false, false, false, false, false, false, false] rfl rfl (by kernel_rfl) (by decide) (fun K hK => ?_)
  refine goes_ Try.func105 (by kernel_rfl) rfl #[.agg #[.string u0, .string u1, .int .u64 u2, .int .u64 u3, .slice A4 l4.length c4]] (by rfl) rfl rfl (by first | (simp only [List.map_toArray, List.map_cons, List.map_nil]; done) | (simp only [List.map_toArray, List.map_cons, List.map_nil]; rfl)) ?_
  with_reducible refine (Ru.out _ (Kd.C_below HU.out HB.out)).mono ?_
  rintro e wb2 ⟨Ab, cb, rfl, hcb, hCb, hb⟩
  refine ⟨_, rfl, ?_⟩
  have C2 := Aside0.mk hCb
  have L2 := Aside0.mk hcb
  clear hCb hcb
  have ob_ := Aside0.mk (blk_below BKb.out hb)
  have ov_ := Aside0.mk (blk_below BKv.out hb)
  have ou_ := Aside0.mk (blk_below BKu.out hb)
  have os_ := Aside0.mk (blk_below BKs.out hb)
  have oh_ := Aside0.mk (below_step HB.out hb)
  have oC1_ := Aside0.mk (Kd.C_below C1.out hb)
  clear BKb BKv BKu BKs HB hb C1
  have BKb := ob_
  have BKv := ov_
  have BKu := ou_
  have BKs := os_
  have HB := oh_
  have C1 := oC1_
  clear ob_ ov_ ou_ os_ oh_ oC1_
  refine hK.out _ _ ⟨(blk_cell BKb.out 0).trans rfl, (blk_cell BKb.out 1).trans rfl, (blk_cell BKb.out 2).trans rfl, (blk_cell BKb.out 3).trans rfl, (blk_cell BKb.out 4).trans rfl, (blk_cell BKb.out 5).trans rfl, (blk_cell BKb.out 6).trans rfl, (blk_cell BKb.out 7).trans rfl, (blk_cell BKb.out 8).trans rfl, (blk_cell BKv.out 0).trans rfl, (blk_cell BKv.out 1).trans rfl, (blk_cell BKv.out 2).trans rfl, (blk_cell BKv.out 3).trans rfl, (blk_cell BKv.out 4).trans rfl, (blk_cell BKv.out 5).trans rfl, (blk_cell BKv.out 6).trans rfl, (blk_cell BKv.out 7).trans rfl, (blk_cell BKv.out 8).trans rfl, (blk_cell BKv.out 9).trans rfl, (blk_cell BKu.out 0).trans rfl, (blk_cell BKu.out 1).trans rfl, (blk_cell BKu.out 2).trans rfl, (blk_cell BKu.out 3).trans rfl, (blk_cell BKu.out 4).trans rfl, (blk_cell BKs.out 0).trans rfl, (blk_cell BKs.out 1).trans rfl, (blk_cell BKs.out 2).trans rfl, (blk_cell BKs.out 3).trans rfl, (blk_cell BKs.out 4).trans rfl⟩ (fun hHeld => ?_)
  clear hK K
  refine norm_ (a' := ?_) ?_ ?_
  rotate_left
  · show Act.put _ (some 25) _ = _
    simp only [Act.put, List.setIfInBounds_toArray, List.set_cons_zero, List.set_cons_succ, i64_w, i32_w]
    rfl
  refine one_ (i := 17) (N := some 26) #[true, true, true, true, true, true, true, true, true, true, true, true, true, true, true, true, true, true, false, false, false, false, false, false, false, false, false, false, false, false] rfl rfl (by kernel_rfl) (by decide) (fun K hK => ?_)
  refine goes_ Try.func29 (by kernel_rfl) rfl #[.slice Aa Lu.length ca, .slice Ab Lu.length cb] (by rfl) rfl rfl (by first | (simp only [List.map_toArray, List.map_cons, List.map_nil]; done) | (simp only [List.map_toArray, List.map_cons, List.map_nil]; rfl)) ?_
  with_reducible refine (bsame_t Aa ca Lu Ab cb _ C1.out L1.out C2.out L2.out Nu.out).mono ?_
  rintro e wc2 ⟨rfl, hb⟩
  refine ⟨_, rfl, ?_⟩
  clear C1 C2 L1 L2
  have ob_ := Aside0.mk (blk_below BKb.out hb)
  have ov_ := Aside0.mk (blk_below BKv.out hb)
  have ou_ := Aside0.mk (blk_below BKu.out hb)
  have os_ := Aside0.mk (blk_below BKs.out hb)
  have oh_ := Aside0.mk (below_step HB.out hb)
  clear BKb BKv BKu BKs HB hb 
  have BKb := ob_
  have BKv := ov_
  have BKu := ou_
  have BKs := os_
  have HB := oh_
  clear ob_ ov_ ou_ os_ oh_ 
  refine hK.out _ _ ⟨(blk_cell BKb.out 0).trans rfl, (blk_cell BKb.out 1).trans rfl, (blk_cell BKb.out 2).trans rfl, (blk_cell BKb.out 3).trans rfl, (blk_cell BKb.out 4).trans rfl, (blk_cell BKb.out 5).trans rfl, (blk_cell BKb.out 6).trans rfl, (blk_cell BKb.out 7).trans rfl, (blk_cell BKb.out 8).trans rfl, (blk_cell BKv.out 0).trans rfl, (blk_cell BKv.out 1).trans rfl, (blk_cell BKv.out 2).trans rfl, (blk_cell BKv.out 3).trans rfl, (blk_cell BKv.out 4).trans rfl, (blk_cell BKv.out 5).trans rfl, (blk_cell BKv.out 6).trans rfl, (blk_cell BKv.out 7).trans rfl, (blk_cell BKv.out 8).trans rfl, (blk_cell BKv.out 9).trans rfl, (blk_cell BKu.out 0).trans rfl, (blk_cell BKu.out 1).trans rfl, (blk_cell BKu.out 2).trans rfl, (blk_cell BKu.out 3).trans rfl, (blk_cell BKu.out 4).trans rfl, (blk_cell BKs.out 0).trans rfl, (blk_cell BKs.out 1).trans rfl, (blk_cell BKs.out 2).trans rfl, (blk_cell BKs.out 3).trans rfl, (blk_cell BKs.out 4).trans rfl⟩ (fun hHeld => ?_)
  clear hK K
  refine norm_ (a' := ?_) ?_ ?_
  rotate_left
  · show Act.put _ (some 26) _ = _
    simp only [Act.put, List.setIfInBounds_toArray, List.set_cons_zero, List.set_cons_succ, i64_w, i32_w]
    rfl
  refine pure_ (i := 18) (N := some 27) (v := ?_) (a' := ?_) #[true, true, true, true, true, true, true, true, true, true, true, true, true, true, true, true, true, true, true, false, false, false, false, false, false, false, false, false, false, false] rfl rfl (by kernel_rfl) (fun _ _ _ h => h) (Or.inl ⟨by rfl, ?_⟩) ?_ ?_
  rotate_left
  · intro w'
    go_simp
    with_reducible rfl
  rotate_left
  · simp only [Act.put, List.setIfInBounds_toArray, List.set_cons_zero, List.set_cons_succ, i64_w, i32_w]
    rfl
  refine pure_ (i := 19) (N := some 28) (v := ?_) (a' := ?_) #[true, true, true, true, true, true, true, true, true, true, true, true, true, true, true, true, true, true, true, true, false, false, false, false, false, false, false, false, false, false] rfl rfl (by kernel_rfl) (fun _ _ _ h => h) (Or.inl ⟨by rfl, ?_⟩) ?_ ?_
  rotate_left
  · intro w'
    go_simp
    with_reducible rfl
  rotate_left
  · simp only [Act.put, List.setIfInBounds_toArray, List.set_cons_zero, List.set_cons_succ, i64_w, i32_w]
    rfl
  refine take_ (i := 20) (N := some 29) (v := ?_) (a' := ?_) #[true, true, true, true, true, true, true, true, true, true, true, true, true, true, true, true, true, true, true, true, true, false, false, false, false, false, false, false, false, false] rfl rfl (by kernel_rfl) (fun _ _ _ h => h) (Or.inl ⟨by rfl, ?_⟩) hHeld ?_ ?_
  rotate_left
  · rintro w' ⟨s0, s1, s2, s3, s4, s5, s6, s7, s8, s9, s10, s11, s12, s13, s14, s15, s16, s17, s18, s19, s20, s21, s22, s23, s24, s25, s26, s27, s28⟩
    go_simp
    with_reducible rfl
  rotate_left
  · simp only [Act.put, List.setIfInBounds_toArray, List.set_cons_zero, List.set_cons_succ, i64_w, i32_w]
    rfl
  refine take_ (i := 22) (N := some 31) (v := ?_) (a' := ?_) #[true, true, true, true, true, true, true, true, true, true, true, true, true, true, true, true, true, true, true, true, true, false, true, false, false, false, false, false, false, false] rfl rfl (by kernel_rfl) (fun _ _ _ h => h) (Or.inl ⟨by rfl, ?_⟩) hHeld ?_ ?_
  rotate_left
  · rintro w' ⟨s0, s1, s2, s3, s4, s5, s6, s7, s8, s9, s10, s11, s12, s13, s14, s15, s16, s17, s18, s19, s20, s21, s22, s23, s24, s25, s26, s27, s28⟩
    go_simp
    with_reducible rfl
  rotate_left
  · simp only [Act.put, List.setIfInBounds_toArray, List.set_cons_zero, List.set_cons_succ, i64_w, i32_w]
    rfl
  refine one_ (i := 21) (N := some 30) #[true, true, true, true, true, true, true, true, true, true, true, true, true, true, true, true, true, true, true, true, true, true, true, false, false, false, false, false, false, false] rfl rfl (by kernel_rfl) (by decide) (fun K hK => ?_)
  refine goes_ Try.func106 (by kernel_rfl) rfl #[.agg #[.slice S0 m0.length d0, .slice S1 m1.length d1, .slice S2 m2.length d2, .int .u64 s3, .int .u64 s4]] (by rfl) rfl rfl (by first | (simp only [List.map_toArray, List.map_cons, List.map_nil]; done) | (simp only [List.map_toArray, List.map_cons, List.map_nil]; rfl)) ?_
  with_reducible refine (Ps.out _).mono ?_
  rintro e wa3 ⟨Aa, ca, rfl, hca, hCa, hb⟩
  refine ⟨_, rfl, ?_⟩
  have C1 := Aside0.mk hCa
  have L1 := Aside0.mk hca
  clear hCa hca
  have ob_ := Aside0.mk (blk_below BKb.out hb)
  have ov_ := Aside0.mk (blk_below BKv.out hb)
  have ou_ := Aside0.mk (blk_below BKu.out hb)
  have os_ := Aside0.mk (blk_below BKs.out hb)
  have oh_ := Aside0.mk (below_step HB.out hb)
  clear BKb BKv BKu BKs HB hb 
  have BKb := ob_
  have BKv := ov_
  have BKu := ou_
  have BKs := os_
  have HB := oh_
  clear ob_ ov_ ou_ os_ oh_ 
  refine hK.out _ _ ⟨(blk_cell BKb.out 0).trans rfl, (blk_cell BKb.out 1).trans rfl, (blk_cell BKb.out 2).trans rfl, (blk_cell BKb.out 3).trans rfl, (blk_cell BKb.out 4).trans rfl, (blk_cell BKb.out 5).trans rfl, (blk_cell BKb.out 6).trans rfl, (blk_cell BKb.out 7).trans rfl, (blk_cell BKb.out 8).trans rfl, (blk_cell BKv.out 0).trans rfl, (blk_cell BKv.out 1).trans rfl, (blk_cell BKv.out 2).trans rfl, (blk_cell BKv.out 3).trans rfl, (blk_cell BKv.out 4).trans rfl, (blk_cell BKv.out 5).trans rfl, (blk_cell BKv.out 6).trans rfl, (blk_cell BKv.out 7).trans rfl, (blk_cell BKv.out 8).trans rfl, (blk_cell BKv.out 9).trans rfl, (blk_cell BKu.out 0).trans rfl, (blk_cell BKu.out 1).trans rfl, (blk_cell BKu.out 2).trans rfl, (blk_cell BKu.out 3).trans rfl, (blk_cell BKu.out 4).trans rfl, (blk_cell BKs.out 0).trans rfl, (blk_cell BKs.out 1).trans rfl, (blk_cell BKs.out 2).trans rfl, (blk_cell BKs.out 3).trans rfl, (blk_cell BKs.out 4).trans rfl⟩ (fun hHeld => ?_)
  clear hK K
  refine norm_ (a' := ?_) ?_ ?_
  rotate_left
  · show Act.put _ (some 30) _ = _
    simp only [Act.put, List.setIfInBounds_toArray, List.set_cons_zero, List.set_cons_succ, i64_w, i32_w]
    rfl
  refine one_ (i := 23) (N := some 32) #[true, true, true, true, true, true, true, true, true, true, true, true, true, true, true, true, true, true, true, true, true, true, true, true, false, false, false, false, false, false] rfl rfl (by kernel_rfl) (by decide) (fun K hK => ?_)
  refine goes_ Try.func107 (by kernel_rfl) rfl #[.agg #[.slice S0 m0.length d0, .slice S1 m1.length d1, .slice S2 m2.length d2, .int .u64 s3, .int .u64 s4]] (by rfl) rfl rfl (by first | (simp only [List.map_toArray, List.map_cons, List.map_nil]; done) | (simp only [List.map_toArray, List.map_cons, List.map_nil]; rfl)) ?_
  with_reducible refine (Rs.out _ (Kd.C_below HS0.out HB.out) (Kd.C_below HS1.out HB.out) (Kd.C_below HS2.out HB.out)).mono ?_
  rintro e wb3 ⟨Ab, cb, rfl, hcb, hCb, hb⟩
  refine ⟨_, rfl, ?_⟩
  have C2 := Aside0.mk hCb
  have L2 := Aside0.mk hcb
  clear hCb hcb
  have ob_ := Aside0.mk (blk_below BKb.out hb)
  have ov_ := Aside0.mk (blk_below BKv.out hb)
  have ou_ := Aside0.mk (blk_below BKu.out hb)
  have os_ := Aside0.mk (blk_below BKs.out hb)
  have oh_ := Aside0.mk (below_step HB.out hb)
  have oC1_ := Aside0.mk (Kd.C_below C1.out hb)
  clear BKb BKv BKu BKs HB hb C1
  have BKb := ob_
  have BKv := ov_
  have BKu := ou_
  have BKs := os_
  have HB := oh_
  have C1 := oC1_
  clear ob_ ov_ ou_ os_ oh_ oC1_
  refine hK.out _ _ ⟨(blk_cell BKb.out 0).trans rfl, (blk_cell BKb.out 1).trans rfl, (blk_cell BKb.out 2).trans rfl, (blk_cell BKb.out 3).trans rfl, (blk_cell BKb.out 4).trans rfl, (blk_cell BKb.out 5).trans rfl, (blk_cell BKb.out 6).trans rfl, (blk_cell BKb.out 7).trans rfl, (blk_cell BKb.out 8).trans rfl, (blk_cell BKv.out 0).trans rfl, (blk_cell BKv.out 1).trans rfl, (blk_cell BKv.out 2).trans rfl, (blk_cell BKv.out 3).trans rfl, (blk_cell BKv.out 4).trans rfl, (blk_cell BKv.out 5).trans rfl, (blk_cell BKv.out 6).trans rfl, (blk_cell BKv.out 7).trans rfl, (blk_cell BKv.out 8).trans rfl, (blk_cell BKv.out 9).trans rfl, (blk_cell BKu.out 0).trans rfl, (blk_cell BKu.out 1).trans rfl, (blk_cell BKu.out 2).trans rfl, (blk_cell BKu.out 3).trans rfl, (blk_cell BKu.out 4).trans rfl, (blk_cell BKs.out 0).trans rfl, (blk_cell BKs.out 1).trans rfl, (blk_cell BKs.out 2).trans rfl, (blk_cell BKs.out 3).trans rfl, (blk_cell BKs.out 4).trans rfl⟩ (fun hHeld => ?_)
  clear hK K
  refine norm_ (a' := ?_) ?_ ?_
  rotate_left
  · show Act.put _ (some 32) _ = _
    simp only [Act.put, List.setIfInBounds_toArray, List.set_cons_zero, List.set_cons_succ, i64_w, i32_w]
    rfl
  refine one_ (i := 24) (N := some 33) #[true, true, true, true, true, true, true, true, true, true, true, true, true, true, true, true, true, true, true, true, true, true, true, true, true, false, false, false, false, false] rfl rfl (by kernel_rfl) (by decide) (fun K hK => ?_)
  refine goes_ Try.func29 (by kernel_rfl) rfl #[.slice Aa Ls.length ca, .slice Ab Ls.length cb] (by rfl) rfl rfl (by first | (simp only [List.map_toArray, List.map_cons, List.map_nil]; done) | (simp only [List.map_toArray, List.map_cons, List.map_nil]; rfl)) ?_
  with_reducible refine (bsame_t Aa ca Ls Ab cb _ C1.out L1.out C2.out L2.out Ns.out).mono ?_
  rintro e wc3 ⟨rfl, hb⟩
  refine ⟨_, rfl, ?_⟩
  clear C1 C2 L1 L2
  have ob_ := Aside0.mk (blk_below BKb.out hb)
  have ov_ := Aside0.mk (blk_below BKv.out hb)
  have ou_ := Aside0.mk (blk_below BKu.out hb)
  have os_ := Aside0.mk (blk_below BKs.out hb)
  have oh_ := Aside0.mk (below_step HB.out hb)
  clear BKb BKv BKu BKs HB hb 
  have BKb := ob_
  have BKv := ov_
  have BKu := ou_
  have BKs := os_
  have HB := oh_
  clear ob_ ov_ ou_ os_ oh_ 
  refine hK.out _ _ ⟨(blk_cell BKb.out 0).trans rfl, (blk_cell BKb.out 1).trans rfl, (blk_cell BKb.out 2).trans rfl, (blk_cell BKb.out 3).trans rfl, (blk_cell BKb.out 4).trans rfl, (blk_cell BKb.out 5).trans rfl, (blk_cell BKb.out 6).trans rfl, (blk_cell BKb.out 7).trans rfl, (blk_cell BKb.out 8).trans rfl, (blk_cell BKv.out 0).trans rfl, (blk_cell BKv.out 1).trans rfl, (blk_cell BKv.out 2).trans rfl, (blk_cell BKv.out 3).trans rfl, (blk_cell BKv.out 4).trans rfl, (blk_cell BKv.out 5).trans rfl, (blk_cell BKv.out 6).trans rfl, (blk_cell BKv.out 7).trans rfl, (blk_cell BKv.out 8).trans rfl, (blk_cell BKv.out 9).trans rfl, (blk_cell BKu.out 0).trans rfl, (blk_cell BKu.out 1).trans rfl, (blk_cell BKu.out 2).trans rfl, (blk_cell BKu.out 3).trans rfl, (blk_cell BKu.out 4).trans rfl, (blk_cell BKs.out 0).trans rfl, (blk_cell BKs.out 1).trans rfl, (blk_cell BKs.out 2).trans rfl, (blk_cell BKs.out 3).trans rfl, (blk_cell BKs.out 4).trans rfl⟩ (fun hHeld => ?_)
  clear hK K
  refine norm_ (a' := ?_) ?_ ?_
  rotate_left
  · show Act.put _ (some 33) _ = _
    simp only [Act.put, List.setIfInBounds_toArray, List.set_cons_zero, List.set_cons_succ, i64_w, i32_w]
    rfl
  refine pure_ (i := 25) (N := some 34) (v := ?_) (a' := ?_) #[true, true, true, true, true, true, true, true, true, true, true, true, true, true, true, true, true, true, true, true, true, true, true, true, true, true, false, false, false, false] rfl rfl (by kernel_rfl) (fun _ _ _ h => h) (Or.inl ⟨by rfl, ?_⟩) ?_ ?_
  rotate_left
  · intro w'
    go_simp
    with_reducible rfl
  rotate_left
  · simp only [Act.put, List.setIfInBounds_toArray, List.set_cons_zero, List.set_cons_succ, i64_w, i32_w]
    rfl
  refine pure_ (i := 26) (N := some 35) (v := ?_) (a' := ?_) #[true, true, true, true, true, true, true, true, true, true, true, true, true, true, true, true, true, true, true, true, true, true, true, true, true, true, true, false, false, false] rfl rfl (by kernel_rfl) (fun _ _ _ h => h) (Or.inl ⟨by rfl, ?_⟩) ?_ ?_
  rotate_left
  · intro w'
    go_simp
    with_reducible rfl
  rotate_left
  · simp only [Act.put, List.setIfInBounds_toArray, List.set_cons_zero, List.set_cons_succ, i64_w, i32_w]
    rfl
  refine one_ (i := 27) (N := some 36) #[true, true, true, true, true, true, true, true, true, true, true, true, true, true, true, true, true, true, true, true, true, true, true, true, true, true, true, true, false, false] rfl rfl (by kernel_rfl) (by decide) (fun K hK => ?_)
  refine goes_ Try.func90 (by kernel_rfl) rfl #[] (by rfl) rfl rfl (by first | (simp only [List.map_toArray, List.map_cons, List.map_nil]; done) | (simp only [List.map_toArray, List.map_cons, List.map_nil]; rfl)) ?_
  with_reducible refine (alive19 _).mono ?_
  rintro e wd9 ⟨rfl, hb⟩
  refine ⟨_, rfl, ?_⟩
  have ob_ := Aside0.mk (blk_below BKb.out hb)
  have ov_ := Aside0.mk (blk_below BKv.out hb)
  have ou_ := Aside0.mk (blk_below BKu.out hb)
  have os_ := Aside0.mk (blk_below BKs.out hb)
  have oh_ := Aside0.mk (below_step HB.out hb)
  clear BKb BKv BKu BKs HB hb 
  have BKb := ob_
  have BKv := ov_
  have BKu := ou_
  have BKs := os_
  have HB := oh_
  clear ob_ ov_ ou_ os_ oh_ 
  refine hK.out _ _ ⟨(blk_cell BKb.out 0).trans rfl, (blk_cell BKb.out 1).trans rfl, (blk_cell BKb.out 2).trans rfl, (blk_cell BKb.out 3).trans rfl, (blk_cell BKb.out 4).trans rfl, (blk_cell BKb.out 5).trans rfl, (blk_cell BKb.out 6).trans rfl, (blk_cell BKb.out 7).trans rfl, (blk_cell BKb.out 8).trans rfl, (blk_cell BKv.out 0).trans rfl, (blk_cell BKv.out 1).trans rfl, (blk_cell BKv.out 2).trans rfl, (blk_cell BKv.out 3).trans rfl, (blk_cell BKv.out 4).trans rfl, (blk_cell BKv.out 5).trans rfl, (blk_cell BKv.out 6).trans rfl, (blk_cell BKv.out 7).trans rfl, (blk_cell BKv.out 8).trans rfl, (blk_cell BKv.out 9).trans rfl, (blk_cell BKu.out 0).trans rfl, (blk_cell BKu.out 1).trans rfl, (blk_cell BKu.out 2).trans rfl, (blk_cell BKu.out 3).trans rfl, (blk_cell BKu.out 4).trans rfl, (blk_cell BKs.out 0).trans rfl, (blk_cell BKs.out 1).trans rfl, (blk_cell BKs.out 2).trans rfl, (blk_cell BKs.out 3).trans rfl, (blk_cell BKs.out 4).trans rfl⟩ (fun hHeld => ?_)
  clear hK K
  refine norm_ (a' := ?_) ?_ ?_
  rotate_left
  · show Act.put _ (some 36) _ = _
    simp only [Act.put, List.setIfInBounds_toArray, List.set_cons_zero, List.set_cons_succ, i64_w, i32_w]
    rfl
  refine pure_ (i := 28) (N := some 37) (v := ?_) (a' := ?_) #[true, true, true, true, true, true, true, true, true, true, true, true, true, true, true, true, true, true, true, true, true, true, true, true, true, true, true, true, true, false] rfl rfl (by kernel_rfl) (fun _ _ _ h => h) (Or.inl ⟨by rfl, ?_⟩) ?_ ?_
  rotate_left
  · intro w'
    go_simp
    with_reducible rfl
  rotate_left
  · simp only [Act.put, List.setIfInBounds_toArray, List.set_cons_zero, List.set_cons_succ, i64_w, i32_w]
    rfl
  refine pure_ (i := 29) (N := some 8) (v := ?_) (a' := ?_) #[true, true, true, true, true, true, true, true, true, true, true, true, true, true, true, true, true, true, true, true, true, true, true, true, true, true, true, true, true, true] rfl rfl (by kernel_rfl) (fun _ _ _ h => h) (Or.inl ⟨by rfl, ?_⟩) ?_ ?_
  rotate_left
  · intro w'
    go_simp
    with_reducible rfl
  rotate_left
  · simp only [Act.put, List.setIfInBounds_toArray, List.set_cons_zero, List.set_cons_succ, i64_w, i32_w]
    rfl
  refine done_ (by kernel_rfl) ?_
  go_wp2
  go_ret
  exact ⟨rfl, HB.out⟩
end Go.Proofs.Ytlnpmodhejakiaa.RW
namespace Go.Proofs.Ytlnpmodhejakiaa.PX
open Go.RowKit Go.Proofs.YtlnpmodhejakiaaW.PrintWords Go.Proofs.YtlnpmodhejakiaaW.PrintLast Go.Proofs.YtlnpmodhejakiaaW.PrintMore Go.Proofs.Ytlnpmodhejakiaa.D Go.Proofs.Ytlnpmodhejakiaa.RW
open Classical in
noncomputable def stelelaw19_RecordsShows.f (a0_0 : ByteArray) (a0_1 : Int) (a0_2 : Bool) (a0_3 : Bool) (a0_4 : Int) (a0_5 : Int) (a0_6 : ByteArray) (a0_7 : Int) (a0_8 : Int) (a1_0 : ByteArray) (a1_1 : ByteArray) (a1_2 : Int) (a1_3 : Int) (a1_4 : Bool) (l1_5 : List Int) (a1_6 : Int) (a1_7 : Int) (a1_8 : Bool) (a1_9 : Int) (a2_0 : ByteArray) (a2_1 : ByteArray) (a2_2 : Int) (a2_3 : Int) (l2_4 : List S195) (l3_0 : List S89) (l3_1 : List S95) (l3_2 : List S101) (a3_3 : Int) (a3_4 : Int) : Option Bool := if (a0_0.size + a0_6.size ≤ 140737488354000 ∧ a1_0.size + a1_1.size ≤ 140737488354000 ∧ a2_0.size + a2_1.size ≤ 140737488354000) ∧ (a0_1 ≤ 9223372036854775807 ∧ a0_4 ≤ 9223372036854775807 ∧ a0_5 ≤ 9223372036854775807 ∧ a0_7 ≤ 9223372036854775807 ∧ a0_8 ≤ 9223372036854775807 ∧ a1_6 ≤ 9223372036854775807) then some true else none
theorem stelelaw19_RecordsShows.calls (a0_0 : ByteArray) (a0_1 : Int) (a0_2 : Bool) (a0_3 : Bool) (a0_4 : Int) (a0_5 : Int) (a0_6 : ByteArray) (a0_7 : Int) (a0_8 : Int) (a1_0 : ByteArray) (a1_1 : ByteArray) (a1_2 : Int) (a1_3 : Int) (a1_4 : Bool) (A1_5 : Option Addr) (c1_5 : Nat) (l1_5 : List Int) (a1_6 : Int) (a1_7 : Int) (a1_8 : Bool) (a1_9 : Int) (a2_0 : ByteArray) (a2_1 : ByteArray) (a2_2 : Int) (a2_3 : Int) (A2_4 : Option Addr) (c2_4 : Nat) (l2_4 : List S195) (A3_0 : Option Addr) (c3_0 : Nat) (l3_0 : List S89) (A3_1 : Option Addr) (c3_1 : Nat) (l3_1 : List S95) (A3_2 : Option Addr) (c3_2 : Nat) (l3_2 : List S101) (a3_3 : Int) (a3_4 : Int) (r : Bool) (w : World)
    (hr1_5 : Kd.C (Kd.int .u8) w A1_5 l1_5.length l1_5) (hc1_5 : l1_5.length ≤ c1_5) (hr2_4 : Kd.C k195 w A2_4 l2_4.length l2_4) (hc2_4 : l2_4.length ≤ c2_4) (hr3_0 : Kd.C k89 w A3_0 l3_0.length l3_0) (hc3_0 : l3_0.length ≤ c3_0) (hr3_1 : Kd.C k95 w A3_1 l3_1.length l3_1) (hc3_1 : l3_1.length ≤ c3_1) (hr3_2 : Kd.C k101 w A3_2 l3_2.length l3_2) (hc3_2 : l3_2.length ≤ c3_2) (h : stelelaw19_RecordsShows.f a0_0 a0_1 a0_2 a0_3 a0_4 a0_5 a0_6 a0_7 a0_8 a1_0 a1_1 a1_2 a1_3 a1_4 l1_5 a1_6 a1_7 a1_8 a1_9 a2_0 a2_1 a2_2 a2_3 l2_4 l3_0 l3_1 l3_2 a3_3 a3_4 = some r) :
    Calls Try.prog 25 #[.agg #[.string a0_0, .int .i64 a0_1, .bool a0_2, .bool a0_3, .int .i64 a0_4, .int .i64 a0_5, .string a0_6, .int .i64 a0_7, .int .i64 a0_8], .agg #[.string a1_0, .string a1_1, .int .u64 a1_2, .int .u64 a1_3, .bool a1_4, .slice A1_5 l1_5.length c1_5, .int .i64 a1_6, .int .u64 a1_7, .bool a1_8, .int .u64 a1_9], .agg #[.string a2_0, .string a2_1, .int .u64 a2_2, .int .u64 a2_3, .slice A2_4 l2_4.length c2_4], .agg #[.slice A3_0 l3_0.length c3_0, .slice A3_1 l3_1.length c3_1, .slice A3_2 l3_2.length c3_2, .int .u64 a3_3, .int .u64 a3_4]] w fun e w' => e = .returned (.bool r) ∧ Below w.heap.size w w' := by
  unfold stelelaw19_RecordsShows.f at h
  split at h
  · rename_i hh
    obtain rfl := Option.some.inj h
    exact recshows_any a0_0 a0_1 a0_2 a0_3 a0_4 a0_5 a0_6 a0_7 a0_8 a1_0 a1_1 a1_2 a1_3 a1_4 A1_5 c1_5 l1_5 a1_6 a1_7 a1_8 a1_9 a2_0 a2_1 a2_2 a2_3 A2_4 c2_4 l2_4 A3_0 c3_0 l3_0 A3_1 c3_1 l3_1 A3_2 c3_2 l3_2 a3_3 a3_4 w hr1_5 hc1_5 hr2_4 hc2_4 hr3_0 hc3_0 hr3_1 hc3_1 hr3_2 hc3_2 hh.1 hh.2
  · cases h
end Go.Proofs.Ytlnpmodhejakiaa.PX
