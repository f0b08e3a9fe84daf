/- The law RecordsReads: its function. -/
import Derived.Test.YtlnpmodhejakiaaYRecL
import Derived.Test.YtlnpmodhejakiaaYRecK
import Derived.Test.YtlnpmodhejakiaaYPXx4
namespace Go.Proofs.Ytlnpmodhejakiaa.RW
open Go.RowKit Go.Proofs.YtlnpmodhejakiaaW.PrintWords Go.Proofs.YtlnpmodhejakiaaW.PrintLast Go.Proofs.YtlnpmodhejakiaaW.PrintMore Go.Proofs.Ytlnpmodhejakiaa.Sha Go.Proofs.Ytlnpmodhejakiaa.D Go.Proofs.Ytlnpmodhejakiaa.PC Go.Proofs.Ytlnpmodhejakiaa.CP
open Go.Proofs.Ytlnpmodhejakiaa.PX (steleref18_SameVersion.f steleref18_SameVersion.calls)
set_option linter.unusedVariables false
set_option linter.unusedSimpArgs false
theorem eqA_B (d : Nat) (w : World) (x0 : ByteArray) (x1 : Int) (x2 x3 : Bool) (x4 x5 : Int) (x6 : ByteArray) (x7 x8 : Int) :
    (Op.equalIn (d + 2) 89 (.agg #[.string x0, .int .i64 x1, .bool x2, .bool x3, .int .i64 x4, .int .i64 x5, .string x6, .int .i64 x7, .int .i64 x8]) (.agg #[.string x0, .int .i64 x1, .bool x2, .bool x3, .int .i64 x4, .int .i64 x5, .string x6, .int .i64 x7, .int .i64 x8])).run Try.prog w = .ok true w := by
  have h : ∀ r, r = true → (Op.equalIn (d + 2) 89 (.agg #[.string x0, .int .i64 x1, .bool x2, .bool x3, .int .i64 x4, .int .i64 x5, .string x6, .int .i64 x7, .int .i64 x8]) (.agg #[.string x0, .int .i64 x1, .bool x2, .bool x3, .int .i64 x4, .int .i64 x5, .string x6, .int .i64 x7, .int .i64 x8])).run Try.prog w = .ok r w → (Op.equalIn (d + 2) 89 (.agg #[.string x0, .int .i64 x1, .bool x2, .bool x3, .int .i64 x4, .int .i64 x5, .string x6, .int .i64 x7, .int .i64 x8]) (.agg #[.string x0, .int .i64 x1, .bool x2, .bool x3, .int .i64 x4, .int .i64 x5, .string x6, .int .i64 x7, .int .i64 x8])).run Try.prog w = .ok true w := fun r hr h => by rw [← hr]; exact h
  refine h (true && (true && (true && (true && (true && (true && (true && (true && true)))))))) rfl ?_
  refine eqA_of Try.underlying89 (by kernel_rfl) ?_
  iterate 8 (refine eqf_cons (by rfl) (by go_simp; rfl) (by go_simp; rfl) (by go_simp) ?_)
  exact eqf_last (by rfl) (by go_simp; rfl) (by go_simp; rfl) (by go_simp)
attribute [local go_sem high] eqA_B
theorem same_v (x0 x1 : ByteArray) (x2 x3 : Int) (x4 : Bool) (x6 x7 : Int) (x8 : Bool) (x9 : Int) (w : World) :
    Calls Try.prog 95 #[.agg #[.string x0, .string x1, .int .u64 x2, .int .u64 x3, .bool x4, .slice none 0 0, .int .i64 x6, .int .u64 x7, .bool x8, .int .u64 x9], .agg #[.string x0, .string x1, .int .u64 x2, .int .u64 x3, .bool x4, .slice none 0 0, .int .i64 x6, .int .u64 x7, .bool x8, .int .u64 x9]] w fun e w' => e = .returned (.bool true) ∧ Below w.heap.size w w' :=
  steleref18_SameVersion.calls x0 x1 x2 x3 x4 none 0 [] x6 x7 x8 x9 x0 x1 x2 x3 x4 none 0 [] x6 x7 x8 x9 true w (C_none w none) (Nat.le_refl _) (C_none w none) (Nat.le_refl _) (by simp [steleref18_SameVersion.f])
set_option maxHeartbeats 64000000 in
set_option maxRecDepth 100000 in
theorem recreads_any (A : Option Addr) (c : Nat) (b : List Int) (w : World) (hC : Kd.C (Kd.int .u8) w A b.length b) (hc : b.length ≤ c) (hb : okL b) :
    Calls Try.prog 24 #[.slice A b.length c] w fun e w' => e = .returned (.bool true) ∧ Below w.heap.size w w' := by
  have hu1 := Try.underlying89
  have hu2 := Try.underlying95
  have hu3 := Try.underlying101
  have HB := Aside0.mk (Below.refl w.heap.size w)
  have HC := Aside0.mk hC
  have Hc := Aside0.mk hc
  by_cases hl : b.length ≤ 10000
  · obtain ⟨b0_, b1_, b2_, b3_, b4_, b5_, b6_, b7_, b8_, eb, rB, sB⟩ := bothB b hb hl
    obtain ⟨v0_, v1_, v2_, v3_, v4_, v5_, v6_, v7_, v8_, ev, rV, sV⟩ := bothV b hb hl
    obtain ⟨u0_, u1_, u2_, u3_, eu, rU, sU⟩ := bothU b hb hl
    obtain ⟨c0_, c1_, ec, rC, sC⟩ := bothC b hb hl
    have RB := Aside0.mk (fun W h => rB A c W h Hc.out)
    have SB := Aside0.mk (fun W h => sB A c W h Hc.out)
    have RV := Aside0.mk (fun W h => rV A c W h Hc.out)
    have SV := Aside0.mk (fun W h => sV A c W h Hc.out)
    have RU := Aside0.mk (fun W h => rU A c W h Hc.out)
    have SU := Aside0.mk (fun W h => sU A c W h Hc.out)
    have RC := Aside0.mk (fun W h => rC A c W h Hc.out)
    have SC := Aside0.mk (fun W h => sC A c W h Hc.out)
    have NS := Aside0.mk (fun W => same_v v0_ v1_ v2_ v3_ v4_ v5_ v6_ v7_ v8_ W)
    have d1 : decide (10000 < (b.length : Int)) = false := decide_eq_false (by omega)
    have d2 : decide (10000 < b.length) = false := decide_eq_false (by omega)
    clear hC hc hb hl rB sB rV sV rU sU rC sC
    go_enter Try.func24, Try.ntmps24
    go_upto_region 3 with (fail)
    go_cut [3, 4] (fun v3 v4 wc => ∃ g3, v3 = .pointer (some ⟨g3, 0, none⟩) ∧ v4 = .int .i64 eb ∧ Aside0 (wc.heap[g3]? = some (.cells #[.string b0_, .int .i64 b1_, .bool b2_, .bool b3_, .int .i64 b4_, .int .i64 b5_, .string b6_, .int .i64 b7_, .int .i64 b8_] 89 (0, 0))) ∧ Aside0 (Below w.heap.size w wc))
    case first =>
      go_wp2_with (first
        | (go_at_call 91; (with_reducible refine (RB.out _ (Kd.C_below HC.out HB.out)).mono ?_); rintro e w1 ⟨rfl, hb⟩; have nb_ := Aside0.mk (below_step HB.out hb); clear HB hb; have HB := nb_; clear nb_ )
        | ((with_reducible refine gate_dst (N := 3) rfl ?_); refine box_event ?hg (N := 3) ?hd (cs := #[.string ⟨#[]⟩, .int .i64 0, .bool false, .bool false, .int .i64 0, .int .i64 0, .string ⟨#[]⟩, .int .i64 0, .int .i64 0]) (t := 89) ?hr ?_; (case hd => rfl); (case hg => rfl); (case hr => first | (go_simp; done) | (go_simp; rfl)); intro g3 hg w2 hbox hb; have K3 := Aside0.mk hbox; have GE := Aside0.mk (by rw [hg]; exact below_size HB.out : w.heap.size ≤ g3); have nb_ := Aside0.mk (below_step HB.out hb); clear HB hb; have HB := nb_; clear nb_ ; clear hbox hg; have hw0 := (blk_cell K3.out 0).trans (show _ = some (.string ⟨#[]⟩) from rfl); have fw0 := blk_frozen K3.out 0; have hw1 := (blk_cell K3.out 1).trans (show _ = some (.int .i64 0) from rfl); have fw1 := blk_frozen K3.out 1; have hw2 := (blk_cell K3.out 2).trans (show _ = some (.bool false) from rfl); have fw2 := blk_frozen K3.out 2; have hw3 := (blk_cell K3.out 3).trans (show _ = some (.bool false) from rfl); have fw3 := blk_frozen K3.out 3; have hw4 := (blk_cell K3.out 4).trans (show _ = some (.int .i64 0) from rfl); have fw4 := blk_frozen K3.out 4; have hw5 := (blk_cell K3.out 5).trans (show _ = some (.int .i64 0) from rfl); have fw5 := blk_frozen K3.out 5; have hw6 := (blk_cell K3.out 6).trans (show _ = some (.string ⟨#[]⟩) from rfl); have fw6 := blk_frozen K3.out 6; have hw7 := (blk_cell K3.out 7).trans (show _ = some (.int .i64 0) from rfl); have fw7 := blk_frozen K3.out 7; have hw8 := (blk_cell K3.out 8).trans (show _ = some (.int .i64 0) from rfl); have fw8 := blk_frozen K3.out 8))
      go_meet
      case rel => exact ⟨g3, rfl, rfl, ⟨by refine blk_put (cs := #[.string b0_, .int .i64 b1_, .bool b2_, .bool b3_, .int .i64 b4_, .int .i64 b5_, .string b6_, .int .i64 b7_, .int .i64 0]) ?_ 8 _ rfl; refine blk_put (cs := #[.string b0_, .int .i64 b1_, .bool b2_, .bool b3_, .int .i64 b4_, .int .i64 b5_, .string b6_, .int .i64 0, .int .i64 0]) ?_ 7 _ rfl; refine blk_put (cs := #[.string b0_, .int .i64 b1_, .bool b2_, .bool b3_, .int .i64 b4_, .int .i64 b5_, .string ⟨#[]⟩, .int .i64 0, .int .i64 0]) ?_ 6 _ rfl; refine blk_put (cs := #[.string b0_, .int .i64 b1_, .bool b2_, .bool b3_, .int .i64 b4_, .int .i64 0, .string ⟨#[]⟩, .int .i64 0, .int .i64 0]) ?_ 5 _ rfl; refine blk_put (cs := #[.string b0_, .int .i64 b1_, .bool b2_, .bool b3_, .int .i64 0, .int .i64 0, .string ⟨#[]⟩, .int .i64 0, .int .i64 0]) ?_ 4 _ rfl; refine blk_put (cs := #[.string b0_, .int .i64 b1_, .bool b2_, .bool false, .int .i64 0, .int .i64 0, .string ⟨#[]⟩, .int .i64 0, .int .i64 0]) ?_ 3 _ rfl; refine blk_put (cs := #[.string b0_, .int .i64 b1_, .bool false, .bool false, .int .i64 0, .int .i64 0, .string ⟨#[]⟩, .int .i64 0, .int .i64 0]) ?_ 2 _ rfl; refine blk_put (cs := #[.string b0_, .int .i64 0, .bool false, .bool false, .int .i64 0, .int .i64 0, .string ⟨#[]⟩, .int .i64 0, .int .i64 0]) ?_ 1 _ rfl; refine blk_put (cs := #[.string ⟨#[]⟩, .int .i64 0, .bool false, .bool false, .int .i64 0, .int .i64 0, .string ⟨#[]⟩, .int .i64 0, .int .i64 0]) ?_ 0 _ rfl; exact K3.out⟩, ⟨by (iterate 9 (refine below_set ?_ GE.out)); exact HB.out⟩⟩
    case rest =>
      obtain ⟨g3, rfl, rfl, K3, HB⟩ := hcut
      go_upto_region 4 with (fail)
      go_cut [5, 6] (fun v5 v6 wc => ∃ g5, v5 = .pointer (some ⟨g5, 0, none⟩) ∧ v6 = .int .i64 eb ∧ Aside0 (wc.heap[g3]? = some (.cells #[.string b0_, .int .i64 b1_, .bool b2_, .bool b3_, .int .i64 b4_, .int .i64 b5_, .string b6_, .int .i64 b7_, .int .i64 b8_] 89 (0, 0))) ∧ Aside0 (wc.heap[g5]? = some (.cells #[.string b0_, .int .i64 b1_, .bool b2_, .bool b3_, .int .i64 b4_, .int .i64 b5_, .string b6_, .int .i64 b7_, .int .i64 b8_] 89 (0, 0))) ∧ Aside0 (Below w.heap.size w wc))
      case first =>
        go_wp2_with (first
          | (go_at_call 92; (with_reducible refine (SB.out _ (Kd.C_below HC.out HB.out)).mono ?_); rintro e w1 ⟨rfl, hb⟩; have x3_ := Aside0.mk (blk_below K3.out hb); have nb_ := Aside0.mk (below_step HB.out hb); clear HB K3 hb; have HB := nb_; have K3 := x3_; clear nb_ x3_)
          | ((with_reducible refine gate_dst (N := 5) rfl ?_); refine box_event ?hg (N := 5) ?hd (cs := #[.string ⟨#[]⟩, .int .i64 0, .bool false, .bool false, .int .i64 0, .int .i64 0, .string ⟨#[]⟩, .int .i64 0, .int .i64 0]) (t := 89) ?hr ?_; (case hd => rfl); (case hg => rfl); (case hr => first | (go_simp; done) | (go_simp; rfl)); intro g5 hg w2 hbox hb; have K5 := Aside0.mk hbox; have GE := Aside0.mk (by rw [hg]; exact below_size HB.out : w.heap.size ≤ g5); have N3 := Aside0.mk (by rw [hg]; exact Nat.ne_of_lt (blk_lt K3.out) : g3 ≠ g5); have x3_ := Aside0.mk (blk_below K3.out hb); have nb_ := Aside0.mk (below_step HB.out hb); clear HB K3 hb; have HB := nb_; have K3 := x3_; clear nb_ x3_; clear hbox hg; have hw0 := (blk_cell K5.out 0).trans (show _ = some (.string ⟨#[]⟩) from rfl); have fw0 := blk_frozen K5.out 0; have hw1 := (blk_cell K5.out 1).trans (show _ = some (.int .i64 0) from rfl); have fw1 := blk_frozen K5.out 1; have hw2 := (blk_cell K5.out 2).trans (show _ = some (.bool false) from rfl); have fw2 := blk_frozen K5.out 2; have hw3 := (blk_cell K5.out 3).trans (show _ = some (.bool false) from rfl); have fw3 := blk_frozen K5.out 3; have hw4 := (blk_cell K5.out 4).trans (show _ = some (.int .i64 0) from rfl); have fw4 := blk_frozen K5.out 4; have hw5 := (blk_cell K5.out 5).trans (show _ = some (.int .i64 0) from rfl); have fw5 := blk_frozen K5.out 5; have hw6 := (blk_cell K5.out 6).trans (show _ = some (.string ⟨#[]⟩) from rfl); have fw6 := blk_frozen K5.out 6; have hw7 := (blk_cell K5.out 7).trans (show _ = some (.int .i64 0) from rfl); have fw7 := blk_frozen K5.out 7; have hw8 := (blk_cell K5.out 8).trans (show _ = some (.int .i64 0) from rfl); have fw8 := blk_frozen K5.out 8))
        go_meet
        case rel => exact ⟨g5, rfl, rfl, ⟨by (iterate 9 (refine blk_far ?_ N3.out _)); exact K3.out⟩, ⟨by refine blk_put (cs := #[.string b0_, .int .i64 b1_, .bool b2_, .bool b3_, .int .i64 b4_, .int .i64 b5_, .string b6_, .int .i64 b7_, .int .i64 0]) ?_ 8 _ rfl; refine blk_put (cs := #[.string b0_, .int .i64 b1_, .bool b2_, .bool b3_, .int .i64 b4_, .int .i64 b5_, .string b6_, .int .i64 0, .int .i64 0]) ?_ 7 _ rfl; refine blk_put (cs := #[.string b0_, .int .i64 b1_, .bool b2_, .bool b3_, .int .i64 b4_, .int .i64 b5_, .string ⟨#[]⟩, .int .i64 0, .int .i64 0]) ?_ 6 _ rfl; refine blk_put (cs := #[.string b0_, .int .i64 b1_, .bool b2_, .bool b3_, .int .i64 b4_, .int .i64 0, .string ⟨#[]⟩, .int .i64 0, .int .i64 0]) ?_ 5 _ rfl; refine blk_put (cs := #[.string b0_, .int .i64 b1_, .bool b2_, .bool b3_, .int .i64 0, .int .i64 0, .string ⟨#[]⟩, .int .i64 0, .int .i64 0]) ?_ 4 _ rfl; refine blk_put (cs := #[.string b0_, .int .i64 b1_, .bool b2_, .bool false, .int .i64 0, .int .i64 0, .string ⟨#[]⟩, .int .i64 0, .int .i64 0]) ?_ 3 _ rfl; refine blk_put (cs := #[.string b0_, .int .i64 b1_, .bool false, .bool false, .int .i64 0, .int .i64 0, .string ⟨#[]⟩, .int .i64 0, .int .i64 0]) ?_ 2 _ rfl; refine blk_put (cs := #[.string b0_, .int .i64 0, .bool false, .bool false, .int .i64 0, .int .i64 0, .string ⟨#[]⟩, .int .i64 0, .int .i64 0]) ?_ 1 _ rfl; refine blk_put (cs := #[.string ⟨#[]⟩, .int .i64 0, .bool false, .bool false, .int .i64 0, .int .i64 0, .string ⟨#[]⟩, .int .i64 0, .int .i64 0]) ?_ 0 _ rfl; exact K5.out⟩, ⟨by (iterate 9 (refine below_set ?_ GE.out)); exact HB.out⟩⟩
      case rest =>
        obtain ⟨g5, rfl, rfl, K3, K5, HB⟩ := hcut
        go_upto_region 5 with (fail)
        go_cut [7, 8] (fun v7 v8 wc => ∃ g7, v7 = .pointer (some ⟨g7, 0, none⟩) ∧ v8 = .int .i64 ev ∧ Aside0 (wc.heap[g3]? = some (.cells #[.string b0_, .int .i64 b1_, .bool b2_, .bool b3_, .int .i64 b4_, .int .i64 b5_, .string b6_, .int .i64 b7_, .int .i64 b8_] 89 (0, 0))) ∧ Aside0 (wc.heap[g5]? = some (.cells #[.string b0_, .int .i64 b1_, .bool b2_, .bool b3_, .int .i64 b4_, .int .i64 b5_, .string b6_, .int .i64 b7_, .int .i64 b8_] 89 (0, 0))) ∧ Aside0 (wc.heap[g7]? = some (.cells #[.string v0_, .string v1_, .int .u64 v2_, .int .u64 v3_, .bool v4_, .slice none 0 0, .int .i64 v5_, .int .u64 v6_, .bool v7_, .int .u64 v8_] 95 (0, 0))) ∧ Aside0 (Below w.heap.size w wc))
        case first =>
          go_wp2_with (first
            | (go_at_call 93; (with_reducible refine (RV.out _ (Kd.C_below HC.out HB.out)).mono ?_); rintro e w1 ⟨rfl, hb⟩; have x3_ := Aside0.mk (blk_below K3.out hb); have x5_ := Aside0.mk (blk_below K5.out hb); have nb_ := Aside0.mk (below_step HB.out hb); clear HB K3 K5 hb; have HB := nb_; have K3 := x3_; have K5 := x5_; clear nb_ x3_ x5_)
            | ((with_reducible refine gate_dst (N := 7) rfl ?_); refine box_event ?hg (N := 7) ?hd (cs := #[.string ⟨#[]⟩, .string ⟨#[]⟩, .int .u64 0, .int .u64 0, .bool false, .slice none 0 0, .int .i64 0, .int .u64 0, .bool false, .int .u64 0]) (t := 95) ?hr ?_; (case hd => rfl); (case hg => rfl); (case hr => first | (go_simp; done) | (go_simp; rfl)); intro g7 hg w2 hbox hb; have K7 := Aside0.mk hbox; have GE := Aside0.mk (by rw [hg]; exact below_size HB.out : w.heap.size ≤ g7); have N3 := Aside0.mk (by rw [hg]; exact Nat.ne_of_lt (blk_lt K3.out) : g3 ≠ g7); have N5 := Aside0.mk (by rw [hg]; exact Nat.ne_of_lt (blk_lt K5.out) : g5 ≠ g7); have x3_ := Aside0.mk (blk_below K3.out hb); have x5_ := Aside0.mk (blk_below K5.out hb); have nb_ := Aside0.mk (below_step HB.out hb); clear HB K3 K5 hb; have HB := nb_; have K3 := x3_; have K5 := x5_; clear nb_ x3_ x5_; clear hbox hg; have hw0 := (blk_cell K7.out 0).trans (show _ = some (.string ⟨#[]⟩) from rfl); have fw0 := blk_frozen K7.out 0; have hw1 := (blk_cell K7.out 1).trans (show _ = some (.string ⟨#[]⟩) from rfl); have fw1 := blk_frozen K7.out 1; have hw2 := (blk_cell K7.out 2).trans (show _ = some (.int .u64 0) from rfl); have fw2 := blk_frozen K7.out 2; have hw3 := (blk_cell K7.out 3).trans (show _ = some (.int .u64 0) from rfl); have fw3 := blk_frozen K7.out 3; have hw4 := (blk_cell K7.out 4).trans (show _ = some (.bool false) from rfl); have fw4 := blk_frozen K7.out 4; have hw5 := (blk_cell K7.out 5).trans (show _ = some (.slice none 0 0) from rfl); have fw5 := blk_frozen K7.out 5; have hw6 := (blk_cell K7.out 6).trans (show _ = some (.int .i64 0) from rfl); have fw6 := blk_frozen K7.out 6; have hw7 := (blk_cell K7.out 7).trans (show _ = some (.int .u64 0) from rfl); have fw7 := blk_frozen K7.out 7; have hw8 := (blk_cell K7.out 8).trans (show _ = some (.bool false) from rfl); have fw8 := blk_frozen K7.out 8; have hw9 := (blk_cell K7.out 9).trans (show _ = some (.int .u64 0) from rfl); have fw9 := blk_frozen K7.out 9))
          go_meet
          case rel => exact ⟨g7, rfl, rfl, ⟨by (iterate 10 (refine blk_far ?_ N3.out _)); exact K3.out⟩, ⟨by (iterate 10 (refine blk_far ?_ N5.out _)); exact K5.out⟩, ⟨by refine blk_put (cs := #[.string v0_, .string v1_, .int .u64 v2_, .int .u64 v3_, .bool v4_, .slice none 0 0, .int .i64 v5_, .int .u64 v6_, .bool v7_, .int .u64 0]) ?_ 9 _ rfl; refine blk_put (cs := #[.string v0_, .string v1_, .int .u64 v2_, .int .u64 v3_, .bool v4_, .slice none 0 0, .int .i64 v5_, .int .u64 v6_, .bool false, .int .u64 0]) ?_ 8 _ rfl; refine blk_put (cs := #[.string v0_, .string v1_, .int .u64 v2_, .int .u64 v3_, .bool v4_, .slice none 0 0, .int .i64 v5_, .int .u64 0, .bool false, .int .u64 0]) ?_ 7 _ rfl; refine blk_put (cs := #[.string v0_, .string v1_, .int .u64 v2_, .int .u64 v3_, .bool v4_, .slice none 0 0, .int .i64 0, .int .u64 0, .bool false, .int .u64 0]) ?_ 6 _ rfl; refine blk_put (cs := #[.string v0_, .string v1_, .int .u64 v2_, .int .u64 v3_, .bool v4_, .slice none 0 0, .int .i64 0, .int .u64 0, .bool false, .int .u64 0]) ?_ 5 _ rfl; refine blk_put (cs := #[.string v0_, .string v1_, .int .u64 v2_, .int .u64 v3_, .bool false, .slice none 0 0, .int .i64 0, .int .u64 0, .bool false, .int .u64 0]) ?_ 4 _ rfl; refine blk_put (cs := #[.string v0_, .string v1_, .int .u64 v2_, .int .u64 0, .bool false, .slice none 0 0, .int .i64 0, .int .u64 0, .bool false, .int .u64 0]) ?_ 3 _ rfl; refine blk_put (cs := #[.string v0_, .string v1_, .int .u64 0, .int .u64 0, .bool false, .slice none 0 0, .int .i64 0, .int .u64 0, .bool false, .int .u64 0]) ?_ 2 _ rfl; refine blk_put (cs := #[.string v0_, .string ⟨#[]⟩, .int .u64 0, .int .u64 0, .bool false, .slice none 0 0, .int .i64 0, .int .u64 0, .bool false, .int .u64 0]) ?_ 1 _ rfl; refine blk_put (cs := #[.string ⟨#[]⟩, .string ⟨#[]⟩, .int .u64 0, .int .u64 0, .bool false, .slice none 0 0, .int .i64 0, .int .u64 0, .bool false, .int .u64 0]) ?_ 0 _ rfl; exact K7.out⟩, ⟨by (iterate 10 (refine below_set ?_ GE.out)); exact HB.out⟩⟩
        case rest =>
          obtain ⟨g7, rfl, rfl, K3, K5, K7, HB⟩ := hcut
          go_upto_region 6 with (fail)
          go_cut [9, 10] (fun v9 v10 wc => ∃ g9, v9 = .pointer (some ⟨g9, 0, none⟩) ∧ v10 = .int .i64 ev ∧ Aside0 (wc.heap[g3]? = some (.cells #[.string b0_, .int .i64 b1_, .bool b2_, .bool b3_, .int .i64 b4_, .int .i64 b5_, .string b6_, .int .i64 b7_, .int .i64 b8_] 89 (0, 0))) ∧ Aside0 (wc.heap[g5]? = some (.cells #[.string b0_, .int .i64 b1_, .bool b2_, .bool b3_, .int .i64 b4_, .int .i64 b5_, .string b6_, .int .i64 b7_, .int .i64 b8_] 89 (0, 0))) ∧ Aside0 (wc.heap[g7]? = some (.cells #[.string v0_, .string v1_, .int .u64 v2_, .int .u64 v3_, .bool v4_, .slice none 0 0, .int .i64 v5_, .int .u64 v6_, .bool v7_, .int .u64 v8_] 95 (0, 0))) ∧ Aside0 (wc.heap[g9]? = some (.cells #[.string v0_, .string v1_, .int .u64 v2_, .int .u64 v3_, .bool v4_, .slice none 0 0, .int .i64 v5_, .int .u64 v6_, .bool v7_, .int .u64 v8_] 95 (0, 0))) ∧ Aside0 (Below w.heap.size w wc))
          case first =>
            go_wp2_with (first
              | (go_at_call 94; (with_reducible refine (SV.out _ (Kd.C_below HC.out HB.out)).mono ?_); rintro e w1 ⟨rfl, hb⟩; have x3_ := Aside0.mk (blk_below K3.out hb); have x5_ := Aside0.mk (blk_below K5.out hb); have x7_ := Aside0.mk (blk_below K7.out hb); have nb_ := Aside0.mk (below_step HB.out hb); clear HB K3 K5 K7 hb; have HB := nb_; have K3 := x3_; have K5 := x5_; have K7 := x7_; clear nb_ x3_ x5_ x7_)
              | ((with_reducible refine gate_dst (N := 9) rfl ?_); refine box_event ?hg (N := 9) ?hd (cs := #[.string ⟨#[]⟩, .string ⟨#[]⟩, .int .u64 0, .int .u64 0, .bool false, .slice none 0 0, .int .i64 0, .int .u64 0, .bool false, .int .u64 0]) (t := 95) ?hr ?_; (case hd => rfl); (case hg => rfl); (case hr => first | (go_simp; done) | (go_simp; rfl)); intro g9 hg w2 hbox hb; have K9 := Aside0.mk hbox; have GE := Aside0.mk (by rw [hg]; exact below_size HB.out : w.heap.size ≤ g9); have N3 := Aside0.mk (by rw [hg]; exact Nat.ne_of_lt (blk_lt K3.out) : g3 ≠ g9); have N5 := Aside0.mk (by rw [hg]; exact Nat.ne_of_lt (blk_lt K5.out) : g5 ≠ g9); have N7 := Aside0.mk (by rw [hg]; exact Nat.ne_of_lt (blk_lt K7.out) : g7 ≠ g9); have x3_ := Aside0.mk (blk_below K3.out hb); have x5_ := Aside0.mk (blk_below K5.out hb); have x7_ := Aside0.mk (blk_below K7.out hb); have nb_ := Aside0.mk (below_step HB.out hb); clear HB K3 K5 K7 hb; have HB := nb_; have K3 := x3_; have K5 := x5_; have K7 := x7_; clear nb_ x3_ x5_ x7_; clear hbox hg; have hw0 := (blk_cell K9.out 0).trans (show _ = some (.string ⟨#[]⟩) from rfl); have fw0 := blk_frozen K9.out 0; have hw1 := (blk_cell K9.out 1).trans (show _ = some (.string ⟨#[]⟩) from rfl); have fw1 := blk_frozen K9.out 1; have hw2 := (blk_cell K9.out 2).trans (show _ = some (.int .u64 0) from rfl); have fw2 := blk_frozen K9.out 2; have hw3 := (blk_cell K9.out 3).trans (show _ = some (.int .u64 0) from rfl); have fw3 := blk_frozen K9.out 3; have hw4 := (blk_cell K9.out 4).trans (show _ = some (.bool false) from rfl); have fw4 := blk_frozen K9.out 4; have hw5 := (blk_cell K9.out 5).trans (show _ = some (.slice none 0 0) from rfl); have fw5 := blk_frozen K9.out 5; have hw6 := (blk_cell K9.out 6).trans (show _ = some (.int .i64 0) from rfl); have fw6 := blk_frozen K9.out 6; have hw7 := (blk_cell K9.out 7).trans (show _ = some (.int .u64 0) from rfl); have fw7 := blk_frozen K9.out 7; have hw8 := (blk_cell K9.out 8).trans (show _ = some (.bool false) from rfl); have fw8 := blk_frozen K9.out 8; have hw9 := (blk_cell K9.out 9).trans (show _ = some (.int .u64 0) from rfl); have fw9 := blk_frozen K9.out 9))
            go_meet
            case rel => exact ⟨g9, rfl, rfl, ⟨by (iterate 10 (refine blk_far ?_ N3.out _)); exact K3.out⟩, ⟨by (iterate 10 (refine blk_far ?_ N5.out _)); exact K5.out⟩, ⟨by (iterate 10 (refine blk_far ?_ N7.out _)); exact K7.out⟩, ⟨by refine blk_put (cs := #[.string v0_, .string v1_, .int .u64 v2_, .int .u64 v3_, .bool v4_, .slice none 0 0, .int .i64 v5_, .int .u64 v6_, .bool v7_, .int .u64 0]) ?_ 9 _ rfl; refine blk_put (cs := #[.string v0_, .string v1_, .int .u64 v2_, .int .u64 v3_, .bool v4_, .slice none 0 0, .int .i64 v5_, .int .u64 v6_, .bool false, .int .u64 0]) ?_ 8 _ rfl; refine blk_put (cs := #[.string v0_, .string v1_, .int .u64 v2_, .int .u64 v3_, .bool v4_, .slice none 0 0, .int .i64 v5_, .int .u64 0, .bool false, .int .u64 0]) ?_ 7 _ rfl; refine blk_put (cs := #[.string v0_, .string v1_, .int .u64 v2_, .int .u64 v3_, .bool v4_, .slice none 0 0, .int .i64 0, .int .u64 0, .bool false, .int .u64 0]) ?_ 6 _ rfl; refine blk_put (cs := #[.string v0_, .string v1_, .int .u64 v2_, .int .u64 v3_, .bool v4_, .slice none 0 0, .int .i64 0, .int .u64 0, .bool false, .int .u64 0]) ?_ 5 _ rfl; refine blk_put (cs := #[.string v0_, .string v1_, .int .u64 v2_, .int .u64 v3_, .bool false, .slice none 0 0, .int .i64 0, .int .u64 0, .bool false, .int .u64 0]) ?_ 4 _ rfl; refine blk_put (cs := #[.string v0_, .string v1_, .int .u64 v2_, .int .u64 0, .bool false, .slice none 0 0, .int .i64 0, .int .u64 0, .bool false, .int .u64 0]) ?_ 3 _ rfl; refine blk_put (cs := #[.string v0_, .string v1_, .int .u64 0, .int .u64 0, .bool false, .slice none 0 0, .int .i64 0, .int .u64 0, .bool false, .int .u64 0]) ?_ 2 _ rfl; refine blk_put (cs := #[.string v0_, .string ⟨#[]⟩, .int .u64 0, .int .u64 0, .bool false, .slice none 0 0, .int .i64 0, .int .u64 0, .bool false, .int .u64 0]) ?_ 1 _ rfl; refine blk_put (cs := #[.string ⟨#[]⟩, .string ⟨#[]⟩, .int .u64 0, .int .u64 0, .bool false, .slice none 0 0, .int .i64 0, .int .u64 0, .bool false, .int .u64 0]) ?_ 0 _ rfl; exact K9.out⟩, ⟨by (iterate 10 (refine below_set ?_ GE.out)); exact HB.out⟩⟩
          case rest =>
            obtain ⟨g9, rfl, rfl, K3, K5, K7, K9, HB⟩ := hcut
            have hp0 := (blk_cell K3.out 0).trans (show _ = some (.string b0_) from rfl)
            have fp0 := blk_frozen K3.out 0
            have hp1 := (blk_cell K3.out 1).trans (show _ = some (.int .i64 b1_) from rfl)
            have fp1 := blk_frozen K3.out 1
            have hp2 := (blk_cell K3.out 2).trans (show _ = some (.bool b2_) from rfl)
            have fp2 := blk_frozen K3.out 2
            have hp3 := (blk_cell K3.out 3).trans (show _ = some (.bool b3_) from rfl)
            have fp3 := blk_frozen K3.out 3
            have hp4 := (blk_cell K3.out 4).trans (show _ = some (.int .i64 b4_) from rfl)
            have fp4 := blk_frozen K3.out 4
            have hp5 := (blk_cell K3.out 5).trans (show _ = some (.int .i64 b5_) from rfl)
            have fp5 := blk_frozen K3.out 5
            have hp6 := (blk_cell K3.out 6).trans (show _ = some (.string b6_) from rfl)
            have fp6 := blk_frozen K3.out 6
            have hp7 := (blk_cell K3.out 7).trans (show _ = some (.int .i64 b7_) from rfl)
            have fp7 := blk_frozen K3.out 7
            have hp8 := (blk_cell K3.out 8).trans (show _ = some (.int .i64 b8_) from rfl)
            have fp8 := blk_frozen K3.out 8
            have hq0 := (blk_cell K5.out 0).trans (show _ = some (.string b0_) from rfl)
            have fq0 := blk_frozen K5.out 0
            have hq1 := (blk_cell K5.out 1).trans (show _ = some (.int .i64 b1_) from rfl)
            have fq1 := blk_frozen K5.out 1
            have hq2 := (blk_cell K5.out 2).trans (show _ = some (.bool b2_) from rfl)
            have fq2 := blk_frozen K5.out 2
            have hq3 := (blk_cell K5.out 3).trans (show _ = some (.bool b3_) from rfl)
            have fq3 := blk_frozen K5.out 3
            have hq4 := (blk_cell K5.out 4).trans (show _ = some (.int .i64 b4_) from rfl)
            have fq4 := blk_frozen K5.out 4
            have hq5 := (blk_cell K5.out 5).trans (show _ = some (.int .i64 b5_) from rfl)
            have fq5 := blk_frozen K5.out 5
            have hq6 := (blk_cell K5.out 6).trans (show _ = some (.string b6_) from rfl)
            have fq6 := blk_frozen K5.out 6
            have hq7 := (blk_cell K5.out 7).trans (show _ = some (.int .i64 b7_) from rfl)
            have fq7 := blk_frozen K5.out 7
            have hq8 := (blk_cell K5.out 8).trans (show _ = some (.int .i64 b8_) from rfl)
            have fq8 := blk_frozen K5.out 8
            have hr0 := (blk_cell K7.out 0).trans (show _ = some (.string v0_) from rfl)
            have fr0 := blk_frozen K7.out 0
            have hr1 := (blk_cell K7.out 1).trans (show _ = some (.string v1_) from rfl)
            have fr1 := blk_frozen K7.out 1
            have hr2 := (blk_cell K7.out 2).trans (show _ = some (.int .u64 v2_) from rfl)
            have fr2 := blk_frozen K7.out 2
            have hr3 := (blk_cell K7.out 3).trans (show _ = some (.int .u64 v3_) from rfl)
            have fr3 := blk_frozen K7.out 3
            have hr4 := (blk_cell K7.out 4).trans (show _ = some (.bool v4_) from rfl)
            have fr4 := blk_frozen K7.out 4
            have hr5 := (blk_cell K7.out 5).trans (show _ = some (.slice none 0 0) from rfl)
            have fr5 := blk_frozen K7.out 5
            have hr6 := (blk_cell K7.out 6).trans (show _ = some (.int .i64 v5_) from rfl)
            have fr6 := blk_frozen K7.out 6
            have hr7 := (blk_cell K7.out 7).trans (show _ = some (.int .u64 v6_) from rfl)
            have fr7 := blk_frozen K7.out 7
            have hr8 := (blk_cell K7.out 8).trans (show _ = some (.bool v7_) from rfl)
            have fr8 := blk_frozen K7.out 8
            have hr9 := (blk_cell K7.out 9).trans (show _ = some (.int .u64 v8_) from rfl)
            have fr9 := blk_frozen K7.out 9
            have hs0 := (blk_cell K9.out 0).trans (show _ = some (.string v0_) from rfl)
            have fs0 := blk_frozen K9.out 0
            have hs1 := (blk_cell K9.out 1).trans (show _ = some (.string v1_) from rfl)
            have fs1 := blk_frozen K9.out 1
            have hs2 := (blk_cell K9.out 2).trans (show _ = some (.int .u64 v2_) from rfl)
            have fs2 := blk_frozen K9.out 2
            have hs3 := (blk_cell K9.out 3).trans (show _ = some (.int .u64 v3_) from rfl)
            have fs3 := blk_frozen K9.out 3
            have hs4 := (blk_cell K9.out 4).trans (show _ = some (.bool v4_) from rfl)
            have fs4 := blk_frozen K9.out 4
            have hs5 := (blk_cell K9.out 5).trans (show _ = some (.slice none 0 0) from rfl)
            have fs5 := blk_frozen K9.out 5
            have hs6 := (blk_cell K9.out 6).trans (show _ = some (.int .i64 v5_) from rfl)
            have fs6 := blk_frozen K9.out 6
            have hs7 := (blk_cell K9.out 7).trans (show _ = some (.int .u64 v6_) from rfl)
            have fs7 := blk_frozen K9.out 7
            have hs8 := (blk_cell K9.out 8).trans (show _ = some (.bool v7_) from rfl)
            have fs8 := blk_frozen K9.out 8
            have hs9 := (blk_cell K9.out 9).trans (show _ = some (.int .u64 v8_) from rfl)
            have fs9 := blk_frozen K9.out 9
            go_upto_region 9 with (go_at_call 95; (with_reducible refine (NS.out _).mono ?_); rintro e wn ⟨rfl, hb⟩; have x3_ := Aside0.mk (blk_below K3.out hb); have x5_ := Aside0.mk (blk_below K5.out hb); have x7_ := Aside0.mk (blk_below K7.out hb); have x9_ := Aside0.mk (blk_below K9.out hb); have nb_ := Aside0.mk (below_step HB.out hb); clear HB K3 K5 K7 K9 hb; have HB := nb_; have K3 := x3_; have K5 := x5_; have K7 := x7_; have K9 := x9_; clear nb_ x3_ x5_ x7_ x9_; clear hp0 fp0 hp1 fp1 hp2 fp2 hp3 fp3 hp4 fp4 hp5 fp5 hp6 fp6 hp7 fp7 hp8 fp8 hq0 fq0 hq1 fq1 hq2 fq2 hq3 fq3 hq4 fq4 hq5 fq5 hq6 fq6 hq7 fq7 hq8 fq8 hr0 fr0 hr1 fr1 hr2 fr2 hr3 fr3 hr4 fr4 hr5 fr5 hr6 fr6 hr7 fr7 hr8 fr8 hr9 fr9 hs0 fs0 hs1 fs1 hs2 fs2 hs3 fs3 hs4 fs4 hs5 fs5 hs6 fs6 hs7 fs7 hs8 fs8 hs9 fs9)
            (try simp only [Act.put, List.setIfInBounds_toArray, List.set_cons_zero, List.set_cons_succ])
            clear K3 K5 K7 K9
            go_cut [11, 12] (fun v11 v12 wc => ∃ g11, v11 = .pointer (some ⟨g11, 0, none⟩) ∧ v12 = .int .i64 eu ∧ Aside0 (wc.heap[g11]? = some (.cells #[.string u0_, .string u1_, .int .u64 u2_, .int .u64 u3_, .slice none 0 0] 101 (0, 0))) ∧ Aside0 (Below w.heap.size w wc))
            case first =>
              go_wp2_with (first
                | (go_at_call 96; (with_reducible refine (RU.out _ (Kd.C_below HC.out HB.out)).mono ?_); rintro e w1 ⟨rfl, hb⟩; have nb_ := Aside0.mk (below_step HB.out hb); clear HB hb; have HB := nb_; clear nb_ )
                | ((with_reducible refine gate_dst (N := 11) rfl ?_); refine box_event ?hg (N := 11) ?hd (cs := #[.string ⟨#[]⟩, .string ⟨#[]⟩, .int .u64 0, .int .u64 0, .slice none 0 0]) (t := 101) ?hr ?_; (case hd => rfl); (case hg => rfl); (case hr => first | (go_simp; done) | (go_simp; rfl)); intro g11 hg w2 hbox hb; have K11 := Aside0.mk hbox; have GE := Aside0.mk (by rw [hg]; exact below_size HB.out : w.heap.size ≤ g11); have nb_ := Aside0.mk (below_step HB.out hb); clear HB hb; have HB := nb_; clear nb_ ; clear hbox hg; have hw0 := (blk_cell K11.out 0).trans (show _ = some (.string ⟨#[]⟩) from rfl); have fw0 := blk_frozen K11.out 0; have hw1 := (blk_cell K11.out 1).trans (show _ = some (.string ⟨#[]⟩) from rfl); have fw1 := blk_frozen K11.out 1; have hw2 := (blk_cell K11.out 2).trans (show _ = some (.int .u64 0) from rfl); have fw2 := blk_frozen K11.out 2; have hw3 := (blk_cell K11.out 3).trans (show _ = some (.int .u64 0) from rfl); have fw3 := blk_frozen K11.out 3; have hw4 := (blk_cell K11.out 4).trans (show _ = some (.slice none 0 0) from rfl); have fw4 := blk_frozen K11.out 4))
              go_meet
              case rel => exact ⟨g11, rfl, rfl, ⟨by refine blk_put (cs := #[.string u0_, .string u1_, .int .u64 u2_, .int .u64 u3_, .slice none 0 0]) ?_ 4 _ rfl; refine blk_put (cs := #[.string u0_, .string u1_, .int .u64 u2_, .int .u64 0, .slice none 0 0]) ?_ 3 _ rfl; refine blk_put (cs := #[.string u0_, .string u1_, .int .u64 0, .int .u64 0, .slice none 0 0]) ?_ 2 _ rfl; refine blk_put (cs := #[.string u0_, .string ⟨#[]⟩, .int .u64 0, .int .u64 0, .slice none 0 0]) ?_ 1 _ rfl; refine blk_put (cs := #[.string ⟨#[]⟩, .string ⟨#[]⟩, .int .u64 0, .int .u64 0, .slice none 0 0]) ?_ 0 _ rfl; exact K11.out⟩, ⟨by (iterate 5 (refine below_set ?_ GE.out)); exact HB.out⟩⟩
            case rest =>
              obtain ⟨g11, rfl, rfl, K11, HB⟩ := hcut
              go_upto_region 10 with (fail)
              go_cut [13, 14] (fun v13 v14 wc => ∃ g13, v13 = .pointer (some ⟨g13, 0, none⟩) ∧ v14 = .int .i64 eu ∧ Aside0 (wc.heap[g11]? = some (.cells #[.string u0_, .string u1_, .int .u64 u2_, .int .u64 u3_, .slice none 0 0] 101 (0, 0))) ∧ Aside0 (wc.heap[g13]? = some (.cells #[.string u0_, .string u1_, .int .u64 u2_, .int .u64 u3_, .slice none 0 0] 101 (0, 0))) ∧ Aside0 (Below w.heap.size w wc))
              case first =>
                go_wp2_with (first
                  | (go_at_call 97; (with_reducible refine (SU.out _ (Kd.C_below HC.out HB.out)).mono ?_); rintro e w1 ⟨rfl, hb⟩; have x11_ := Aside0.mk (blk_below K11.out hb); have nb_ := Aside0.mk (below_step HB.out hb); clear HB K11 hb; have HB := nb_; have K11 := x11_; clear nb_ x11_)
                  | ((with_reducible refine gate_dst (N := 13) rfl ?_); refine box_event ?hg (N := 13) ?hd (cs := #[.string ⟨#[]⟩, .string ⟨#[]⟩, .int .u64 0, .int .u64 0, .slice none 0 0]) (t := 101) ?hr ?_; (case hd => rfl); (case hg => rfl); (case hr => first | (go_simp; done) | (go_simp; rfl)); intro g13 hg w2 hbox hb; have K13 := Aside0.mk hbox; have GE := Aside0.mk (by rw [hg]; exact below_size HB.out : w.heap.size ≤ g13); have N11 := Aside0.mk (by rw [hg]; exact Nat.ne_of_lt (blk_lt K11.out) : g11 ≠ g13); have x11_ := Aside0.mk (blk_below K11.out hb); have nb_ := Aside0.mk (below_step HB.out hb); clear HB K11 hb; have HB := nb_; have K11 := x11_; clear nb_ x11_; clear hbox hg; have hw0 := (blk_cell K13.out 0).trans (show _ = some (.string ⟨#[]⟩) from rfl); have fw0 := blk_frozen K13.out 0; have hw1 := (blk_cell K13.out 1).trans (show _ = some (.string ⟨#[]⟩) from rfl); have fw1 := blk_frozen K13.out 1; have hw2 := (blk_cell K13.out 2).trans (show _ = some (.int .u64 0) from rfl); have fw2 := blk_frozen K13.out 2; have hw3 := (blk_cell K13.out 3).trans (show _ = some (.int .u64 0) from rfl); have fw3 := blk_frozen K13.out 3; have hw4 := (blk_cell K13.out 4).trans (show _ = some (.slice none 0 0) from rfl); have fw4 := blk_frozen K13.out 4))
                go_meet
                case rel => exact ⟨g13, rfl, rfl, ⟨by (iterate 5 (refine blk_far ?_ N11.out _)); exact K11.out⟩, ⟨by refine blk_put (cs := #[.string u0_, .string u1_, .int .u64 u2_, .int .u64 u3_, .slice none 0 0]) ?_ 4 _ rfl; refine blk_put (cs := #[.string u0_, .string u1_, .int .u64 u2_, .int .u64 0, .slice none 0 0]) ?_ 3 _ rfl; refine blk_put (cs := #[.string u0_, .string u1_, .int .u64 0, .int .u64 0, .slice none 0 0]) ?_ 2 _ rfl; refine blk_put (cs := #[.string u0_, .string ⟨#[]⟩, .int .u64 0, .int .u64 0, .slice none 0 0]) ?_ 1 _ rfl; refine blk_put (cs := #[.string ⟨#[]⟩, .string ⟨#[]⟩, .int .u64 0, .int .u64 0, .slice none 0 0]) ?_ 0 _ rfl; exact K13.out⟩, ⟨by (iterate 5 (refine below_set ?_ GE.out)); exact HB.out⟩⟩
              case rest =>
                obtain ⟨g13, rfl, rfl, K11, K13, HB⟩ := hcut
                go_wp2_with (first
                  | (go_at_call 98; (with_reducible refine (RC.out _ (Kd.C_below HC.out HB.out)).mono ?_); rintro e w5 ⟨rfl, hb⟩; have x11_ := Aside0.mk (blk_below K11.out hb); have x13_ := Aside0.mk (blk_below K13.out hb); have nb_ := Aside0.mk (below_step HB.out hb); clear HB K11 K13 hb; have HB := nb_; have K11 := x11_; have K13 := x13_; clear nb_ x11_ x13_)
                  | (go_at_call 99; (with_reducible refine (SC.out _ (Kd.C_below HC.out HB.out)).mono ?_); rintro e w6 ⟨rfl, hb⟩; have x11_ := Aside0.mk (blk_below K11.out hb); have x13_ := Aside0.mk (blk_below K13.out hb); have nb_ := Aside0.mk (below_step HB.out hb); clear HB K11 K13 hb; have HB := nb_; have K11 := x11_; have K13 := x13_; clear nb_ x11_ x13_; have hp0 := (blk_cell K11.out 0).trans (show _ = some (.string u0_) from rfl); have fp0 := blk_frozen K11.out 0; have hp1 := (blk_cell K11.out 1).trans (show _ = some (.string u1_) from rfl); have fp1 := blk_frozen K11.out 1; have hp2 := (blk_cell K11.out 2).trans (show _ = some (.int .u64 u2_) from rfl); have fp2 := blk_frozen K11.out 2; have hp3 := (blk_cell K11.out 3).trans (show _ = some (.int .u64 u3_) from rfl); have fp3 := blk_frozen K11.out 3; have hp4 := (blk_cell K11.out 4).trans (show _ = some (.slice none 0 0) from rfl); have fp4 := blk_frozen K11.out 4; have hq0 := (blk_cell K13.out 0).trans (show _ = some (.string u0_) from rfl); have fq0 := blk_frozen K13.out 0; have hq1 := (blk_cell K13.out 1).trans (show _ = some (.string u1_) from rfl); have fq1 := blk_frozen K13.out 1; have hq2 := (blk_cell K13.out 2).trans (show _ = some (.int .u64 u2_) from rfl); have fq2 := blk_frozen K13.out 2; have hq3 := (blk_cell K13.out 3).trans (show _ = some (.int .u64 u3_) from rfl); have fq3 := blk_frozen K13.out 3; have hq4 := (blk_cell K13.out 4).trans (show _ = some (.slice none 0 0) from rfl); have fq4 := blk_frozen K13.out 4)
                  | (go_at_call 90; (with_reducible refine (alive19 _).mono ?_); rintro e w8 ⟨rfl, hb⟩; have HB8 := Aside0.mk (below_step HB.out hb); clear hb))
                go_ret
                exact ⟨rfl, HB8.out⟩
  · have d1 : decide (10000 < (b.length : Int)) = true := decide_eq_true (by omega)
    have d2 : decide (10000 < b.length) = true := decide_eq_true (by omega)
    clear hC hc hb hl
    go_enter Try.func24, Try.ntmps24
    go_wp2_with (go_at_call 90; (with_reducible refine (alive19 _).mono ?_); rintro e w8 ⟨rfl, hb⟩; have HB8 := Aside0.mk hb; clear hb)
    go_ret
    exact ⟨rfl, HB8.out⟩
end Go.Proofs.Ytlnpmodhejakiaa.RW
namespace Go.Proofs.Ytlnpmodhejakiaa.PQ
open Go.RowKit Go.Proofs.YtlnpmodhejakiaaW.PrintWords Go.Proofs.YtlnpmodhejakiaaW.PrintLast Go.Proofs.YtlnpmodhejakiaaW.PrintMore Go.Proofs.Ytlnpmodhejakiaa.D Go.Proofs.Ytlnpmodhejakiaa.RW
open Classical in
noncomputable def stelelaw19_RecordsReads.f (l0 : List Int) : Option Bool := if okL l0 then some true else none
theorem stelelaw19_RecordsReads.calls (A0 : Option Addr) (c0 : Nat) (l0 : List Int) (r : Bool) (w : World) (hr0 : Kd.C (Kd.int .u8) w A0 l0.length l0) (hc0 : l0.length ≤ c0) (h : stelelaw19_RecordsReads.f l0 = some r) :
    Calls Try.prog 24 #[.slice A0 l0.length c0] w fun e w' => e = .returned (.bool r) ∧ Below w.heap.size w w' := by
  unfold stelelaw19_RecordsReads.f at h
  split at h
  · rename_i hh
    obtain rfl := Option.some.inj h
    exact recreads_any A0 c0 l0 w hr0 hc0 hh
  · cases h
end Go.Proofs.Ytlnpmodhejakiaa.PQ
