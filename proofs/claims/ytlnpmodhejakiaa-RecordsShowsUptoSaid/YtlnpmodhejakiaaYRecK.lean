/- The chapter's examples (alive): what they answer. -/
import Derived.Test.YtlnpmodhejakiaaYRecB
import Derived.Test.YtlnpmodhejakiaaYRecS
import Derived.Test.YtlnpmodhejakiaaYPXx2
namespace Go.Proofs.Ytlnpmodhejakiaa.RW
open Go.RowKit Go.Proofs.YtlnpmodhejakiaaW.PrintWords Go.Proofs.YtlnpmodhejakiaaW.PrintLast Go.Proofs.YtlnpmodhejakiaaW.PrintMore Go.Proofs.Ytlnpmodhejakiaa.Sha Go.Proofs.Ytlnpmodhejakiaa.D Go.Proofs.Ytlnpmodhejakiaa.PC Go.Proofs.Ytlnpmodhejakiaa.CP
open Go.Proofs.Ytlnpmodhejakiaa.PX (records_PartKey.f records_PartKey.calls records_BucketKey.f records_BucketKey.calls records_ClockKey.f records_ClockKey.calls)
set_option linter.unusedVariables false
set_option linter.unusedSimpArgs false
def bk : List Int := bucketL ⟨#[98]⟩ 0 false false 0 3 ⟨#[]⟩ 0 0
theorem bk_ok : okL bk := ⟨by decide +kernel, by decide +kernel⟩
theorem key_part : records_PartKey.f 40 1 2 = some [80, 0, 0, 0, 0, 0, 0, 0, 1, 2] := by decide +kernel
theorem key_bucket : records_BucketKey.f 40 (⟨#[98]⟩ : ByteArray) = some [66, 98] := by decide +kernel
theorem key_clock : records_ClockKey.f 40 = some [67] := by decide +kernel
theorem str_98 : strOfNums [98] = (⟨#[98]⟩ : ByteArray) := by decide +kernel
theorem str_0 : strOfNums [] = (⟨#[]⟩ : ByteArray) := by decide +kernel
theorem str_Bb : strOfNums [66, 98] = (⟨#[66, 98]⟩ : ByteArray) := by decide +kernel
theorem str_C : strOfNums [67] = (⟨#[67]⟩ : ByteArray) := by decide +kernel
theorem alive_show (w : World) : Calls Try.prog 100 #[.agg #[.string ⟨#[98]⟩, .int .i64 0, .bool false, .bool false, .int .i64 0, .int .i64 3, .string ⟨#[]⟩, .int .i64 0, .int .i64 0]] w fun e w' => ∃ A c, e = .returned (.slice A bk.length c) ∧ bk.length ≤ c ∧ Kd.C (Kd.int .u8) w' A bk.length bk ∧ Below w.heap.size w w' :=
  ShowBucket_c ⟨#[98]⟩ 0 false false 0 3 ⟨#[]⟩ 0 0 w (by show 1 + 0 + 200 ≤ 140737488355000; omega) (by decide) (by decide) (by decide) (by decide) (by decide)
theorem alive_read (A : Option Addr) (c : Nat) (w : World) (hC : Kd.C (Kd.int .u8) w A bk.length bk) (hc : bk.length ≤ c) : Calls Try.prog 91 #[.slice A bk.length c] w fun e w' => e = .returned (.tuple #[.agg #[.string ⟨#[98]⟩, .int .i64 0, .bool false, .bool false, .int .i64 0, .int .i64 3, .string ⟨#[]⟩, .int .i64 0, .int .i64 0], .int .i64 0]) ∧ Below w.heap.size w w' := by
  have h := readB A c bk w hC hc (by decide +kernel) [98] 0 false false 0 3 [] 0 0 (bk.drop 6) (bk.drop 15) (bk.drop 16) (bk.drop 17) (bk.drop 26) (bk.drop 35) (bk.drop 40) (bk.drop 49) (bk.drop 58) false false false false false false false false false
    (by decide +kernel) bk_ok (by decide +kernel) (okL_drop bk_ok _) (by decide +kernel) (okL_drop bk_ok _) (by decide +kernel) (okL_drop bk_ok _) (by decide +kernel) (okL_drop bk_ok _) (by decide +kernel) (okL_drop bk_ok _) (by decide +kernel) (okL_drop bk_ok _) (by decide +kernel) (okL_drop bk_ok _) (by decide +kernel) (okL_drop bk_ok _) (by decide) (by decide) (by decide) (by decide) (by decide) true (by decide +kernel)
  rw [if_pos rfl, str_98, str_0, show mn 0 2147483647 = 0 from by decide, show mn 3 2147483647 = 3 from by decide] at h
  exact h
theorem cell_k {w : World} {a : Addr} {l : List Int} (h : Kd.C (Kd.int .u8) w (some a) l.length l) (i : Nat) (hi : i < l.length) (h0 : 0 < i) : w.cell? ⟨a.block, a.off + i, none⟩ = some (.int .u8 (l.getD i 0)) := by
  obtain ⟨ad, e, hc⟩ := C_at h i hi
  cases e
  rw [← add_pos _ _ h0]
  exact hc
theorem cell_0 {w : World} {a : Addr} {l : List Int} (h : Kd.C (Kd.int .u8) w (some a) l.length l) (hi : 0 < l.length) : w.cell? a = some (.int .u8 (l.getD 0 0)) := by
  obtain ⟨ad, e, hc⟩ := C_at h 0 hi
  cases e
  rw [show a.add 0 = a from by unfold Addr.add; simp] at hc
  exact hc
set_option maxHeartbeats 16000000 in
set_option maxRecDepth 100000 in
theorem alive19 (w : World) : Calls Try.prog 90 #[] w fun e w' => e = .returned (.bool true) ∧ Below w.heap.size w w' := by
  have hut := Try.underlying89
  have HB := Aside0.mk (Below.refl w.heap.size w)
  go_enter Try.func90, Try.ntmps90
  go_upto_region 2 with (go_at_call 148; (with_reducible refine (records_PartKey.calls 40 1 2 _ _ key_part).mono ?_); rintro e w1 ⟨v1, rfl, hR, hb⟩; obtain ⟨A1, c1, rfl, hc1, hC1⟩ := Kd.R_reads hR; obtain ⟨a1, rfl⟩ : ∃ a, A1 = some a := (by obtain ⟨ad, h, _⟩ := C_at hC1 0 (by decide); exact ⟨ad, h⟩); have P1 := Aside0.mk hC1; have L1 := Aside0.mk hc1; have nb_ := Aside0.mk (below_step HB.out hb); clear HB hR hC1 hc1 hb; have HB := nb_; clear nb_)
  (try simp only [Act.put, List.setIfInBounds_toArray, List.set_cons_zero, List.set_cons_succ])
  go_cut [1, 2, 3] (fun v1 v2 v3 wc => ∃ a1 c1 g2, v1 = .slice (some a1) 10 c1 ∧ v2 = .pointer (some ⟨g2, 0, none⟩) ∧ v3 = .int .i64 0 ∧ Aside0 (10 ≤ c1) ∧ Aside0 (Kd.C (Kd.int .u8) wc (some a1) 10 [80, 0, 0, 0, 0, 0, 0, 0, 1, 2]) ∧ Aside0 (wc.heap[g2]? = some (.cells #[.string ⟨#[98]⟩, .int .i64 0, .bool false, .bool false, .int .i64 0, .int .i64 3, .string ⟨#[]⟩, .int .i64 0, .int .i64 0] 89 (0, 0))) ∧ Aside0 (Below w.heap.size w wc))
  case first =>
    go_wp2_with (first
      | (go_at_call 100; (with_reducible refine (alive_show _).mono ?_); rintro e w2 ⟨A2, c2, rfl, hc2, hC2, hb⟩; have C2 := Aside0.mk hC2; have L2 := Aside0.mk hc2; have p_ := Aside0.mk (Kd.C_below P1.out hb); have nb_ := Aside0.mk (below_step HB.out hb); clear HB P1 hC2 hc2 hb; have HB := nb_; have P1 := p_; clear nb_ p_)
      | (go_at_call 91; (with_reducible refine (alive_read A2 c2 _ C2.out L2.out).mono ?_); rintro e w3 ⟨rfl, hb⟩; have p_ := Aside0.mk (Kd.C_below P1.out hb); have nb_ := Aside0.mk (below_step HB.out hb); clear HB P1 C2 L2 hb; have HB := nb_; have P1 := p_; clear nb_ p_)
      | ((with_reducible refine gate_dst (N := 2) rfl ?_); refine box_event ?hg (N := 2) ?hd (cs := #[.string ⟨#[]⟩, .int .i64 0, .bool false, .bool false, .int .i64 0, .int .i64 0, .string ⟨#[]⟩, .int .i64 0, .int .i64 0]) (t := 89) ?hr ?_; (case hd => rfl); (case hg => rfl); (case hr => first | (go_simp; done) | (go_simp; rfl)); intro g2 hg w4 hbox hb; have B2 := Aside0.mk hbox; have NA := Aside0.mk (show a1.block ≠ g2 from C_far P1.out (by decide) a1 rfl (by rw [hg]; exact Nat.le_refl _)); have GE2 := Aside0.mk (by rw [hg]; exact below_size HB.out : w.heap.size ≤ g2); have p_ := Aside0.mk (Kd.C_below P1.out hb); have nb_ := Aside0.mk (below_step HB.out hb); clear HB P1 hbox hb hg; have HB := nb_; have P1 := p_; clear nb_ p_; have hw0 := (blk_cell B2.out 0).trans (show _ = some (.string ⟨#[]⟩) from rfl); have fw0 := blk_frozen B2.out 0; have hw1 := (blk_cell B2.out 1).trans (show _ = some (.int .i64 0) from rfl); have fw1 := blk_frozen B2.out 1; have hw2 := (blk_cell B2.out 2).trans (show _ = some (.bool false) from rfl); have fw2 := blk_frozen B2.out 2; have hw3 := (blk_cell B2.out 3).trans (show _ = some (.bool false) from rfl); have fw3 := blk_frozen B2.out 3; have hw4 := (blk_cell B2.out 4).trans (show _ = some (.int .i64 0) from rfl); have fw4 := blk_frozen B2.out 4; have hw5 := (blk_cell B2.out 5).trans (show _ = some (.int .i64 0) from rfl); have fw5 := blk_frozen B2.out 5; have hw6 := (blk_cell B2.out 6).trans (show _ = some (.string ⟨#[]⟩) from rfl); have fw6 := blk_frozen B2.out 6; have hw7 := (blk_cell B2.out 7).trans (show _ = some (.int .i64 0) from rfl); have fw7 := blk_frozen B2.out 7; have hw8 := (blk_cell B2.out 8).trans (show _ = some (.int .i64 0) from rfl); have fw8 := blk_frozen B2.out 8))
    go_meet
    case rel => exact ⟨a1, c1, g2, rfl, rfl, rfl, L1, ⟨C_wr' P1.out ((((((((((Wr.refl _ g2 _).setCell 0 _).setCell 1 _).setCell 2 _).setCell 3 _).setCell 4 _).setCell 5 _).setCell 6 _).setCell 7 _).setCell 8 _) (fun _ ad h => by cases h; exact NA.out)⟩, ⟨by refine blk_put (cs := #[.string ⟨#[98]⟩, .int .i64 0, .bool false, .bool false, .int .i64 0, .int .i64 3, .string ⟨#[]⟩, .int .i64 0, .int .i64 0]) ?_ 8 _ rfl; refine blk_put (cs := #[.string ⟨#[98]⟩, .int .i64 0, .bool false, .bool false, .int .i64 0, .int .i64 3, .string ⟨#[]⟩, .int .i64 0, .int .i64 0]) ?_ 7 _ rfl; refine blk_put (cs := #[.string ⟨#[98]⟩, .int .i64 0, .bool false, .bool false, .int .i64 0, .int .i64 3, .string ⟨#[]⟩, .int .i64 0, .int .i64 0]) ?_ 6 _ rfl; refine blk_put (cs := #[.string ⟨#[98]⟩, .int .i64 0, .bool false, .bool false, .int .i64 0, .int .i64 0, .string ⟨#[]⟩, .int .i64 0, .int .i64 0]) ?_ 5 _ rfl; refine blk_put (cs := #[.string ⟨#[98]⟩, .int .i64 0, .bool false, .bool false, .int .i64 0, .int .i64 0, .string ⟨#[]⟩, .int .i64 0, .int .i64 0]) ?_ 4 _ rfl; refine blk_put (cs := #[.string ⟨#[98]⟩, .int .i64 0, .bool false, .bool false, .int .i64 0, .int .i64 0, .string ⟨#[]⟩, .int .i64 0, .int .i64 0]) ?_ 3 _ rfl; refine blk_put (cs := #[.string ⟨#[98]⟩, .int .i64 0, .bool false, .bool false, .int .i64 0, .int .i64 0, .string ⟨#[]⟩, .int .i64 0, .int .i64 0]) ?_ 2 _ rfl; refine blk_put (cs := #[.string ⟨#[98]⟩, .int .i64 0, .bool false, .bool false, .int .i64 0, .int .i64 0, .string ⟨#[]⟩, .int .i64 0, .int .i64 0]) ?_ 1 _ rfl; refine blk_put (cs := #[.string ⟨#[]⟩, .int .i64 0, .bool false, .bool false, .int .i64 0, .int .i64 0, .string ⟨#[]⟩, .int .i64 0, .int .i64 0]) ?_ 0 _ rfl; exact B2.out⟩, ⟨by (iterate 9 (refine below_set ?_ GE2.out)); exact HB.out⟩⟩
  case rest =>
    obtain ⟨a1, c1, g2, rfl, rfl, rfl, L1, P1, B2, HB⟩ := hcut
    go_wp2_with (first
      | (go_at_call 149; (with_reducible refine (records_BucketKey.calls 40 ⟨#[98]⟩ _ _ key_bucket).mono ?_); rintro e w5 ⟨v5, rfl, hR, hb⟩; obtain ⟨A5, c5, rfl, hc5, hC5⟩ := Kd.R_reads hR; have hcv := Kd.C_string (P := Try.prog) (src := 22) (dst := 9) (c := c5) Try.underlying22 Try.underlying5 Try.underlying9 hC5; rw [str_Bb, show ([66, 98] : List Int).length = 2 from rfl] at hcv; have p_ := Kd.C_below P1.out hb; have b_ := blk_below B2.out hb; have nb_ := Aside0.mk (below_step HB.out hb); clear HB P1 B2 hR hc5 hC5 hb; have HB := nb_; clear nb_; have hz0 := cell_0 p_ (by decide); have hz8 := cell_k p_ 8 (by decide) (by decide); have hz9 := cell_k p_ 9 (by decide) (by decide); rw [show ([80, 0, 0, 0, 0, 0, 0, 0, 1, 2] : List Int).getD 0 0 = 80 from rfl] at hz0; rw [show ([80, 0, 0, 0, 0, 0, 0, 0, 1, 2] : List Int).getD 8 0 = 1 from rfl] at hz8; rw [show ([80, 0, 0, 0, 0, 0, 0, 0, 1, 2] : List Int).getD 9 0 = 2 from rfl] at hz9; have hy5 := (blk_cell b_ 5).trans (show _ = some (Value.int .i64 3) from rfl); clear p_ b_)
      | (go_at_call 150; (with_reducible refine (records_ClockKey.calls 40 _ _ key_clock).mono ?_); rintro e w6 ⟨v6, rfl, hR, hb⟩; obtain ⟨A6, c6, rfl, hc6, hC6⟩ := Kd.R_reads hR; have hcv2 := Kd.C_string (P := Try.prog) (src := 22) (dst := 9) (c := c6) Try.underlying22 Try.underlying5 Try.underlying9 hC6; rw [str_C, show ([67] : List Int).length = 1 from rfl] at hcv2; have nb_ := Aside0.mk (below_step HB.out hb); clear HB hR hc6 hC6 hb; have HB := nb_; clear nb_))
    go_ret
    exact ⟨rfl, HB.out⟩
end Go.Proofs.Ytlnpmodhejakiaa.RW
