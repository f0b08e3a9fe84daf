/- The law AuditBack: its function. -/
import Derived.Test.YtlnpmodhejakiaaZBkP
import Derived.Test.YtlnpmodhejakiaaZAudR
namespace Go.Proofs.Ytlnpmodhejakiaa.AV
open Go.RowKit Go.Proofs.YtlnpmodhejakiaaW.PrintWords Go.Proofs.YtlnpmodhejakiaaW.PrintLast Go.Proofs.YtlnpmodhejakiaaW.PrintMore Go.Proofs.Ytlnpmodhejakiaa.Sha Go.Proofs.Ytlnpmodhejakiaa.D Go.Proofs.Ytlnpmodhejakiaa.PC Go.Proofs.Ytlnpmodhejakiaa.CP Go.Proofs.Ytlnpmodhejakiaa.PV
set_option linter.unusedVariables false
set_option linter.unusedSimpArgs false
theorem lit1 (w : World) (g : Nat) (T : TypeId) (x : S69) (A8 : Option Addr) (c8 : Nat) (A9 : Option Addr) (c9 : Nat) (hg : w.heap[g]? = some (.cells #[.int .u64 x.f0, .int .u64 x.f1, .string x.f2, .int .i64 x.f3, .string x.f4, .string x.f5, .int .u64 x.f6, .int .i64 x.f7, .slice A8 x.f8.length c8, .slice A9 x.f9.length c9] T (0, 0))) (hx : RecC w x A8 c8 A9 c9) : Kd.C k69 w (some ⟨g, 0, none⟩) 1 [x] :=
  C_recsL w g T [x] [[.int .u64 x.f0, .int .u64 x.f1, .string x.f2, .int .i64 x.f3, .string x.f4, .string x.f5, .int .u64 x.f6, .int .i64 x.f7, .slice A8 x.f8.length c8, .slice A9 x.f9.length c9]] _ rfl hg rfl (fun j u hj => by
    cases j with
    | zero => obtain rfl : x = u := by simpa using hj
              exact ⟨_, rfl, hx.k⟩
    | succ j => simp at hj) 1 rfl (by omega)
theorem light1 (g : Nat) (x : S69) (b : Bool) (w : World) (hC : Kd.C k69 w (some ⟨g, 0, none⟩) 1 [x]) (hs : smallX x) (h : lightP [x] = b) :
    Calls Try.prog 73 #[.slice (some ⟨g, 0, none⟩) 1 1] w fun e w' => e = .returned (.bool b) ∧ Below w.heap.size w w' := by
  rw [← h]
  exact light_c (some ⟨g, 0, none⟩) 1 [x] w hC (Nat.le_refl _) (by simp) (fun u hu => by rw [List.mem_singleton] at hu; rw [hu]; exact hs)
theorem show_b (y : S69) (A8 : Option Addr) (c8 : Nat) (A9 : Option Addr) (c9 : Nat) (b : List Int) (hb : showP y = b) (w : World) (h : RecC w y A8 c8 A9 c9) (hy : okX y) :
    Calls Try.prog 84 #[.agg #[.int .u64 y.f0, .int .u64 y.f1, .string y.f2, .int .i64 y.f3, .string y.f4, .string y.f5, .int .u64 y.f6, .int .i64 y.f7, .slice A8 y.f8.length c8, .slice A9 y.f9.length c9]] w fun e w' => ∃ A c, e = .returned (.slice A b.length c) ∧ b.length ≤ c ∧ Kd.C (Kd.int .u8) w' A b.length b ∧ Below w.heap.size w w' := by
  subst hb
  refine (show_c y A8 c8 A9 c9 w h hy).mono ?_
  rintro e w' ⟨v, he, hr, hB⟩
  obtain ⟨A, c, rfl, hc, hC⟩ := Kd.R_reads hr
  exact ⟨A, c, he, hc, hC, hB⟩
theorem bsame_u (A : Option Addr) (c : Nat) (l : List Int) (A1 : Option Addr) (c1 : Nat) (w : World) (hC : Kd.C (Kd.int .u8) w A l.length l) (hc : l.length ≤ c) (hC1 : Kd.C (Kd.int .u8) w A1 l.length l) (hc1 : l.length ≤ c1) (hl : l.length ≤ 140737488355328) :
    Calls Try.prog 29 #[.slice A l.length c, .slice A1 l.length c1] w fun e w' => e = .returned (.bool true) ∧ Below w.heap.size w w' :=
  (bsame_c A c l A1 c1 l w hC hc hC1 hc1 hl).mono fun e w' ⟨he, hb⟩ => ⟨by rw [he, beq_self_eq_true], hb⟩
theorem same_u (x : S69) (A8 : Option Addr) (c8 : Nat) (A9 : Option Addr) (c9 : Nat) (B8 : Option Addr) (d8 : Nat) (B9 : Option Addr) (d9 : Nat) (w : World) (h : RecC w x A8 c8 A9 c9) (hx : okX x) (h' : RecC w x B8 d8 B9 d9) :
    Calls Try.prog 86 #[.agg #[.int .u64 x.f0, .int .u64 x.f1, .string x.f2, .int .i64 x.f3, .string x.f4, .string x.f5, .int .u64 x.f6, .int .i64 x.f7, .slice A8 x.f8.length c8, .slice A9 x.f9.length c9], .agg #[.int .u64 x.f0, .int .u64 x.f1, .string x.f2, .int .i64 x.f3, .string x.f4, .string x.f5, .int .u64 x.f6, .int .i64 x.f7, .slice B8 x.f8.length d8, .slice B9 x.f9.length d9]] w fun e w' => e = .returned (.bool true) ∧ Below w.heap.size w w' := by
  rw [← (sameP_iff x x).2 rfl]
  exact same_c x A8 c8 A9 c9 x B8 d8 B9 d9 w h hx h' hx
theorem RdPost_t {x : S69} {w : World} {e : Ending} {w' : World} (h : RdPost x true w e w') : ∃ B8 d8 B9 d9, e = .returned (.tuple #[.agg #[.int .u64 x.f0, .int .u64 x.f1, .string x.f2, .int .i64 x.f3, .string x.f4, .string x.f5, .int .u64 x.f6, .int .i64 x.f7, .slice B8 x.f8.length d8, .slice B9 x.f9.length d9], .int .i64 0]) ∧ RecC w' x B8 d8 B9 d9 ∧ Below w.heap.size w w' := by
  obtain ⟨h1, hb⟩ := h
  rw [if_pos rfl] at h1
  obtain ⟨B8, d8, B9, d9, h2, h3⟩ := h1
  exact ⟨B8, d8, B9, d9, h2, h3, hb⟩
theorem RdPost_f {x : S69} {w : World} {e : Ending} {w' : World} (h : RdPost x false w e w') : e = .returned (.tuple #[.agg #[.int .u64 0, .int .u64 0, .string ⟨#[]⟩, .int .i64 0, .string ⟨#[]⟩, .string ⟨#[]⟩, .int .u64 0, .int .i64 0, .slice none 0 0, .slice none 0 0], .int .i64 4]) ∧ Below w.heap.size w w' := by
  obtain ⟨h1, hb⟩ := h
  rw [if_neg (by decide)] at h1
  exact ⟨h1, hb⟩
set_option maxHeartbeats 32000000 in
set_option maxRecDepth 100000 in
theorem back_any (x : S69) (A8 : Option Addr) (c8 : Nat) (A9 : Option Addr) (c9 : Nat) (A : Option Addr) (c : Nat) (b : List Int) (w : World) (hx : RecC w x A8 c8 A9 c9) (hC : Kd.C (Kd.int .u8) w A b.length b) (hc : b.length ≤ c) (hs : smallX x) (hk : lightP [x] = true → okX x ∧ x.f2.size + x.f4.size + x.f5.size + x.f8.length + x.f9.length ≤ 5000) (hb : okL b) :
    Calls Try.prog 23 #[.agg #[.int .u64 x.f0, .int .u64 x.f1, .string x.f2, .int .i64 x.f3, .string x.f4, .string x.f5, .int .u64 x.f6, .int .i64 x.f7, .slice A8 x.f8.length c8, .slice A9 x.f9.length c9], .slice A b.length c] w fun e w' => e = .returned (.bool true) ∧ Below w.heap.size w w' := by
  have hu69 := Try.underlying69
  have HB := Aside0.mk (Below.refl w.heap.size w)
  have HC := Aside0.mk hC
  have Hc := Aside0.mk hc
  have HX := Aside0.mk hx
  have HS := Aside0.mk hs
  cases hl : lightP [x] with
  | false =>
    have HL := Aside0.mk hl
    clear hx hC hc hs hk hb hl
    go_enter Try.func23, Try.ntmps23
    go_wp2_with (first
      | ((with_reducible refine gate_dst (N := 2) rfl ?_); refine box_event ?hg (N := 2) ?hd (cs := #[.int .u64 x.f0, .int .u64 x.f1, .string x.f2, .int .i64 x.f3, .string x.f4, .string x.f5, .int .u64 x.f6, .int .i64 x.f7, .slice A8 x.f8.length c8, .slice A9 x.f9.length c9]) (t := 69) ?hr ?_; (case hd => rfl); (case hg => rfl); (case hr => first | (go_simp; done) | (go_simp; rfl)); intro g2 hg wa hbox hb; have BK2 := Aside0.mk hbox; have GE2 := Aside0.mk (by rw [hg]; exact below_size HB.out : w.heap.size ≤ g2); have nb_ := Aside0.mk (below_step HB.out hb); clear HB; have HB := nb_; clear nb_ hbox hb hg; obtain ⟨ha0, ha1, ha2, ha3, ha4, ha5, ha6, ha7, ha8, ha9, fa0, fa1, fa2, fa3, fa4, fa5, fa6, fa7, fa8, fa9⟩ := cells10 BK2.out)
      | ((with_reducible refine gate_dst (N := 10) rfl ?_); (try (refine gate_guard (by rfl) ?_; dsimp only)); refine lit_event rfl (N := 10) rfl (cs := #[.int .u64 x.f0, .int .u64 x.f1, .string x.f2, .int .i64 x.f3, .string x.f4, .string x.f5, .int .u64 x.f6, .int .i64 x.f7, .slice A8 x.f8.length c8, .slice A9 x.f9.length c9]) (t := 69) (n := 1) ?hr ?_; (case hr => first | (go_simp; done) | (go_simp; rfl)); intro g3 hg3 wb hbox hb; have K3 := Aside0.mk (lit1 _ _ _ _ _ _ _ _ hbox (HX.out.below (below_step HB.out hb))); have B2_ := Aside0.mk (blk_below BK2.out hb); have nb_ := Aside0.mk (below_step HB.out hb); clear BK2 HB; have BK2 := B2_; have HB := nb_; clear B2_ nb_; clear hg3 hbox hb)
      | (go_at_call 73; (with_reducible refine (light1 g3 x false _ K3.out HS.out HL.out).mono ?_); rintro e wl ⟨rfl, hb⟩; clear K3; have B2_ := Aside0.mk (blk_below BK2.out hb); have nb_ := Aside0.mk (below_step HB.out hb); clear BK2 HB; have BK2 := B2_; have HB := nb_; clear B2_ nb_; clear hb; obtain ⟨hb0, hb1, hb2, hb3, hb4, hb5, hb6, hb7, hb8, hb9, fb0, fb1, fb2, fb3, fb4, fb5, fb6, fb7, fb8, fb9⟩ := cells10 BK2.out)
      | (go_at_call 74; (with_reducible refine (alive14 _).mono ?_); rintro e wz ⟨rfl, hb⟩; have HZ := Aside0.mk (below_step HB.out hb); clear hb))
    go_ret
    exact ⟨rfl, HZ.out⟩
  | true =>
    have HL := Aside0.mk hl
    obtain ⟨ok, hbulk⟩ := hk hl
    have OK := Aside0.mk ok
    by_cases hn : b.length ≤ 10000
    · have d1 : decide (10000 < (b.length : Int)) = false := decide_eq_false (by omega)
      have d2 : decide (10000 < b.length) = false := decide_eq_false (by omega)
      by_cases h3 : x.f3 < 0
      · have d3 : decide (x.f3 < 0) = true := decide_eq_true h3
        clear hx hC hc hs hk hb hl ok hbulk hn h3
        go_enter Try.func23, Try.ntmps23
        go_wp2_with (first
          | ((with_reducible refine gate_dst (N := 2) rfl ?_); refine box_event ?hg (N := 2) ?hd (cs := #[.int .u64 x.f0, .int .u64 x.f1, .string x.f2, .int .i64 x.f3, .string x.f4, .string x.f5, .int .u64 x.f6, .int .i64 x.f7, .slice A8 x.f8.length c8, .slice A9 x.f9.length c9]) (t := 69) ?hr ?_; (case hd => rfl); (case hg => rfl); (case hr => first | (go_simp; done) | (go_simp; rfl)); intro g2 hg wa hbox hb; have BK2 := Aside0.mk hbox; have GE2 := Aside0.mk (by rw [hg]; exact below_size HB.out : w.heap.size ≤ g2); have nb_ := Aside0.mk (below_step HB.out hb); clear HB; have HB := nb_; clear nb_ hbox hb hg; obtain ⟨ha0, ha1, ha2, ha3, ha4, ha5, ha6, ha7, ha8, ha9, fa0, fa1, fa2, fa3, fa4, fa5, fa6, fa7, fa8, fa9⟩ := cells10 BK2.out)
          | ((with_reducible refine gate_dst (N := 10) rfl ?_); (try (refine gate_guard (by rfl) ?_; dsimp only)); refine lit_event rfl (N := 10) rfl (cs := #[.int .u64 x.f0, .int .u64 x.f1, .string x.f2, .int .i64 x.f3, .string x.f4, .string x.f5, .int .u64 x.f6, .int .i64 x.f7, .slice A8 x.f8.length c8, .slice A9 x.f9.length c9]) (t := 69) (n := 1) ?hr ?_; (case hr => first | (go_simp; done) | (go_simp; rfl)); intro g3 hg3 wb hbox hb; have K3 := Aside0.mk (lit1 _ _ _ _ _ _ _ _ hbox (HX.out.below (below_step HB.out hb))); have B2_ := Aside0.mk (blk_below BK2.out hb); have nb_ := Aside0.mk (below_step HB.out hb); clear BK2 HB; have BK2 := B2_; have HB := nb_; clear B2_ nb_; clear hg3 hbox hb)
          | (go_at_call 73; (with_reducible refine (light1 g3 x true _ K3.out HS.out HL.out).mono ?_); rintro e wl ⟨rfl, hb⟩; clear K3; have B2_ := Aside0.mk (blk_below BK2.out hb); have nb_ := Aside0.mk (below_step HB.out hb); clear BK2 HB; have BK2 := B2_; have HB := nb_; clear B2_ nb_; clear hb; obtain ⟨hb0, hb1, hb2, hb3, hb4, hb5, hb6, hb7, hb8, hb9, fb0, fb1, fb2, fb3, fb4, fb5, fb6, fb7, fb8, fb9⟩ := cells10 BK2.out)
          | (go_at_call 74; (with_reducible refine (alive14 _).mono ?_); rintro e wz ⟨rfl, hb⟩; have HZ := Aside0.mk (below_step HB.out hb); clear hb))
        go_ret
        exact ⟨rfl, HZ.out⟩
      · have d3 : decide (x.f3 < 0) = false := decide_eq_false h3
        by_cases h7 : x.f7 < 0
        · have d7 : decide (x.f7 < 0) = true := decide_eq_true h7
          clear hx hC hc hs hk hb hl ok hbulk hn h3 h7
          go_enter Try.func23, Try.ntmps23
          go_wp2_with (first
            | ((with_reducible refine gate_dst (N := 2) rfl ?_); refine box_event ?hg (N := 2) ?hd (cs := #[.int .u64 x.f0, .int .u64 x.f1, .string x.f2, .int .i64 x.f3, .string x.f4, .string x.f5, .int .u64 x.f6, .int .i64 x.f7, .slice A8 x.f8.length c8, .slice A9 x.f9.length c9]) (t := 69) ?hr ?_; (case hd => rfl); (case hg => rfl); (case hr => first | (go_simp; done) | (go_simp; rfl)); intro g2 hg wa hbox hb; have BK2 := Aside0.mk hbox; have GE2 := Aside0.mk (by rw [hg]; exact below_size HB.out : w.heap.size ≤ g2); have nb_ := Aside0.mk (below_step HB.out hb); clear HB; have HB := nb_; clear nb_ hbox hb hg; obtain ⟨ha0, ha1, ha2, ha3, ha4, ha5, ha6, ha7, ha8, ha9, fa0, fa1, fa2, fa3, fa4, fa5, fa6, fa7, fa8, fa9⟩ := cells10 BK2.out)
            | ((with_reducible refine gate_dst (N := 10) rfl ?_); (try (refine gate_guard (by rfl) ?_; dsimp only)); refine lit_event rfl (N := 10) rfl (cs := #[.int .u64 x.f0, .int .u64 x.f1, .string x.f2, .int .i64 x.f3, .string x.f4, .string x.f5, .int .u64 x.f6, .int .i64 x.f7, .slice A8 x.f8.length c8, .slice A9 x.f9.length c9]) (t := 69) (n := 1) ?hr ?_; (case hr => first | (go_simp; done) | (go_simp; rfl)); intro g3 hg3 wb hbox hb; have K3 := Aside0.mk (lit1 _ _ _ _ _ _ _ _ hbox (HX.out.below (below_step HB.out hb))); have B2_ := Aside0.mk (blk_below BK2.out hb); have nb_ := Aside0.mk (below_step HB.out hb); clear BK2 HB; have BK2 := B2_; have HB := nb_; clear B2_ nb_; clear hg3 hbox hb)
            | (go_at_call 73; (with_reducible refine (light1 g3 x true _ K3.out HS.out HL.out).mono ?_); rintro e wl ⟨rfl, hb⟩; clear K3; have B2_ := Aside0.mk (blk_below BK2.out hb); have nb_ := Aside0.mk (below_step HB.out hb); clear BK2 HB; have BK2 := B2_; have HB := nb_; clear B2_ nb_; clear hb; obtain ⟨hb0, hb1, hb2, hb3, hb4, hb5, hb6, hb7, hb8, hb9, fb0, fb1, fb2, fb3, fb4, fb5, fb6, fb7, fb8, fb9⟩ := cells10 BK2.out)
            | (go_at_call 74; (with_reducible refine (alive14 _).mono ?_); rintro e wz ⟨rfl, hb⟩; have HZ := Aside0.mk (below_step HB.out hb); clear hb))
          go_ret
          exact ⟨rfl, HZ.out⟩
        · have d7 : decide (x.f7 < 0) = false := decide_eq_false h7
          obtain ⟨y, gd, hy, hyb, hread⟩ := back2 b hb hn
          have OY := Aside0.mk hy
          have RB := Aside0.mk (fun W h => hread A c W h Hc.out)
          have RS := Aside0.mk (fun A' c' W h1 h2 => back1 x ok (by omega) (by omega) hbulk A' c' W h1 h2)
          have RR := Aside0.mk (fun W h => rright_c x A8 c8 A9 c9 W h OK.out)
          have LN := Aside0.mk (show b.length ≤ 140737488355328 by omega)
          obtain ⟨q, hq⟩ : ∃ q, rightP x = q := ⟨_, rfl⟩
          rw [hq] at RS RR
          have HYB := Aside0.mk hyb
          clear hx hC hc hs hk hb hl ok hbulk hn h3 h7 hq hy hyb hread
          cases q with
          | true =>
            go_enter Try.func23, Try.ntmps23
            go_upto_region 3 with (first
              | ((with_reducible refine gate_dst (N := 2) rfl ?_); refine box_event ?hg (N := 2) ?hd (cs := #[.int .u64 x.f0, .int .u64 x.f1, .string x.f2, .int .i64 x.f3, .string x.f4, .string x.f5, .int .u64 x.f6, .int .i64 x.f7, .slice A8 x.f8.length c8, .slice A9 x.f9.length c9]) (t := 69) ?hr ?_; (case hd => rfl); (case hg => rfl); (case hr => first | (go_simp; done) | (go_simp; rfl)); intro g2 hg wa hbox hb; have BK2 := Aside0.mk hbox; have GE2 := Aside0.mk (by rw [hg]; exact below_size HB.out : w.heap.size ≤ g2); have nb_ := Aside0.mk (below_step HB.out hb); clear HB; have HB := nb_; clear nb_ hbox hb hg; obtain ⟨ha0, ha1, ha2, ha3, ha4, ha5, ha6, ha7, ha8, ha9, fa0, fa1, fa2, fa3, fa4, fa5, fa6, fa7, fa8, fa9⟩ := cells10 BK2.out)
              | ((with_reducible refine gate_dst (N := 10) rfl ?_); (try (refine gate_guard (by rfl) ?_; dsimp only)); refine lit_event rfl (N := 10) rfl (cs := #[.int .u64 x.f0, .int .u64 x.f1, .string x.f2, .int .i64 x.f3, .string x.f4, .string x.f5, .int .u64 x.f6, .int .i64 x.f7, .slice A8 x.f8.length c8, .slice A9 x.f9.length c9]) (t := 69) (n := 1) ?hr ?_; (case hr => first | (go_simp; done) | (go_simp; rfl)); intro g3 hg3 wb hbox hb; have K3 := Aside0.mk (lit1 _ _ _ _ _ _ _ _ hbox (HX.out.below (below_step HB.out hb))); have B2_ := Aside0.mk (blk_below BK2.out hb); have nb_ := Aside0.mk (below_step HB.out hb); clear BK2 HB; have BK2 := B2_; have HB := nb_; clear B2_ nb_; clear hg3 hbox hb)
              | (go_at_call 73; (with_reducible refine (light1 g3 x true _ K3.out HS.out HL.out).mono ?_); rintro e wl ⟨rfl, hb⟩; clear K3; have B2_ := Aside0.mk (blk_below BK2.out hb); have nb_ := Aside0.mk (below_step HB.out hb); clear BK2 HB; have BK2 := B2_; have HB := nb_; clear B2_ nb_; clear hb; obtain ⟨hb0, hb1, hb2, hb3, hb4, hb5, hb6, hb7, hb8, hb9, fb0, fb1, fb2, fb3, fb4, fb5, fb6, fb7, fb8, fb9⟩ := cells10 BK2.out))
            go_cut [5, 6] (fun v5 v6 wc => ∃ g5 B8 d8 B9 d9, v5 = .pointer (some ⟨g5, 0, none⟩) ∧ v6 = .int .i64 0 ∧ Aside0 (wc.heap[g2]? = some (.cells #[.int .u64 x.f0, .int .u64 x.f1, .string x.f2, .int .i64 x.f3, .string x.f4, .string x.f5, .int .u64 x.f6, .int .i64 x.f7, .slice A8 x.f8.length c8, .slice A9 x.f9.length c9] 69 (0, 0))) ∧ Aside0 (wc.heap[g5]? = some (.cells #[.int .u64 x.f0, .int .u64 x.f1, .string x.f2, .int .i64 x.f3, .string x.f4, .string x.f5, .int .u64 x.f6, .int .i64 x.f7, .slice B8 x.f8.length d8, .slice B9 x.f9.length d9] 69 (0, 0))) ∧ Aside0 (∃ w1, RecC w1 x B8 d8 B9 d9 ∧ Below w1.heap.size w1 wc) ∧ Aside0 (Below w.heap.size w wc))
            case first =>
              go_wp2_with (first
                | (go_at_call 84; (with_reducible refine (show_b x A8 c8 A9 c9 _ rfl _ (HX.out.below HB.out) OK.out).mono ?_); rintro e w0 ⟨Aa, ca, rfl, hca, hCa, hb⟩; have C1 := Aside0.mk hCa; have L1 := Aside0.mk hca; clear hCa hca; have B2_ := Aside0.mk (blk_below BK2.out hb); have nb_ := Aside0.mk (below_step HB.out hb); clear BK2 HB; have BK2 := B2_; have HB := nb_; clear B2_ nb_; clear hb)
                | (go_at_call 88; (with_reducible refine (RS.out Aa ca _ C1.out L1.out).mono ?_); rintro e w1 hp; obtain ⟨B8, d8, B9, d9, rfl, hR, hb⟩ := RdPost_t hp; have RX := Aside0.mk hR; clear hp hR C1 L1; have B2_ := Aside0.mk (blk_below BK2.out hb); have nb_ := Aside0.mk (below_step HB.out hb); clear BK2 HB; have BK2 := B2_; have HB := nb_; clear B2_ nb_; clear hb)
                | ((with_reducible refine gate_dst (N := 5) rfl ?_); refine box_event ?hg (N := 5) ?hd (cs := #[.int .u64 0, .int .u64 0, .string ⟨#[]⟩, .int .i64 0, .string ⟨#[]⟩, .string ⟨#[]⟩, .int .u64 0, .int .i64 0, .slice none 0 0, .slice none 0 0]) (t := 69) ?hr ?_; (case hd => rfl); (case hg => rfl); (case hr => first | (go_simp; done) | (go_simp; rfl)); intro g5 hg w2 hbox hb; have BK5 := Aside0.mk hbox; have GE5 := Aside0.mk (by rw [hg]; exact below_size HB.out : w.heap.size ≤ g5); have G15 := Aside0.mk (by rw [hg]; exact Nat.le_refl _ : w1.heap.size ≤ g5); have N25 := Aside0.mk (by rw [hg]; exact Nat.ne_of_lt (blk_lt BK2.out) : g2 ≠ g5); have HB1 := Aside0.mk hb; have B2_ := Aside0.mk (blk_below BK2.out hb); have nb_ := Aside0.mk (below_step HB.out hb); clear BK2 HB; have BK2 := B2_; have HB := nb_; clear B2_ nb_; clear hbox hb hg; obtain ⟨hg0, hg1, hg2, hg3, hg4, hg5, hg6, hg7, hg8, hg9, fg0, fg1, fg2, fg3, fg4, fg5, fg6, fg7, fg8, fg9⟩ := cells10 BK5.out))
              go_meet
              case rel => exact ⟨g5, B8, d8, B9, d9, rfl, rfl, ⟨by (iterate 10 (refine blk_far ?_ N25.out _)); exact BK2.out⟩, ⟨by refine blk_put (cs := #[.int .u64 x.f0, .int .u64 x.f1, .string x.f2, .int .i64 x.f3, .string x.f4, .string x.f5, .int .u64 x.f6, .int .i64 x.f7, .slice B8 x.f8.length d8, .slice none 0 0]) ?_ 9 _ rfl; refine blk_put (cs := #[.int .u64 x.f0, .int .u64 x.f1, .string x.f2, .int .i64 x.f3, .string x.f4, .string x.f5, .int .u64 x.f6, .int .i64 x.f7, .slice none 0 0, .slice none 0 0]) ?_ 8 _ rfl; refine blk_put (cs := #[.int .u64 x.f0, .int .u64 x.f1, .string x.f2, .int .i64 x.f3, .string x.f4, .string x.f5, .int .u64 x.f6, .int .i64 0, .slice none 0 0, .slice none 0 0]) ?_ 7 _ rfl; refine blk_put (cs := #[.int .u64 x.f0, .int .u64 x.f1, .string x.f2, .int .i64 x.f3, .string x.f4, .string x.f5, .int .u64 0, .int .i64 0, .slice none 0 0, .slice none 0 0]) ?_ 6 _ rfl; refine blk_put (cs := #[.int .u64 x.f0, .int .u64 x.f1, .string x.f2, .int .i64 x.f3, .string x.f4, .string ⟨#[]⟩, .int .u64 0, .int .i64 0, .slice none 0 0, .slice none 0 0]) ?_ 5 _ rfl; refine blk_put (cs := #[.int .u64 x.f0, .int .u64 x.f1, .string x.f2, .int .i64 x.f3, .string ⟨#[]⟩, .string ⟨#[]⟩, .int .u64 0, .int .i64 0, .slice none 0 0, .slice none 0 0]) ?_ 4 _ rfl; refine blk_put (cs := #[.int .u64 x.f0, .int .u64 x.f1, .string x.f2, .int .i64 0, .string ⟨#[]⟩, .string ⟨#[]⟩, .int .u64 0, .int .i64 0, .slice none 0 0, .slice none 0 0]) ?_ 3 _ rfl; refine blk_put (cs := #[.int .u64 x.f0, .int .u64 x.f1, .string ⟨#[]⟩, .int .i64 0, .string ⟨#[]⟩, .string ⟨#[]⟩, .int .u64 0, .int .i64 0, .slice none 0 0, .slice none 0 0]) ?_ 2 _ rfl; refine blk_put (cs := #[.int .u64 x.f0, .int .u64 0, .string ⟨#[]⟩, .int .i64 0, .string ⟨#[]⟩, .string ⟨#[]⟩, .int .u64 0, .int .i64 0, .slice none 0 0, .slice none 0 0]) ?_ 1 _ rfl; refine blk_put (cs := #[.int .u64 0, .int .u64 0, .string ⟨#[]⟩, .int .i64 0, .string ⟨#[]⟩, .string ⟨#[]⟩, .int .u64 0, .int .i64 0, .slice none 0 0, .slice none 0 0]) ?_ 0 _ rfl; exact BK5.out⟩, ⟨_, RX.out, by (iterate 10 (refine below_set ?_ G15.out)); exact HB1.out⟩, ⟨by repeat (first | (with_reducible first | exact HB.out | apply below_alloc | apply pw_below_drewN | apply below_drew1 | refine below_set ?_ GE5.out) | exact HB.out)⟩⟩
            case rest =>
              obtain ⟨g5, B8, d8, B9, d9, rfl, rfl, BK2, BK5, RX, HB⟩ := hcut
              obtain ⟨hm0, hm1, hm2, hm3, hm4, hm5, hm6, hm7, hm8, hm9, fm0, fm1, fm2, fm3, fm4, fm5, fm6, fm7, fm8, fm9⟩ := cells10 BK2.out
              go_upto_region 6 with (first
                | (go_at_call 80; (with_reducible refine (RR.out _ (HX.out.below HB.out)).mono ?_); rintro e w3 ⟨rfl, hb⟩; have B5_ := Aside0.mk (blk_below BK5.out hb); have R_ := Aside0.mk (show ∃ w1, RecC w1 x B8 d8 B9 d9 ∧ Below w1.heap.size w1 w3 from (by obtain ⟨wq, h1, h2⟩ := RX.out; exact ⟨wq, h1, below_step h2 hb⟩)); clear BK5 RX; have BK5 := B5_; have RX := R_; clear B5_ R_; have B2_ := Aside0.mk (blk_below BK2.out hb); have nb_ := Aside0.mk (below_step HB.out hb); clear BK2 HB; have BK2 := B2_; have HB := nb_; clear B2_ nb_; clear hb; obtain ⟨hn0, hn1, hn2, hn3, hn4, hn5, hn6, hn7, hn8, hn9, fn0, fn1, fn2, fn3, fn4, fn5, fn6, fn7, fn8, fn9⟩ := cells10 BK2.out; obtain ⟨ho0, ho1, ho2, ho3, ho4, ho5, ho6, ho7, ho8, ho9, fo0, fo1, fo2, fo3, fo4, fo5, fo6, fo7, fo8, fo9⟩ := cells10 BK5.out)
                | (go_at_call 86; (with_reducible refine (same_u x B8 d8 B9 d9 A8 c8 A9 c9 _ (by obtain ⟨wq, h1, h2⟩ := RX.out; exact h1.below h2) OK.out (HX.out.below HB.out)).mono ?_); rintro e w4 ⟨rfl, hb⟩; have B2_ := Aside0.mk (blk_below BK2.out hb); have nb_ := Aside0.mk (below_step HB.out hb); clear BK2 HB; have BK2 := B2_; have HB := nb_; clear B2_ nb_; clear hb))
              cases gd with
              | true =>
                have SB := Aside0.mk (fun D8 e8 D9 e9 W h => show_b y D8 e8 D9 e9 b (HYB.out rfl) W h OY.out)
                go_cut [7, 8] (fun v7 v8 wc => ∃ g7 D8 e8 D9 e9, v7 = .pointer (some ⟨g7, 0, none⟩) ∧ v8 = .int .i64 0 ∧ Aside0 (wc.heap[g7]? = some (.cells #[.int .u64 y.f0, .int .u64 y.f1, .string y.f2, .int .i64 y.f3, .string y.f4, .string y.f5, .int .u64 y.f6, .int .i64 y.f7, .slice D8 y.f8.length e8, .slice D9 y.f9.length e9] 69 (0, 0))) ∧ Aside0 (∃ w1, RecC w1 y D8 e8 D9 e9 ∧ Below w1.heap.size w1 wc) ∧ Aside0 (Below w.heap.size w wc))
                case first =>
                  clear BK2
                  go_wp2_with (first
                    | (go_at_call 88; (with_reducible refine (RB.out _ (Kd.C_below HC.out HB.out)).mono ?_); rintro e w1 hp; obtain ⟨D8, e8, D9, e9, rfl, hR, hb⟩ := RdPost_t hp; have RY := Aside0.mk hR; have nb_ := Aside0.mk (below_step HB.out hb); clear hp hR HB hb; have HB := nb_; clear nb_)
                    | ((with_reducible refine gate_dst (N := 7) rfl ?_); refine box_event ?hg (N := 7) ?hd (cs := #[.int .u64 0, .int .u64 0, .string ⟨#[]⟩, .int .i64 0, .string ⟨#[]⟩, .string ⟨#[]⟩, .int .u64 0, .int .i64 0, .slice none 0 0, .slice none 0 0]) (t := 69) ?hr ?_; (case hd => rfl); (case hg => rfl); (case hr => first | (go_simp; done) | (go_simp; rfl)); intro g7 hg w2 hbox hb; have BK7 := Aside0.mk hbox; have GE7 := Aside0.mk (by rw [hg]; exact below_size HB.out : w.heap.size ≤ g7); have G17 := Aside0.mk (by rw [hg]; exact Nat.le_refl _ : w1.heap.size ≤ g7); have HB1 := Aside0.mk hb; have nb_ := Aside0.mk (below_step HB.out hb); clear HB; have HB := nb_; clear nb_; clear hbox hb hg; obtain ⟨hk0, hk1, hk2, hk3, hk4, hk5, hk6, hk7, hk8, hk9, fk0, fk1, fk2, fk3, fk4, fk5, fk6, fk7, fk8, fk9⟩ := cells10 BK7.out))
                  go_meet
                  case rel => exact ⟨g7, D8, e8, D9, e9, rfl, rfl, ⟨by refine blk_put (cs := #[.int .u64 y.f0, .int .u64 y.f1, .string y.f2, .int .i64 y.f3, .string y.f4, .string y.f5, .int .u64 y.f6, .int .i64 y.f7, .slice D8 y.f8.length e8, .slice none 0 0]) ?_ 9 _ rfl; refine blk_put (cs := #[.int .u64 y.f0, .int .u64 y.f1, .string y.f2, .int .i64 y.f3, .string y.f4, .string y.f5, .int .u64 y.f6, .int .i64 y.f7, .slice none 0 0, .slice none 0 0]) ?_ 8 _ rfl; refine blk_put (cs := #[.int .u64 y.f0, .int .u64 y.f1, .string y.f2, .int .i64 y.f3, .string y.f4, .string y.f5, .int .u64 y.f6, .int .i64 0, .slice none 0 0, .slice none 0 0]) ?_ 7 _ rfl; refine blk_put (cs := #[.int .u64 y.f0, .int .u64 y.f1, .string y.f2, .int .i64 y.f3, .string y.f4, .string y.f5, .int .u64 0, .int .i64 0, .slice none 0 0, .slice none 0 0]) ?_ 6 _ rfl; refine blk_put (cs := #[.int .u64 y.f0, .int .u64 y.f1, .string y.f2, .int .i64 y.f3, .string y.f4, .string ⟨#[]⟩, .int .u64 0, .int .i64 0, .slice none 0 0, .slice none 0 0]) ?_ 5 _ rfl; refine blk_put (cs := #[.int .u64 y.f0, .int .u64 y.f1, .string y.f2, .int .i64 y.f3, .string ⟨#[]⟩, .string ⟨#[]⟩, .int .u64 0, .int .i64 0, .slice none 0 0, .slice none 0 0]) ?_ 4 _ rfl; refine blk_put (cs := #[.int .u64 y.f0, .int .u64 y.f1, .string y.f2, .int .i64 0, .string ⟨#[]⟩, .string ⟨#[]⟩, .int .u64 0, .int .i64 0, .slice none 0 0, .slice none 0 0]) ?_ 3 _ rfl; refine blk_put (cs := #[.int .u64 y.f0, .int .u64 y.f1, .string ⟨#[]⟩, .int .i64 0, .string ⟨#[]⟩, .string ⟨#[]⟩, .int .u64 0, .int .i64 0, .slice none 0 0, .slice none 0 0]) ?_ 2 _ rfl; refine blk_put (cs := #[.int .u64 y.f0, .int .u64 0, .string ⟨#[]⟩, .int .i64 0, .string ⟨#[]⟩, .string ⟨#[]⟩, .int .u64 0, .int .i64 0, .slice none 0 0, .slice none 0 0]) ?_ 1 _ rfl; refine blk_put (cs := #[.int .u64 0, .int .u64 0, .string ⟨#[]⟩, .int .i64 0, .string ⟨#[]⟩, .string ⟨#[]⟩, .int .u64 0, .int .i64 0, .slice none 0 0, .slice none 0 0]) ?_ 0 _ rfl; exact BK7.out⟩, ⟨_, RY.out, by (iterate 10 (refine below_set ?_ G17.out)); exact HB1.out⟩, ⟨by repeat (first | (with_reducible first | exact HB.out | apply below_alloc | apply pw_below_drewN | apply below_drew1 | refine below_set ?_ GE7.out) | exact HB.out)⟩⟩
                case rest =>
                  obtain ⟨g7, D8, e8, D9, e9, rfl, rfl, BK7, RY, HB⟩ := hcut
                  obtain ⟨hp0, hp1, hp2, hp3, hp4, hp5, hp6, hp7, hp8, hp9, fp0, fp1, fp2, fp3, fp4, fp5, fp6, fp7, fp8, fp9⟩ := cells10 BK7.out
                  go_wp2_with (first
                    | (go_at_call 84; (with_reducible refine (SB.out D8 e8 D9 e9 _ (by obtain ⟨wq, h1, h2⟩ := RY.out; exact h1.below h2)).mono ?_); rintro e w5 ⟨Ab, cb, rfl, hca, hCa, hb⟩; have C2 := Aside0.mk hCa; have L2 := Aside0.mk hca; have nb_ := Aside0.mk (below_step HB.out hb); clear HB hb hCa hca; have HB := nb_; clear nb_)
                    | (go_at_call 29; (with_reducible refine (bsame_u Ab cb b A c _ C2.out L2.out (Kd.C_below HC.out HB.out) Hc.out LN.out).mono ?_); rintro e w6 ⟨rfl, hb⟩; have nb_ := Aside0.mk (below_step HB.out hb); clear HB hb; have HB := nb_; clear nb_)
                    | (go_at_call 74; (with_reducible refine (alive14 _).mono ?_); rintro e wz ⟨rfl, hb⟩; have HZ := Aside0.mk (below_step HB.out hb); clear hb))
                  go_ret
                  exact ⟨rfl, HZ.out⟩
              | false =>
                go_cut [7, 8] (fun v7 v8 wc => ∃ g7, v7 = .pointer (some ⟨g7, 0, none⟩) ∧ v8 = .int .i64 4 ∧ Aside0 (Below w.heap.size w wc))
                case first =>
                  clear BK2
                  go_wp2_with (first
                    | (go_at_call 88; (with_reducible refine (RB.out _ (Kd.C_below HC.out HB.out)).mono ?_); rintro e w1 hp; obtain ⟨rfl, hb⟩ := RdPost_f hp; have nb_ := Aside0.mk (below_step HB.out hb); clear hp HB hb; have HB := nb_; clear nb_)
                    | ((with_reducible refine gate_dst (N := 7) rfl ?_); refine box_event ?hg (N := 7) ?hd (cs := #[.int .u64 0, .int .u64 0, .string ⟨#[]⟩, .int .i64 0, .string ⟨#[]⟩, .string ⟨#[]⟩, .int .u64 0, .int .i64 0, .slice none 0 0, .slice none 0 0]) (t := 69) ?hr ?_; (case hd => rfl); (case hg => rfl); (case hr => first | (go_simp; done) | (go_simp; rfl)); intro g7 hg w2 hbox hb; have BK7 := Aside0.mk hbox; have GE7 := Aside0.mk (by rw [hg]; exact below_size HB.out : w.heap.size ≤ g7); have G17 := Aside0.mk (by rw [hg]; exact Nat.le_refl _ : w1.heap.size ≤ g7); have HB1 := Aside0.mk hb; have nb_ := Aside0.mk (below_step HB.out hb); clear HB; have HB := nb_; clear nb_; clear hbox hb hg; obtain ⟨hk0, hk1, hk2, hk3, hk4, hk5, hk6, hk7, hk8, hk9, fk0, fk1, fk2, fk3, fk4, fk5, fk6, fk7, fk8, fk9⟩ := cells10 BK7.out))
                  go_meet
                  case rel => exact ⟨g7, rfl, rfl, ⟨by repeat (first | (with_reducible first | exact HB.out | apply below_alloc | apply pw_below_drewN | apply below_drew1 | refine below_set ?_ GE7.out) | exact HB.out)⟩⟩
                case rest =>
                  obtain ⟨g7, rfl, rfl, HB⟩ := hcut
                  go_wp2_with (first
                    | (go_at_call 74; (with_reducible refine (alive14 _).mono ?_); rintro e wz ⟨rfl, hb⟩; have HZ := Aside0.mk (below_step HB.out hb); clear hb))
                  go_ret
                  exact ⟨rfl, HZ.out⟩
          | false =>
            go_enter Try.func23, Try.ntmps23
            go_upto_region 3 with (first
              | ((with_reducible refine gate_dst (N := 2) rfl ?_); refine box_event ?hg (N := 2) ?hd (cs := #[.int .u64 x.f0, .int .u64 x.f1, .string x.f2, .int .i64 x.f3, .string x.f4, .string x.f5, .int .u64 x.f6, .int .i64 x.f7, .slice A8 x.f8.length c8, .slice A9 x.f9.length c9]) (t := 69) ?hr ?_; (case hd => rfl); (case hg => rfl); (case hr => first | (go_simp; done) | (go_simp; rfl)); intro g2 hg wa hbox hb; have BK2 := Aside0.mk hbox; have GE2 := Aside0.mk (by rw [hg]; exact below_size HB.out : w.heap.size ≤ g2); have nb_ := Aside0.mk (below_step HB.out hb); clear HB; have HB := nb_; clear nb_ hbox hb hg; obtain ⟨ha0, ha1, ha2, ha3, ha4, ha5, ha6, ha7, ha8, ha9, fa0, fa1, fa2, fa3, fa4, fa5, fa6, fa7, fa8, fa9⟩ := cells10 BK2.out)
              | ((with_reducible refine gate_dst (N := 10) rfl ?_); (try (refine gate_guard (by rfl) ?_; dsimp only)); refine lit_event rfl (N := 10) rfl (cs := #[.int .u64 x.f0, .int .u64 x.f1, .string x.f2, .int .i64 x.f3, .string x.f4, .string x.f5, .int .u64 x.f6, .int .i64 x.f7, .slice A8 x.f8.length c8, .slice A9 x.f9.length c9]) (t := 69) (n := 1) ?hr ?_; (case hr => first | (go_simp; done) | (go_simp; rfl)); intro g3 hg3 wb hbox hb; have K3 := Aside0.mk (lit1 _ _ _ _ _ _ _ _ hbox (HX.out.below (below_step HB.out hb))); have B2_ := Aside0.mk (blk_below BK2.out hb); have nb_ := Aside0.mk (below_step HB.out hb); clear BK2 HB; have BK2 := B2_; have HB := nb_; clear B2_ nb_; clear hg3 hbox hb)
              | (go_at_call 73; (with_reducible refine (light1 g3 x true _ K3.out HS.out HL.out).mono ?_); rintro e wl ⟨rfl, hb⟩; clear K3; have B2_ := Aside0.mk (blk_below BK2.out hb); have nb_ := Aside0.mk (below_step HB.out hb); clear BK2 HB; have BK2 := B2_; have HB := nb_; clear B2_ nb_; clear hb; obtain ⟨hb0, hb1, hb2, hb3, hb4, hb5, hb6, hb7, hb8, hb9, fb0, fb1, fb2, fb3, fb4, fb5, fb6, fb7, fb8, fb9⟩ := cells10 BK2.out))
            go_cut [5, 6] (fun v5 v6 wc => ∃ g5, v5 = .pointer (some ⟨g5, 0, none⟩) ∧ v6 = .int .i64 4 ∧ Aside0 (wc.heap[g2]? = some (.cells #[.int .u64 x.f0, .int .u64 x.f1, .string x.f2, .int .i64 x.f3, .string x.f4, .string x.f5, .int .u64 x.f6, .int .i64 x.f7, .slice A8 x.f8.length c8, .slice A9 x.f9.length c9] 69 (0, 0))) ∧ Aside0 (Below w.heap.size w wc))
            case first =>
              go_wp2_with (first
                | (go_at_call 84; (with_reducible refine (show_b x A8 c8 A9 c9 _ rfl _ (HX.out.below HB.out) OK.out).mono ?_); rintro e w0 ⟨Aa, ca, rfl, hca, hCa, hb⟩; have C1 := Aside0.mk hCa; have L1 := Aside0.mk hca; clear hCa hca; have B2_ := Aside0.mk (blk_below BK2.out hb); have nb_ := Aside0.mk (below_step HB.out hb); clear BK2 HB; have BK2 := B2_; have HB := nb_; clear B2_ nb_; clear hb)
                | (go_at_call 88; (with_reducible refine (RS.out Aa ca _ C1.out L1.out).mono ?_); rintro e w1 hp; obtain ⟨rfl, hb⟩ := RdPost_f hp; clear hp C1 L1; have B2_ := Aside0.mk (blk_below BK2.out hb); have nb_ := Aside0.mk (below_step HB.out hb); clear BK2 HB; have BK2 := B2_; have HB := nb_; clear B2_ nb_; clear hb)
                | ((with_reducible refine gate_dst (N := 5) rfl ?_); refine box_event ?hg (N := 5) ?hd (cs := #[.int .u64 0, .int .u64 0, .string ⟨#[]⟩, .int .i64 0, .string ⟨#[]⟩, .string ⟨#[]⟩, .int .u64 0, .int .i64 0, .slice none 0 0, .slice none 0 0]) (t := 69) ?hr ?_; (case hd => rfl); (case hg => rfl); (case hr => first | (go_simp; done) | (go_simp; rfl)); intro g5 hg w2 hbox hb; have BK5 := Aside0.mk hbox; have GE5 := Aside0.mk (by rw [hg]; exact below_size HB.out : w.heap.size ≤ g5); have G15 := Aside0.mk (by rw [hg]; exact Nat.le_refl _ : w1.heap.size ≤ g5); have N25 := Aside0.mk (by rw [hg]; exact Nat.ne_of_lt (blk_lt BK2.out) : g2 ≠ g5); have HB1 := Aside0.mk hb; have B2_ := Aside0.mk (blk_below BK2.out hb); have nb_ := Aside0.mk (below_step HB.out hb); clear BK2 HB; have BK2 := B2_; have HB := nb_; clear B2_ nb_; clear hbox hb hg; obtain ⟨hg0, hg1, hg2, hg3, hg4, hg5, hg6, hg7, hg8, hg9, fg0, fg1, fg2, fg3, fg4, fg5, fg6, fg7, fg8, fg9⟩ := cells10 BK5.out))
              go_meet
              case rel => exact ⟨g5, rfl, rfl, ⟨by (iterate 10 (refine blk_far ?_ N25.out _)); exact BK2.out⟩, ⟨by repeat (first | (with_reducible first | exact HB.out | apply below_alloc | apply pw_below_drewN | apply below_drew1 | refine below_set ?_ GE5.out) | exact HB.out)⟩⟩
            case rest =>
              obtain ⟨g5, rfl, rfl, BK2, HB⟩ := hcut
              obtain ⟨hm0, hm1, hm2, hm3, hm4, hm5, hm6, hm7, hm8, hm9, fm0, fm1, fm2, fm3, fm4, fm5, fm6, fm7, fm8, fm9⟩ := cells10 BK2.out
              go_upto_region 6 with (first
                | (go_at_call 80; (with_reducible refine (RR.out _ (HX.out.below HB.out)).mono ?_); rintro e w3 ⟨rfl, hb⟩; have B2_ := Aside0.mk (blk_below BK2.out hb); have nb_ := Aside0.mk (below_step HB.out hb); clear BK2 HB; have BK2 := B2_; have HB := nb_; clear B2_ nb_; clear hb))
              cases gd with
              | true =>
                have SB := Aside0.mk (fun D8 e8 D9 e9 W h => show_b y D8 e8 D9 e9 b (HYB.out rfl) W h OY.out)
                go_cut [7, 8] (fun v7 v8 wc => ∃ g7 D8 e8 D9 e9, v7 = .pointer (some ⟨g7, 0, none⟩) ∧ v8 = .int .i64 0 ∧ Aside0 (wc.heap[g7]? = some (.cells #[.int .u64 y.f0, .int .u64 y.f1, .string y.f2, .int .i64 y.f3, .string y.f4, .string y.f5, .int .u64 y.f6, .int .i64 y.f7, .slice D8 y.f8.length e8, .slice D9 y.f9.length e9] 69 (0, 0))) ∧ Aside0 (∃ w1, RecC w1 y D8 e8 D9 e9 ∧ Below w1.heap.size w1 wc) ∧ Aside0 (Below w.heap.size w wc))
                case first =>
                  clear BK2
                  go_wp2_with (first
                    | (go_at_call 88; (with_reducible refine (RB.out _ (Kd.C_below HC.out HB.out)).mono ?_); rintro e w1 hp; obtain ⟨D8, e8, D9, e9, rfl, hR, hb⟩ := RdPost_t hp; have RY := Aside0.mk hR; have nb_ := Aside0.mk (below_step HB.out hb); clear hp hR HB hb; have HB := nb_; clear nb_)
                    | ((with_reducible refine gate_dst (N := 7) rfl ?_); refine box_event ?hg (N := 7) ?hd (cs := #[.int .u64 0, .int .u64 0, .string ⟨#[]⟩, .int .i64 0, .string ⟨#[]⟩, .string ⟨#[]⟩, .int .u64 0, .int .i64 0, .slice none 0 0, .slice none 0 0]) (t := 69) ?hr ?_; (case hd => rfl); (case hg => rfl); (case hr => first | (go_simp; done) | (go_simp; rfl)); intro g7 hg w2 hbox hb; have BK7 := Aside0.mk hbox; have GE7 := Aside0.mk (by rw [hg]; exact below_size HB.out : w.heap.size ≤ g7); have G17 := Aside0.mk (by rw [hg]; exact Nat.le_refl _ : w1.heap.size ≤ g7); have HB1 := Aside0.mk hb; have nb_ := Aside0.mk (below_step HB.out hb); clear HB; have HB := nb_; clear nb_; clear hbox hb hg; obtain ⟨hk0, hk1, hk2, hk3, hk4, hk5, hk6, hk7, hk8, hk9, fk0, fk1, fk2, fk3, fk4, fk5, fk6, fk7, fk8, fk9⟩ := cells10 BK7.out))
                  go_meet
                  case rel => exact ⟨g7, D8, e8, D9, e9, rfl, rfl, ⟨by refine blk_put (cs := #[.int .u64 y.f0, .int .u64 y.f1, .string y.f2, .int .i64 y.f3, .string y.f4, .string y.f5, .int .u64 y.f6, .int .i64 y.f7, .slice D8 y.f8.length e8, .slice none 0 0]) ?_ 9 _ rfl; refine blk_put (cs := #[.int .u64 y.f0, .int .u64 y.f1, .string y.f2, .int .i64 y.f3, .string y.f4, .string y.f5, .int .u64 y.f6, .int .i64 y.f7, .slice none 0 0, .slice none 0 0]) ?_ 8 _ rfl; refine blk_put (cs := #[.int .u64 y.f0, .int .u64 y.f1, .string y.f2, .int .i64 y.f3, .string y.f4, .string y.f5, .int .u64 y.f6, .int .i64 0, .slice none 0 0, .slice none 0 0]) ?_ 7 _ rfl; refine blk_put (cs := #[.int .u64 y.f0, .int .u64 y.f1, .string y.f2, .int .i64 y.f3, .string y.f4, .string y.f5, .int .u64 0, .int .i64 0, .slice none 0 0, .slice none 0 0]) ?_ 6 _ rfl; refine blk_put (cs := #[.int .u64 y.f0, .int .u64 y.f1, .string y.f2, .int .i64 y.f3, .string y.f4, .string ⟨#[]⟩, .int .u64 0, .int .i64 0, .slice none 0 0, .slice none 0 0]) ?_ 5 _ rfl; refine blk_put (cs := #[.int .u64 y.f0, .int .u64 y.f1, .string y.f2, .int .i64 y.f3, .string ⟨#[]⟩, .string ⟨#[]⟩, .int .u64 0, .int .i64 0, .slice none 0 0, .slice none 0 0]) ?_ 4 _ rfl; refine blk_put (cs := #[.int .u64 y.f0, .int .u64 y.f1, .string y.f2, .int .i64 0, .string ⟨#[]⟩, .string ⟨#[]⟩, .int .u64 0, .int .i64 0, .slice none 0 0, .slice none 0 0]) ?_ 3 _ rfl; refine blk_put (cs := #[.int .u64 y.f0, .int .u64 y.f1, .string ⟨#[]⟩, .int .i64 0, .string ⟨#[]⟩, .string ⟨#[]⟩, .int .u64 0, .int .i64 0, .slice none 0 0, .slice none 0 0]) ?_ 2 _ rfl; refine blk_put (cs := #[.int .u64 y.f0, .int .u64 0, .string ⟨#[]⟩, .int .i64 0, .string ⟨#[]⟩, .string ⟨#[]⟩, .int .u64 0, .int .i64 0, .slice none 0 0, .slice none 0 0]) ?_ 1 _ rfl; refine blk_put (cs := #[.int .u64 0, .int .u64 0, .string ⟨#[]⟩, .int .i64 0, .string ⟨#[]⟩, .string ⟨#[]⟩, .int .u64 0, .int .i64 0, .slice none 0 0, .slice none 0 0]) ?_ 0 _ rfl; exact BK7.out⟩, ⟨_, RY.out, by (iterate 10 (refine below_set ?_ G17.out)); exact HB1.out⟩, ⟨by repeat (first | (with_reducible first | exact HB.out | apply below_alloc | apply pw_below_drewN | apply below_drew1 | refine below_set ?_ GE7.out) | exact HB.out)⟩⟩
                case rest =>
                  obtain ⟨g7, D8, e8, D9, e9, rfl, rfl, BK7, RY, HB⟩ := hcut
                  obtain ⟨hp0, hp1, hp2, hp3, hp4, hp5, hp6, hp7, hp8, hp9, fp0, fp1, fp2, fp3, fp4, fp5, fp6, fp7, fp8, fp9⟩ := cells10 BK7.out
                  go_wp2_with (first
                    | (go_at_call 84; (with_reducible refine (SB.out D8 e8 D9 e9 _ (by obtain ⟨wq, h1, h2⟩ := RY.out; exact h1.below h2)).mono ?_); rintro e w5 ⟨Ab, cb, rfl, hca, hCa, hb⟩; have C2 := Aside0.mk hCa; have L2 := Aside0.mk hca; have nb_ := Aside0.mk (below_step HB.out hb); clear HB hb hCa hca; have HB := nb_; clear nb_)
                    | (go_at_call 29; (with_reducible refine (bsame_u Ab cb b A c _ C2.out L2.out (Kd.C_below HC.out HB.out) Hc.out LN.out).mono ?_); rintro e w6 ⟨rfl, hb⟩; have nb_ := Aside0.mk (below_step HB.out hb); clear HB hb; have HB := nb_; clear nb_)
                    | (go_at_call 74; (with_reducible refine (alive14 _).mono ?_); rintro e wz ⟨rfl, hb⟩; have HZ := Aside0.mk (below_step HB.out hb); clear hb))
                  go_ret
                  exact ⟨rfl, HZ.out⟩
              | false =>
                go_cut [7, 8] (fun v7 v8 wc => ∃ g7, v7 = .pointer (some ⟨g7, 0, none⟩) ∧ v8 = .int .i64 4 ∧ Aside0 (Below w.heap.size w wc))
                case first =>
                  clear BK2
                  go_wp2_with (first
                    | (go_at_call 88; (with_reducible refine (RB.out _ (Kd.C_below HC.out HB.out)).mono ?_); rintro e w1 hp; obtain ⟨rfl, hb⟩ := RdPost_f hp; have nb_ := Aside0.mk (below_step HB.out hb); clear hp HB hb; have HB := nb_; clear nb_)
                    | ((with_reducible refine gate_dst (N := 7) rfl ?_); refine box_event ?hg (N := 7) ?hd (cs := #[.int .u64 0, .int .u64 0, .string ⟨#[]⟩, .int .i64 0, .string ⟨#[]⟩, .string ⟨#[]⟩, .int .u64 0, .int .i64 0, .slice none 0 0, .slice none 0 0]) (t := 69) ?hr ?_; (case hd => rfl); (case hg => rfl); (case hr => first | (go_simp; done) | (go_simp; rfl)); intro g7 hg w2 hbox hb; have BK7 := Aside0.mk hbox; have GE7 := Aside0.mk (by rw [hg]; exact below_size HB.out : w.heap.size ≤ g7); have G17 := Aside0.mk (by rw [hg]; exact Nat.le_refl _ : w1.heap.size ≤ g7); have HB1 := Aside0.mk hb; have nb_ := Aside0.mk (below_step HB.out hb); clear HB; have HB := nb_; clear nb_; clear hbox hb hg; obtain ⟨hk0, hk1, hk2, hk3, hk4, hk5, hk6, hk7, hk8, hk9, fk0, fk1, fk2, fk3, fk4, fk5, fk6, fk7, fk8, fk9⟩ := cells10 BK7.out))
                  go_meet
                  case rel => exact ⟨g7, rfl, rfl, ⟨by repeat (first | (with_reducible first | exact HB.out | apply below_alloc | apply pw_below_drewN | apply below_drew1 | refine below_set ?_ GE7.out) | exact HB.out)⟩⟩
                case rest =>
                  obtain ⟨g7, rfl, rfl, HB⟩ := hcut
                  go_wp2_with (first
                    | (go_at_call 74; (with_reducible refine (alive14 _).mono ?_); rintro e wz ⟨rfl, hb⟩; have HZ := Aside0.mk (below_step HB.out hb); clear hb))
                  go_ret
                  exact ⟨rfl, HZ.out⟩
    · have d1 : decide (10000 < (b.length : Int)) = true := decide_eq_true (by omega)
      have d2 : decide (10000 < b.length) = true := decide_eq_true (by omega)
      clear hx hC hc hs hk hb hl ok hbulk hn
      go_enter Try.func23, Try.ntmps23
      go_wp2_with (first
        | ((with_reducible refine gate_dst (N := 2) rfl ?_); refine box_event ?hg (N := 2) ?hd (cs := #[.int .u64 x.f0, .int .u64 x.f1, .string x.f2, .int .i64 x.f3, .string x.f4, .string x.f5, .int .u64 x.f6, .int .i64 x.f7, .slice A8 x.f8.length c8, .slice A9 x.f9.length c9]) (t := 69) ?hr ?_; (case hd => rfl); (case hg => rfl); (case hr => first | (go_simp; done) | (go_simp; rfl)); intro g2 hg wa hbox hb; have BK2 := Aside0.mk hbox; have GE2 := Aside0.mk (by rw [hg]; exact below_size HB.out : w.heap.size ≤ g2); have nb_ := Aside0.mk (below_step HB.out hb); clear HB; have HB := nb_; clear nb_ hbox hb hg; obtain ⟨ha0, ha1, ha2, ha3, ha4, ha5, ha6, ha7, ha8, ha9, fa0, fa1, fa2, fa3, fa4, fa5, fa6, fa7, fa8, fa9⟩ := cells10 BK2.out)
        | ((with_reducible refine gate_dst (N := 10) rfl ?_); (try (refine gate_guard (by rfl) ?_; dsimp only)); refine lit_event rfl (N := 10) rfl (cs := #[.int .u64 x.f0, .int .u64 x.f1, .string x.f2, .int .i64 x.f3, .string x.f4, .string x.f5, .int .u64 x.f6, .int .i64 x.f7, .slice A8 x.f8.length c8, .slice A9 x.f9.length c9]) (t := 69) (n := 1) ?hr ?_; (case hr => first | (go_simp; done) | (go_simp; rfl)); intro g3 hg3 wb hbox hb; have K3 := Aside0.mk (lit1 _ _ _ _ _ _ _ _ hbox (HX.out.below (below_step HB.out hb))); have B2_ := Aside0.mk (blk_below BK2.out hb); have nb_ := Aside0.mk (below_step HB.out hb); clear BK2 HB; have BK2 := B2_; have HB := nb_; clear B2_ nb_; clear hg3 hbox hb)
        | (go_at_call 73; (with_reducible refine (light1 g3 x true _ K3.out HS.out HL.out).mono ?_); rintro e wl ⟨rfl, hb⟩; clear K3; have B2_ := Aside0.mk (blk_below BK2.out hb); have nb_ := Aside0.mk (below_step HB.out hb); clear BK2 HB; have BK2 := B2_; have HB := nb_; clear B2_ nb_; clear hb; obtain ⟨hb0, hb1, hb2, hb3, hb4, hb5, hb6, hb7, hb8, hb9, fb0, fb1, fb2, fb3, fb4, fb5, fb6, fb7, fb8, fb9⟩ := cells10 BK2.out)
        | (go_at_call 74; (with_reducible refine (alive14 _).mono ?_); rintro e wz ⟨rfl, hb⟩; have HZ := Aside0.mk (below_step HB.out hb); clear hb))
      go_ret
      exact ⟨rfl, HZ.out⟩
end Go.Proofs.Ytlnpmodhejakiaa.AV
namespace Go.Proofs.Ytlnpmodhejakiaa.PV
open Go.RowKit Go.Proofs.YtlnpmodhejakiaaW.PrintWords Go.Proofs.YtlnpmodhejakiaaW.PrintLast Go.Proofs.YtlnpmodhejakiaaW.PrintMore Go.Proofs.Ytlnpmodhejakiaa.D Go.Proofs.Ytlnpmodhejakiaa.AV
open Go.Proofs.Ytlnpmodhejakiaa.PV (S69)
open Classical in
noncomputable def stelelaw14_AuditBack.f (a0_0 : Int) (a0_1 : Int) (a0_2 : ByteArray) (a0_3 : Int) (a0_4 : ByteArray) (a0_5 : ByteArray) (a0_6 : Int) (a0_7 : Int) (l0_8 : List Int) (l0_9 : List Int) (l1 : List Int) : Option Bool := if rawX ⟨a0_0, a0_1, a0_2, a0_3, a0_4, a0_5, a0_6, a0_7, l0_8, l0_9⟩ ∧ okL l1 then some true else none
theorem stelelaw14_AuditBack.calls (a0_0 : Int) (a0_1 : Int) (a0_2 : ByteArray) (a0_3 : Int) (a0_4 : ByteArray) (a0_5 : ByteArray) (a0_6 : Int) (a0_7 : Int) (A0_8 : Option Addr) (c0_8 : Nat) (l0_8 : List Int) (A0_9 : Option Addr) (c0_9 : Nat) (l0_9 : List Int) (A1 : Option Addr) (c1 : Nat) (l1 : List Int) (r : Bool) (w : World) (hr0_8 : Kd.C (Kd.int .u8) w A0_8 l0_8.length l0_8) (hc0_8 : l0_8.length ≤ c0_8) (hr0_9 : Kd.C (Kd.int .u8) w A0_9 l0_9.length l0_9) (hc0_9 : l0_9.length ≤ c0_9) (hr1 : Kd.C (Kd.int .u8) w A1 l1.length l1) (hc1 : l1.length ≤ c1) (h : stelelaw14_AuditBack.f a0_0 a0_1 a0_2 a0_3 a0_4 a0_5 a0_6 a0_7 l0_8 l0_9 l1 = some r) :
    Calls Try.prog 23 #[.agg #[.int .u64 a0_0, .int .u64 a0_1, .string a0_2, .int .i64 a0_3, .string a0_4, .string a0_5, .int .u64 a0_6, .int .i64 a0_7, .slice A0_8 l0_8.length c0_8, .slice A0_9 l0_9.length c0_9], .slice A1 l1.length c1] w fun e w' => e = .returned (.bool r) ∧ Below w.heap.size w w' := by
  unfold stelelaw14_AuditBack.f at h
  split at h
  · rename_i hh
    obtain rfl := Option.some.inj h
    exact back_any ⟨a0_0, a0_1, a0_2, a0_3, a0_4, a0_5, a0_6, a0_7, l0_8, l0_9⟩ A0_8 c0_8 A0_9 c0_9 A1 c1 l1 w ⟨hr0_8, hc0_8, hr0_9, hc0_9⟩ hr1 hc1 (rawX.small hh.1) (fun hL => by have h5 := (light_m hL).2 _ (List.mem_singleton_self _); exact ⟨rawX.ok hh.1 h5, h5⟩) hh.2
  · cases h
end Go.Proofs.Ytlnpmodhejakiaa.PV
