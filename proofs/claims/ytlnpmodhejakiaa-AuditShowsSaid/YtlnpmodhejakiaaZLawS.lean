/- The law AuditShows: its function. -/
import Derived.Test.YtlnpmodhejakiaaZAudB
namespace Go.Proofs.Ytlnpmodhejakiaa.AV
open Go.RowKit Go.Proofs.YtlnpmodhejakiaaW.PrintWords Go.Proofs.YtlnpmodhejakiaaW.PrintLast Go.Proofs.YtlnpmodhejakiaaW.PrintMore Go.Proofs.Ytlnpmodhejakiaa.Sha Go.Proofs.Ytlnpmodhejakiaa.D Go.Proofs.Ytlnpmodhejakiaa.PC Go.Proofs.Ytlnpmodhejakiaa.CP Go.Proofs.Ytlnpmodhejakiaa.PV
set_option linter.unusedVariables false
set_option linter.unusedSimpArgs false
theorem lit3 (w : World) (g : Nat) (T : TypeId) (x : S69) (xA8 : Option Addr) (xc8 : Nat) (xA9 : Option Addr) (xc9 : Nat) (y : S69) (yA8 : Option Addr) (yc8 : Nat) (yA9 : Option Addr) (yc9 : Nat) (z : S69) (zA8 : Option Addr) (zc8 : Nat) (zA9 : Option Addr) (zc9 : Nat)
    (hg : w.heap[g]? = some (.cells #[.int .u64 x.f0, .int .u64 x.f1, .string x.f2, .int .i64 x.f3, .string x.f4, .string x.f5, .int .u64 x.f6, .int .i64 x.f7, .slice xA8 x.f8.length xc8, .slice xA9 x.f9.length xc9, .int .u64 y.f0, .int .u64 y.f1, .string y.f2, .int .i64 y.f3, .string y.f4, .string y.f5, .int .u64 y.f6, .int .i64 y.f7, .slice yA8 y.f8.length yc8, .slice yA9 y.f9.length yc9, .int .u64 z.f0, .int .u64 z.f1, .string z.f2, .int .i64 z.f3, .string z.f4, .string z.f5, .int .u64 z.f6, .int .i64 z.f7, .slice zA8 z.f8.length zc8, .slice zA9 z.f9.length zc9] T (0, 0))) (hx : RecC w x xA8 xc8 xA9 xc9) (hy : RecC w y yA8 yc8 yA9 yc9) (hz : RecC w z zA8 zc8 zA9 zc9) : Kd.C k69 w (some ⟨g, 0, none⟩) 3 [x, y, z] :=
  C_recsL w g T [x, y, z] [[.int .u64 x.f0, .int .u64 x.f1, .string x.f2, .int .i64 x.f3, .string x.f4, .string x.f5, .int .u64 x.f6, .int .i64 x.f7, .slice xA8 x.f8.length xc8, .slice xA9 x.f9.length xc9], [.int .u64 y.f0, .int .u64 y.f1, .string y.f2, .int .i64 y.f3, .string y.f4, .string y.f5, .int .u64 y.f6, .int .i64 y.f7, .slice yA8 y.f8.length yc8, .slice yA9 y.f9.length yc9], [.int .u64 z.f0, .int .u64 z.f1, .string z.f2, .int .i64 z.f3, .string z.f4, .string z.f5, .int .u64 z.f6, .int .i64 z.f7, .slice zA8 z.f8.length zc8, .slice zA9 z.f9.length zc9]] _ rfl hg rfl (fun j u hj => by
    match j with
    | 0 => obtain rfl : x = u := by simpa using hj
           exact ⟨_, rfl, hx.k⟩
    | 1 => obtain rfl : y = u := by simpa using hj
           exact ⟨_, rfl, hy.k⟩
    | 2 => obtain rfl : z = u := by simpa using hj
           exact ⟨_, rfl, hz.k⟩
    | n + 3 => simp at hj) 3 rfl (by omega)
theorem light3 (g : Nat) (x y z : S69) (b : Bool) (w : World) (hC : Kd.C k69 w (some ⟨g, 0, none⟩) 3 [x, y, z]) (hs : ∀ u ∈ [x, y, z], smallX u) (h : lightP [x, y, z] = b) :
    Calls Try.prog 73 #[.slice (some ⟨g, 0, none⟩) 3 3] w fun e w' => e = .returned (.bool b) ∧ Below w.heap.size w w' := by
  rw [← h]
  exact light_c (some ⟨g, 0, none⟩) 3 [x, y, z] w hC (Nat.le_refl _) (by simp) hs
theorem bsame_t (A : Option Addr) (c : Nat) (l : List Int) (A1 : Option Addr) (c1 : Nat) (w : World) (hC : Kd.C (Kd.int .u8) w A l.length l) (hc : l.length ≤ c) (hC1 : Kd.C (Kd.int .u8) w A1 l.length l) (hc1 : l.length ≤ c1) (hl : l.length ≤ 140737488355328) :
    Calls Try.prog 29 #[.slice A l.length c, .slice A1 l.length c1] w fun e w' => e = .returned (.bool true) ∧ Below w.heap.size w w' :=
  (bsame_c A c l A1 c1 l w hC hc hC1 hc1 hl).mono fun e w' ⟨he, hb⟩ => ⟨by rw [he, beq_self_eq_true], hb⟩
set_option maxHeartbeats 64000000 in
set_option maxRecDepth 100000 in
theorem shows_any (x : S69) (xA8 : Option Addr) (xc8 : Nat) (xA9 : Option Addr) (xc9 : Nat) (y : S69) (yA8 : Option Addr) (yc8 : Nat) (yA9 : Option Addr) (yc9 : Nat) (z : S69) (zA8 : Option Addr) (zc8 : Nat) (zA9 : Option Addr) (zc9 : Nat) (w : World)
    (hx : RecC w x xA8 xc8 xA9 xc9) (hy : RecC w y yA8 yc8 yA9 yc9) (hz : RecC w z zA8 zc8 zA9 zc9) (hs : ∀ u ∈ [x, y, z], smallX u) (hk : lightP [x, y, z] = true → ∀ u ∈ [x, y, z], okX u) :
    Calls Try.prog 19 #[.agg #[.int .u64 x.f0, .int .u64 x.f1, .string x.f2, .int .i64 x.f3, .string x.f4, .string x.f5, .int .u64 x.f6, .int .i64 x.f7, .slice xA8 x.f8.length xc8, .slice xA9 x.f9.length xc9], .agg #[.int .u64 y.f0, .int .u64 y.f1, .string y.f2, .int .i64 y.f3, .string y.f4, .string y.f5, .int .u64 y.f6, .int .i64 y.f7, .slice yA8 y.f8.length yc8, .slice yA9 y.f9.length yc9], .agg #[.int .u64 z.f0, .int .u64 z.f1, .string z.f2, .int .i64 z.f3, .string z.f4, .string z.f5, .int .u64 z.f6, .int .i64 z.f7, .slice zA8 z.f8.length zc8, .slice zA9 z.f9.length zc9]] w fun e w' => e = .returned (.bool true) ∧ Below w.heap.size w w' := by
  have hu69 := Try.underlying69
  have HB := Aside0.mk (Below.refl w.heap.size w)
  have Rx := Aside0.mk hx
  have Ry := Aside0.mk hy
  have Rz := Aside0.mk hz
  have HS := Aside0.mk hs
  cases hl : lightP [x, y, z] with
  | true =>
    have OK := Aside0.mk (hk hl)
    have HL := Aside0.mk hl
    obtain ⟨q, hq⟩ : ∃ q, sameP y z = q := ⟨_, rfl⟩
    have SQ := Aside0.mk (fun W (h1 : RecC W y yA8 yc8 yA9 yc9) (h2 : RecC W z zA8 zc8 zA9 zc9) => same_c y yA8 yc8 yA9 yc9 z zA8 zc8 zA9 zc9 W h1 (OK.out y (by simp)) h2 (OK.out z (by simp)))
    have SR := Aside0.mk (fun W (h1 : RecC W y yA8 yc8 yA9 yc9) (h2 : RecC W z zA8 zc8 zA9 zc9) => rsame_c y yA8 yc8 yA9 yc9 z zA8 zc8 zA9 zc9 W h1 (OK.out y (by simp)) h2 (OK.out z (by simp)))
    rw [hq] at SQ SR
    clear hx hy hz hs hk hl hq
    cases q with
    | false =>
      go_enter Try.func19, Try.ntmps19
      go_wp2_with (first
        | ((with_reducible refine gate_dst (N := 3) rfl ?_); refine box_event ?hg (N := 3) ?hd (cs := #[.int .u64 x.f0, .int .u64 x.f1, .string x.f2, .int .i64 x.f3, .string x.f4, .string x.f5, .int .u64 x.f6, .int .i64 x.f7, .slice xA8 x.f8.length xc8, .slice xA9 x.f9.length xc9]) (t := 69) ?hr ?_; (case hd => rfl); (case hg => rfl); (case hr => first | (go_simp; done) | (go_simp; rfl)); intro gx hg w3 hbox hb; have BKx := Aside0.mk hbox; have nb_ := Aside0.mk (below_step HB.out hb); clear HB; have HB := nb_; clear nb_ hbox hb hg)
        | ((with_reducible refine gate_dst (N := 4) rfl ?_); refine box_event ?hg (N := 4) ?hd (cs := #[.int .u64 y.f0, .int .u64 y.f1, .string y.f2, .int .i64 y.f3, .string y.f4, .string y.f5, .int .u64 y.f6, .int .i64 y.f7, .slice yA8 y.f8.length yc8, .slice yA9 y.f9.length yc9]) (t := 69) ?hr ?_; (case hd => rfl); (case hg => rfl); (case hr => first | (go_simp; done) | (go_simp; rfl)); intro gy hg w4 hbox hb; have nx_ := Aside0.mk (blk_below BKx.out hb); clear BKx; have BKx := nx_; clear nx_; have BKy := Aside0.mk hbox; have nb_ := Aside0.mk (below_step HB.out hb); clear HB; have HB := nb_; clear nb_ hbox hb hg)
        | ((with_reducible refine gate_dst (N := 5) rfl ?_); refine box_event ?hg (N := 5) ?hd (cs := #[.int .u64 z.f0, .int .u64 z.f1, .string z.f2, .int .i64 z.f3, .string z.f4, .string z.f5, .int .u64 z.f6, .int .i64 z.f7, .slice zA8 z.f8.length zc8, .slice zA9 z.f9.length zc9]) (t := 69) ?hr ?_; (case hd => rfl); (case hg => rfl); (case hr => first | (go_simp; done) | (go_simp; rfl)); intro gz hg w5 hbox hb; have nx_ := Aside0.mk (blk_below BKx.out hb); clear BKx; have BKx := nx_; clear nx_; have ny_ := Aside0.mk (blk_below BKy.out hb); clear BKy; have BKy := ny_; clear ny_; have BKz := Aside0.mk hbox; have nb_ := Aside0.mk (below_step HB.out hb); clear HB; have HB := nb_; clear nb_ hbox hb hg))
      have nx_ := Aside0.mk (blk_drew BKx.out)
      have ny_ := Aside0.mk (blk_drew BKy.out)
      have nz_ := Aside0.mk (blk_drew BKz.out)
      have nb_ := Aside0.mk (below_drew1 HB.out)
      clear BKx BKy BKz HB
      have BKx := nx_
      have BKy := ny_
      have BKz := nz_
      have HB := nb_
      clear nx_ ny_ nz_ nb_
      refine start_ (n := 33) (S := fun w' => w'.cell? ⟨gx, 0, none⟩ = some (.int .u64 x.f0) ∧ w'.cell? ⟨gx, 1, none⟩ = some (.int .u64 x.f1) ∧ w'.cell? ⟨gx, 2, none⟩ = some (.string x.f2) ∧ w'.cell? ⟨gx, 3, none⟩ = some (.int .i64 x.f3) ∧ w'.cell? ⟨gx, 4, none⟩ = some (.string x.f4) ∧ w'.cell? ⟨gx, 5, none⟩ = some (.string x.f5) ∧ w'.cell? ⟨gx, 6, none⟩ = some (.int .u64 x.f6) ∧ w'.cell? ⟨gx, 7, none⟩ = some (.int .i64 x.f7) ∧ w'.cell? ⟨gx, 8, none⟩ = some (.slice xA8 x.f8.length xc8) ∧ w'.cell? ⟨gx, 9, none⟩ = some (.slice xA9 x.f9.length xc9) ∧ w'.cell? ⟨gy, 0, none⟩ = some (.int .u64 y.f0) ∧ w'.cell? ⟨gy, 1, none⟩ = some (.int .u64 y.f1) ∧ w'.cell? ⟨gy, 2, none⟩ = some (.string y.f2) ∧ w'.cell? ⟨gy, 3, none⟩ = some (.int .i64 y.f3) ∧ w'.cell? ⟨gy, 4, none⟩ = some (.string y.f4) ∧ w'.cell? ⟨gy, 5, none⟩ = some (.string y.f5) ∧ w'.cell? ⟨gy, 6, none⟩ = some (.int .u64 y.f6) ∧ w'.cell? ⟨gy, 7, none⟩ = some (.int .i64 y.f7) ∧ w'.cell? ⟨gy, 8, none⟩ = some (.slice yA8 y.f8.length yc8) ∧ w'.cell? ⟨gy, 9, none⟩ = some (.slice yA9 y.f9.length yc9) ∧ w'.cell? ⟨gz, 0, none⟩ = some (.int .u64 z.f0) ∧ w'.cell? ⟨gz, 1, none⟩ = some (.int .u64 z.f1) ∧ w'.cell? ⟨gz, 2, none⟩ = some (.string z.f2) ∧ w'.cell? ⟨gz, 3, none⟩ = some (.int .i64 z.f3) ∧ w'.cell? ⟨gz, 4, none⟩ = some (.string z.f4) ∧ w'.cell? ⟨gz, 5, none⟩ = some (.string z.f5) ∧ w'.cell? ⟨gz, 6, none⟩ = some (.int .u64 z.f6) ∧ w'.cell? ⟨gz, 7, none⟩ = some (.int .i64 z.f7) ∧ w'.cell? ⟨gz, 8, none⟩ = some (.slice zA8 z.f8.length zc8) ∧ w'.cell? ⟨gz, 9, none⟩ = some (.slice zA9 z.f9.length zc9)) (ds := []) #[false, false, false, false, false, false, false, false, false, false, false, false, false, false, false, false, false, false, false, false, false, false, false, false, false, false, false, false, false, false, false, false, false] (by kernel_rfl) rfl rfl ⟨(blk_cell BKx.out 0).trans rfl, (blk_cell BKx.out 1).trans rfl, (blk_cell BKx.out 2).trans rfl, (blk_cell BKx.out 3).trans rfl, (blk_cell BKx.out 4).trans rfl, (blk_cell BKx.out 5).trans rfl, (blk_cell BKx.out 6).trans rfl, (blk_cell BKx.out 7).trans rfl, (blk_cell BKx.out 8).trans rfl, (blk_cell BKx.out 9).trans rfl, (blk_cell BKy.out 0).trans rfl, (blk_cell BKy.out 1).trans rfl, (blk_cell BKy.out 2).trans rfl, (blk_cell BKy.out 3).trans rfl, (blk_cell BKy.out 4).trans rfl, (blk_cell BKy.out 5).trans rfl, (blk_cell BKy.out 6).trans rfl, (blk_cell BKy.out 7).trans rfl, (blk_cell BKy.out 8).trans rfl, (blk_cell BKy.out 9).trans rfl, (blk_cell BKz.out 0).trans rfl, (blk_cell BKz.out 1).trans rfl, (blk_cell BKz.out 2).trans rfl, (blk_cell BKz.out 3).trans rfl, (blk_cell BKz.out 4).trans rfl, (blk_cell BKz.out 5).trans rfl, (blk_cell BKz.out 6).trans rfl, (blk_cell BKz.out 7).trans rfl, (blk_cell BKz.out 8).trans rfl, (blk_cell BKz.out 9).trans rfl⟩ (fun hHeld => ?_)
      generalize w5.drew = wd at BKx BKy BKz HB hHeld ⊢
      refine take_ (i := 0) (N := some 7) (v := ?_) (a' := ?_) #[true, false, false, false, false, false, false, false, false, false, false, false, false, false, false, false, false, false, false, false, false, false, false, false, false, false, false, false, false, false, false, false, false] rfl rfl (by kernel_rfl) (fun _ _ _ h => h) (Or.inl ⟨by rfl, ?_⟩) hHeld ?_ ?_
      rotate_left
      · rintro w' ⟨s0, s1, s2, s3, s4, s5, s6, s7, s8, s9, s10, s11, s12, s13, s14, s15, s16, s17, s18, s19, s20, s21, s22, s23, s24, s25, s26, s27, s28, s29⟩
        go_simp
        with_reducible rfl
      rotate_left
      · simp only [Act.put, List.setIfInBounds_toArray, List.set_cons_zero, List.set_cons_succ, i64_w, i32_w]
        rfl
      refine take_ (i := 1) (N := some 8) (v := ?_) (a' := ?_) #[true, true, false, false, false, false, false, false, false, false, false, false, false, false, false, false, false, false, false, false, false, false, false, false, false, false, false, false, false, false, false, false, false] rfl rfl (by kernel_rfl) (fun _ _ _ h => h) (Or.inl ⟨by rfl, ?_⟩) hHeld ?_ ?_
      rotate_left
      · rintro w' ⟨s0, s1, s2, s3, s4, s5, s6, s7, s8, s9, s10, s11, s12, s13, s14, s15, s16, s17, s18, s19, s20, s21, s22, s23, s24, s25, s26, s27, s28, s29⟩
        go_simp
        with_reducible rfl
      rotate_left
      · simp only [Act.put, List.setIfInBounds_toArray, List.set_cons_zero, List.set_cons_succ, i64_w, i32_w]
        rfl
      refine take_ (i := 2) (N := some 9) (v := ?_) (a' := ?_) #[true, true, true, false, false, false, false, false, false, false, false, false, false, false, false, false, false, false, false, false, false, false, false, false, false, false, false, false, false, false, false, false, false] rfl rfl (by kernel_rfl) (fun _ _ _ h => h) (Or.inl ⟨by rfl, ?_⟩) hHeld ?_ ?_
      rotate_left
      · rintro w' ⟨s0, s1, s2, s3, s4, s5, s6, s7, s8, s9, s10, s11, s12, s13, s14, s15, s16, s17, s18, s19, s20, s21, s22, s23, s24, s25, s26, s27, s28, s29⟩
        go_simp
        with_reducible rfl
      rotate_left
      · simp only [Act.put, List.setIfInBounds_toArray, List.set_cons_zero, List.set_cons_succ, i64_w, i32_w]
        rfl
      refine one_ (i := 3) (N := some 10) #[true, true, true, true, false, false, false, false, false, false, false, false, false, false, false, false, false, false, false, false, false, false, false, false, false, false, false, false, false, false, false, false, false] rfl rfl (by kernel_rfl) (by decide) (fun K hK => ?_)
      refine value_ (w1 := wd.alloc (.cells #[.int .u64 x.f0, .int .u64 x.f1, .string x.f2, .int .i64 x.f3, .string x.f4, .string x.f5, .int .u64 x.f6, .int .i64 x.f7, .slice xA8 x.f8.length xc8, .slice xA9 x.f9.length xc9, .int .u64 y.f0, .int .u64 y.f1, .string y.f2, .int .i64 y.f3, .string y.f4, .string y.f5, .int .u64 y.f6, .int .i64 y.f7, .slice yA8 y.f8.length yc8, .slice yA9 y.f9.length yc9, .int .u64 z.f0, .int .u64 z.f1, .string z.f2, .int .i64 z.f3, .string z.f4, .string z.f5, .int .u64 z.f6, .int .i64 z.f7, .slice zA8 z.f8.length zc8, .slice zA9 z.f9.length zc9] 69)) (v := .slice (some ⟨wd.heap.size, 0, none⟩) 3 3) (by rfl) rfl ?_ ?_
      · go_simp
        try rfl
      have hbx := blk_new wd (.cells #[.int .u64 x.f0, .int .u64 x.f1, .string x.f2, .int .i64 x.f3, .string x.f4, .string x.f5, .int .u64 x.f6, .int .i64 x.f7, .slice xA8 x.f8.length xc8, .slice xA9 x.f9.length xc9, .int .u64 y.f0, .int .u64 y.f1, .string y.f2, .int .i64 y.f3, .string y.f4, .string y.f5, .int .u64 y.f6, .int .i64 y.f7, .slice yA8 y.f8.length yc8, .slice yA9 y.f9.length yc9, .int .u64 z.f0, .int .u64 z.f1, .string z.f2, .int .i64 z.f3, .string z.f4, .string z.f5, .int .u64 z.f6, .int .i64 z.f7, .slice zA8 z.f8.length zc8, .slice zA9 z.f9.length zc9] 69)
      have hbb := below_alloc (Below.refl wd.heap.size wd) (.cells #[.int .u64 x.f0, .int .u64 x.f1, .string x.f2, .int .i64 x.f3, .string x.f4, .string x.f5, .int .u64 x.f6, .int .i64 x.f7, .slice xA8 x.f8.length xc8, .slice xA9 x.f9.length xc9, .int .u64 y.f0, .int .u64 y.f1, .string y.f2, .int .i64 y.f3, .string y.f4, .string y.f5, .int .u64 y.f6, .int .i64 y.f7, .slice yA8 y.f8.length yc8, .slice yA9 y.f9.length yc9, .int .u64 z.f0, .int .u64 z.f1, .string z.f2, .int .i64 z.f3, .string z.f4, .string z.f5, .int .u64 z.f6, .int .i64 z.f7, .slice zA8 z.f8.length zc8, .slice zA9 z.f9.length zc9] 69)
      generalize wd.alloc (.cells #[.int .u64 x.f0, .int .u64 x.f1, .string x.f2, .int .i64 x.f3, .string x.f4, .string x.f5, .int .u64 x.f6, .int .i64 x.f7, .slice xA8 x.f8.length xc8, .slice xA9 x.f9.length xc9, .int .u64 y.f0, .int .u64 y.f1, .string y.f2, .int .i64 y.f3, .string y.f4, .string y.f5, .int .u64 y.f6, .int .i64 y.f7, .slice yA8 y.f8.length yc8, .slice yA9 y.f9.length yc9, .int .u64 z.f0, .int .u64 z.f1, .string z.f2, .int .i64 z.f3, .string z.f4, .string z.f5, .int .u64 z.f6, .int .i64 z.f7, .slice zA8 z.f8.length zc8, .slice zA9 z.f9.length zc9] 69) = w6 at hbx hbb ⊢
      generalize hg6 : wd.heap.size = g6 at hbx ⊢
      have K6 := Aside0.mk (lit3 w6 g6 69 x xA8 xc8 xA9 xc9 y yA8 yc8 yA9 yc9 z zA8 zc8 zA9 zc9 hbx (Rx.out.below (below_step HB.out hbb)) (Ry.out.below (below_step HB.out hbb)) (Rz.out.below (below_step HB.out hbb)))
      clear hbx hg6
      have nx_ := Aside0.mk (blk_below BKx.out hbb)
      have ny_ := Aside0.mk (blk_below BKy.out hbb)
      have nz_ := Aside0.mk (blk_below BKz.out hbb)
      have nb_ := Aside0.mk (below_step HB.out hbb)
      clear BKx BKy BKz HB 
      have BKx := nx_
      have BKy := ny_
      have BKz := nz_
      have HB := nb_
      clear nx_ ny_ nz_ nb_  hbb
      refine hK.out _ _ ⟨(blk_cell BKx.out 0).trans rfl, (blk_cell BKx.out 1).trans rfl, (blk_cell BKx.out 2).trans rfl, (blk_cell BKx.out 3).trans rfl, (blk_cell BKx.out 4).trans rfl, (blk_cell BKx.out 5).trans rfl, (blk_cell BKx.out 6).trans rfl, (blk_cell BKx.out 7).trans rfl, (blk_cell BKx.out 8).trans rfl, (blk_cell BKx.out 9).trans rfl, (blk_cell BKy.out 0).trans rfl, (blk_cell BKy.out 1).trans rfl, (blk_cell BKy.out 2).trans rfl, (blk_cell BKy.out 3).trans rfl, (blk_cell BKy.out 4).trans rfl, (blk_cell BKy.out 5).trans rfl, (blk_cell BKy.out 6).trans rfl, (blk_cell BKy.out 7).trans rfl, (blk_cell BKy.out 8).trans rfl, (blk_cell BKy.out 9).trans rfl, (blk_cell BKz.out 0).trans rfl, (blk_cell BKz.out 1).trans rfl, (blk_cell BKz.out 2).trans rfl, (blk_cell BKz.out 3).trans rfl, (blk_cell BKz.out 4).trans rfl, (blk_cell BKz.out 5).trans rfl, (blk_cell BKz.out 6).trans rfl, (blk_cell BKz.out 7).trans rfl, (blk_cell BKz.out 8).trans rfl, (blk_cell BKz.out 9).trans rfl⟩ (fun hHeld => ?_)
      clear hK K
      refine norm_ (a' := ?_) ?_ ?_
      rotate_left
      · show Act.put _ (some 10) _ = _
        simp only [Act.put, List.setIfInBounds_toArray, List.set_cons_zero, List.set_cons_succ, i64_w, i32_w]
        rfl
      refine one_ (i := 4) (N := some 11) #[true, true, true, true, true, false, false, false, false, false, false, false, false, false, false, false, false, false, false, false, false, false, false, false, false, false, false, false, false, false, false, false, false] rfl rfl (by kernel_rfl) (by decide) (fun K hK => ?_)
      refine goes_ Try.func73 (by kernel_rfl) rfl #[.slice (some ⟨g6, 0, none⟩) 3 3] (by rfl) rfl rfl (by first | (simp only [List.map_toArray, List.map_cons, List.map_nil]; done) | (simp only [List.map_toArray, List.map_cons, List.map_nil]; rfl)) ?_
      with_reducible refine (light3 g6 x y z true _ K6.out HS.out HL.out).mono ?_
      rintro e w7 ⟨rfl, hb⟩
      refine ⟨_, rfl, ?_⟩
      have nx_ := Aside0.mk (blk_below BKx.out hb)
      have ny_ := Aside0.mk (blk_below BKy.out hb)
      have nz_ := Aside0.mk (blk_below BKz.out hb)
      have nb_ := Aside0.mk (below_step HB.out hb)
      clear BKx BKy BKz HB 
      have BKx := nx_
      have BKy := ny_
      have BKz := nz_
      have HB := nb_
      clear nx_ ny_ nz_ nb_  hb
      refine hK.out _ _ ⟨(blk_cell BKx.out 0).trans rfl, (blk_cell BKx.out 1).trans rfl, (blk_cell BKx.out 2).trans rfl, (blk_cell BKx.out 3).trans rfl, (blk_cell BKx.out 4).trans rfl, (blk_cell BKx.out 5).trans rfl, (blk_cell BKx.out 6).trans rfl, (blk_cell BKx.out 7).trans rfl, (blk_cell BKx.out 8).trans rfl, (blk_cell BKx.out 9).trans rfl, (blk_cell BKy.out 0).trans rfl, (blk_cell BKy.out 1).trans rfl, (blk_cell BKy.out 2).trans rfl, (blk_cell BKy.out 3).trans rfl, (blk_cell BKy.out 4).trans rfl, (blk_cell BKy.out 5).trans rfl, (blk_cell BKy.out 6).trans rfl, (blk_cell BKy.out 7).trans rfl, (blk_cell BKy.out 8).trans rfl, (blk_cell BKy.out 9).trans rfl, (blk_cell BKz.out 0).trans rfl, (blk_cell BKz.out 1).trans rfl, (blk_cell BKz.out 2).trans rfl, (blk_cell BKz.out 3).trans rfl, (blk_cell BKz.out 4).trans rfl, (blk_cell BKz.out 5).trans rfl, (blk_cell BKz.out 6).trans rfl, (blk_cell BKz.out 7).trans rfl, (blk_cell BKz.out 8).trans rfl, (blk_cell BKz.out 9).trans rfl⟩ (fun hHeld => ?_)
      clear hK K
      refine norm_ (a' := ?_) ?_ ?_
      rotate_left
      · show Act.put _ (some 11) _ = _
        simp only [Act.put, List.setIfInBounds_toArray, List.set_cons_zero, List.set_cons_succ, i64_w, i32_w]
        rfl
      refine pure_ (i := 5) (N := some 12) (v := ?_) (a' := ?_) #[true, true, true, true, true, true, false, false, false, false, false, false, false, false, false, false, false, false, false, false, false, false, false, false, false, false, false, false, false, false, false, false, false] rfl rfl (by kernel_rfl) (fun _ _ _ h => h) (Or.inl ⟨by rfl, ?_⟩) ?_ ?_
      rotate_left
      · intro w'
        go_simp
        with_reducible rfl
      rotate_left
      · simp only [Act.put, List.setIfInBounds_toArray, List.set_cons_zero, List.set_cons_succ, i64_w, i32_w]
        rfl
      refine pure_ (i := 6) (N := some 13) (v := ?_) (a' := ?_) #[true, true, true, true, true, true, true, false, false, false, false, false, false, false, false, false, false, false, false, false, false, false, false, false, false, false, false, false, false, false, false, false, false] rfl rfl (by kernel_rfl) (fun _ _ _ h => h) (Or.inl ⟨by rfl, ?_⟩) ?_ ?_
      rotate_left
      · intro w'
        go_simp
        with_reducible rfl
      rotate_left
      · simp only [Act.put, List.setIfInBounds_toArray, List.set_cons_zero, List.set_cons_succ, i64_w, i32_w]
        rfl
      refine take_ (i := 7) (N := some 14) (v := ?_) (a' := ?_) #[true, true, true, true, true, true, true, true, false, false, false, false, false, false, false, false, false, false, false, false, false, false, false, false, false, false, false, false, false, false, false, false, false] rfl rfl (by kernel_rfl) (fun _ _ _ h => h) (Or.inl ⟨by rfl, ?_⟩) hHeld ?_ ?_
      rotate_left
      · rintro w' ⟨s0, s1, s2, s3, s4, s5, s6, s7, s8, s9, s10, s11, s12, s13, s14, s15, s16, s17, s18, s19, s20, s21, s22, s23, s24, s25, s26, s27, s28, s29⟩
        go_simp
        with_reducible rfl
      rotate_left
      · simp only [Act.put, List.setIfInBounds_toArray, List.set_cons_zero, List.set_cons_succ, i64_w, i32_w]
        rfl
      refine take_ (i := 9) (N := some 16) (v := ?_) (a' := ?_) #[true, true, true, true, true, true, true, true, false, true, false, false, false, false, false, false, false, false, false, false, false, false, false, false, false, false, false, false, false, false, false, false, false] rfl rfl (by kernel_rfl) (fun _ _ _ h => h) (Or.inl ⟨by rfl, ?_⟩) hHeld ?_ ?_
      rotate_left
      · rintro w' ⟨s0, s1, s2, s3, s4, s5, s6, s7, s8, s9, s10, s11, s12, s13, s14, s15, s16, s17, s18, s19, s20, s21, s22, s23, s24, s25, s26, s27, s28, s29⟩
        go_simp
        with_reducible rfl
      rotate_left
      · simp only [Act.put, List.setIfInBounds_toArray, List.set_cons_zero, List.set_cons_succ, i64_w, i32_w]
        rfl
      refine one_ (i := 8) (N := some 15) #[true, true, true, true, true, true, true, true, true, true, false, false, false, false, false, false, false, false, false, false, false, false, false, false, false, false, false, false, false, false, false, false, false] rfl rfl (by kernel_rfl) (by decide) (fun K hK => ?_)
      refine goes_ Try.func84 (by kernel_rfl) rfl #[.agg #[.int .u64 x.f0, .int .u64 x.f1, .string x.f2, .int .i64 x.f3, .string x.f4, .string x.f5, .int .u64 x.f6, .int .i64 x.f7, .slice xA8 x.f8.length xc8, .slice xA9 x.f9.length xc9]] (by rfl) rfl rfl (by first | (simp only [List.map_toArray, List.map_cons, List.map_nil]; done) | (simp only [List.map_toArray, List.map_cons, List.map_nil]; rfl)) ?_
      with_reducible refine (show_c x xA8 xc8 xA9 xc9 _ (Rx.out.below HB.out) (OK.out x (by simp))).mono ?_
      rintro e w8 ⟨v8, rfl, hr, hb⟩
      refine ⟨_, rfl, ?_⟩
      obtain ⟨Aa, ca, rfl, hca, hCa⟩ := Kd.R_reads hr
      have C1 := Aside0.mk hCa
      have L1 := Aside0.mk hca
      clear hr hCa hca
      have nx_ := Aside0.mk (blk_below BKx.out hb)
      have ny_ := Aside0.mk (blk_below BKy.out hb)
      have nz_ := Aside0.mk (blk_below BKz.out hb)
      have nb_ := Aside0.mk (below_step HB.out hb)
      clear BKx BKy BKz HB 
      have BKx := nx_
      have BKy := ny_
      have BKz := nz_
      have HB := nb_
      clear nx_ ny_ nz_ nb_  hb
      refine hK.out _ _ ⟨(blk_cell BKx.out 0).trans rfl, (blk_cell BKx.out 1).trans rfl, (blk_cell BKx.out 2).trans rfl, (blk_cell BKx.out 3).trans rfl, (blk_cell BKx.out 4).trans rfl, (blk_cell BKx.out 5).trans rfl, (blk_cell BKx.out 6).trans rfl, (blk_cell BKx.out 7).trans rfl, (blk_cell BKx.out 8).trans rfl, (blk_cell BKx.out 9).trans rfl, (blk_cell BKy.out 0).trans rfl, (blk_cell BKy.out 1).trans rfl, (blk_cell BKy.out 2).trans rfl, (blk_cell BKy.out 3).trans rfl, (blk_cell BKy.out 4).trans rfl, (blk_cell BKy.out 5).trans rfl, (blk_cell BKy.out 6).trans rfl, (blk_cell BKy.out 7).trans rfl, (blk_cell BKy.out 8).trans rfl, (blk_cell BKy.out 9).trans rfl, (blk_cell BKz.out 0).trans rfl, (blk_cell BKz.out 1).trans rfl, (blk_cell BKz.out 2).trans rfl, (blk_cell BKz.out 3).trans rfl, (blk_cell BKz.out 4).trans rfl, (blk_cell BKz.out 5).trans rfl, (blk_cell BKz.out 6).trans rfl, (blk_cell BKz.out 7).trans rfl, (blk_cell BKz.out 8).trans rfl, (blk_cell BKz.out 9).trans rfl⟩ (fun hHeld => ?_)
      clear hK K
      refine norm_ (a' := ?_) ?_ ?_
      rotate_left
      · show Act.put _ (some 15) _ = _
        simp only [Act.put, List.setIfInBounds_toArray, List.set_cons_zero, List.set_cons_succ, i64_w, i32_w]
        rfl
      refine one_ (i := 10) (N := some 17) #[true, true, true, true, true, true, true, true, true, true, true, false, false, false, false, false, false, false, false, false, false, false, false, false, false, false, false, false, false, false, false, false, false] rfl rfl (by kernel_rfl) (by decide) (fun K hK => ?_)
      refine goes_ Try.func85 (by kernel_rfl) rfl #[.agg #[.int .u64 x.f0, .int .u64 x.f1, .string x.f2, .int .i64 x.f3, .string x.f4, .string x.f5, .int .u64 x.f6, .int .i64 x.f7, .slice xA8 x.f8.length xc8, .slice xA9 x.f9.length xc9]] (by rfl) rfl rfl (by first | (simp only [List.map_toArray, List.map_cons, List.map_nil]; done) | (simp only [List.map_toArray, List.map_cons, List.map_nil]; rfl)) ?_
      with_reducible refine (rshow_c x xA8 xc8 xA9 xc9 _ (Rx.out.below HB.out) (OK.out x (by simp))).mono ?_
      rintro e w9 ⟨v9, rfl, hr, hb⟩
      refine ⟨_, rfl, ?_⟩
      obtain ⟨Ab, cb, rfl, hcb, hCb⟩ := Kd.R_reads hr
      have C2 := Aside0.mk hCb
      have L2 := Aside0.mk hcb
      clear hr hCb hcb
      have nx_ := Aside0.mk (blk_below BKx.out hb)
      have ny_ := Aside0.mk (blk_below BKy.out hb)
      have nz_ := Aside0.mk (blk_below BKz.out hb)
      have nb_ := Aside0.mk (below_step HB.out hb)
      have nC1_ := Aside0.mk (Kd.C_below C1.out hb)
      clear BKx BKy BKz HB C1
      have BKx := nx_
      have BKy := ny_
      have BKz := nz_
      have HB := nb_
      have C1 := nC1_
      clear nx_ ny_ nz_ nb_ nC1_ hb
      refine hK.out _ _ ⟨(blk_cell BKx.out 0).trans rfl, (blk_cell BKx.out 1).trans rfl, (blk_cell BKx.out 2).trans rfl, (blk_cell BKx.out 3).trans rfl, (blk_cell BKx.out 4).trans rfl, (blk_cell BKx.out 5).trans rfl, (blk_cell BKx.out 6).trans rfl, (blk_cell BKx.out 7).trans rfl, (blk_cell BKx.out 8).trans rfl, (blk_cell BKx.out 9).trans rfl, (blk_cell BKy.out 0).trans rfl, (blk_cell BKy.out 1).trans rfl, (blk_cell BKy.out 2).trans rfl, (blk_cell BKy.out 3).trans rfl, (blk_cell BKy.out 4).trans rfl, (blk_cell BKy.out 5).trans rfl, (blk_cell BKy.out 6).trans rfl, (blk_cell BKy.out 7).trans rfl, (blk_cell BKy.out 8).trans rfl, (blk_cell BKy.out 9).trans rfl, (blk_cell BKz.out 0).trans rfl, (blk_cell BKz.out 1).trans rfl, (blk_cell BKz.out 2).trans rfl, (blk_cell BKz.out 3).trans rfl, (blk_cell BKz.out 4).trans rfl, (blk_cell BKz.out 5).trans rfl, (blk_cell BKz.out 6).trans rfl, (blk_cell BKz.out 7).trans rfl, (blk_cell BKz.out 8).trans rfl, (blk_cell BKz.out 9).trans rfl⟩ (fun hHeld => ?_)
      clear hK K
      refine norm_ (a' := ?_) ?_ ?_
      rotate_left
      · show Act.put _ (some 17) _ = _
        simp only [Act.put, List.setIfInBounds_toArray, List.set_cons_zero, List.set_cons_succ, i64_w, i32_w]
        rfl
      refine one_ (i := 11) (N := some 18) #[true, true, true, true, true, true, true, true, true, true, true, true, false, false, false, false, false, false, false, false, false, false, false, false, false, false, false, false, false, false, false, false, false] rfl rfl (by kernel_rfl) (by decide) (fun K hK => ?_)
      refine goes_ Try.func29 (by kernel_rfl) rfl #[.slice Aa (showP x).length ca, .slice Ab (showP x).length cb] (by rfl) rfl rfl (by first | (simp only [List.map_toArray, List.map_cons, List.map_nil]; done) | (simp only [List.map_toArray, List.map_cons, List.map_nil]; rfl)) ?_
      with_reducible refine (bsame_t Aa ca (showP x) Ab cb _ C1.out L1.out C2.out L2.out (by rw [showP_len]; have := (OK.out x (by simp)).bulk; omega)).mono ?_
      rintro e w10 ⟨rfl, hb⟩
      refine ⟨_, rfl, ?_⟩
      clear C1 C2
      have nx_ := Aside0.mk (blk_below BKx.out hb)
      have ny_ := Aside0.mk (blk_below BKy.out hb)
      have nz_ := Aside0.mk (blk_below BKz.out hb)
      have nb_ := Aside0.mk (below_step HB.out hb)
      clear BKx BKy BKz HB 
      have BKx := nx_
      have BKy := ny_
      have BKz := nz_
      have HB := nb_
      clear nx_ ny_ nz_ nb_  hb
      refine hK.out _ _ ⟨(blk_cell BKx.out 0).trans rfl, (blk_cell BKx.out 1).trans rfl, (blk_cell BKx.out 2).trans rfl, (blk_cell BKx.out 3).trans rfl, (blk_cell BKx.out 4).trans rfl, (blk_cell BKx.out 5).trans rfl, (blk_cell BKx.out 6).trans rfl, (blk_cell BKx.out 7).trans rfl, (blk_cell BKx.out 8).trans rfl, (blk_cell BKx.out 9).trans rfl, (blk_cell BKy.out 0).trans rfl, (blk_cell BKy.out 1).trans rfl, (blk_cell BKy.out 2).trans rfl, (blk_cell BKy.out 3).trans rfl, (blk_cell BKy.out 4).trans rfl, (blk_cell BKy.out 5).trans rfl, (blk_cell BKy.out 6).trans rfl, (blk_cell BKy.out 7).trans rfl, (blk_cell BKy.out 8).trans rfl, (blk_cell BKy.out 9).trans rfl, (blk_cell BKz.out 0).trans rfl, (blk_cell BKz.out 1).trans rfl, (blk_cell BKz.out 2).trans rfl, (blk_cell BKz.out 3).trans rfl, (blk_cell BKz.out 4).trans rfl, (blk_cell BKz.out 5).trans rfl, (blk_cell BKz.out 6).trans rfl, (blk_cell BKz.out 7).trans rfl, (blk_cell BKz.out 8).trans rfl, (blk_cell BKz.out 9).trans rfl⟩ (fun hHeld => ?_)
      clear hK K
      refine norm_ (a' := ?_) ?_ ?_
      rotate_left
      · show Act.put _ (some 18) _ = _
        simp only [Act.put, List.setIfInBounds_toArray, List.set_cons_zero, List.set_cons_succ, i64_w, i32_w]
        rfl
      refine pure_ (i := 12) (N := some 19) (v := ?_) (a' := ?_) #[true, true, true, true, true, true, true, true, true, true, true, true, true, false, false, false, false, false, false, false, false, false, false, false, false, false, false, false, false, false, false, false, false] rfl rfl (by kernel_rfl) (fun _ _ _ h => h) (Or.inl ⟨by rfl, ?_⟩) ?_ ?_
      rotate_left
      · intro w'
        go_simp
        with_reducible rfl
      rotate_left
      · simp only [Act.put, List.setIfInBounds_toArray, List.set_cons_zero, List.set_cons_succ, i64_w, i32_w]
        rfl
      refine take_ (i := 13) (N := some 20) (v := ?_) (a' := ?_) #[true, true, true, true, true, true, true, true, true, true, true, true, true, true, false, false, false, false, false, false, false, false, false, false, false, false, false, false, false, false, false, false, false] rfl rfl (by kernel_rfl) (fun _ _ _ h => h) (Or.inl ⟨by rfl, ?_⟩) hHeld ?_ ?_
      rotate_left
      · rintro w' ⟨s0, s1, s2, s3, s4, s5, s6, s7, s8, s9, s10, s11, s12, s13, s14, s15, s16, s17, s18, s19, s20, s21, s22, s23, s24, s25, s26, s27, s28, s29⟩
        go_simp
        with_reducible rfl
      rotate_left
      · simp only [Act.put, List.setIfInBounds_toArray, List.set_cons_zero, List.set_cons_succ, i64_w, i32_w]
        rfl
      refine take_ (i := 15) (N := some 22) (v := ?_) (a' := ?_) #[true, true, true, true, true, true, true, true, true, true, true, true, true, true, false, true, false, false, false, false, false, false, false, false, false, false, false, false, false, false, false, false, false] rfl rfl (by kernel_rfl) (fun _ _ _ h => h) (Or.inl ⟨by rfl, ?_⟩) hHeld ?_ ?_
      rotate_left
      · rintro w' ⟨s0, s1, s2, s3, s4, s5, s6, s7, s8, s9, s10, s11, s12, s13, s14, s15, s16, s17, s18, s19, s20, s21, s22, s23, s24, s25, s26, s27, s28, s29⟩
        go_simp
        with_reducible rfl
      rotate_left
      · simp only [Act.put, List.setIfInBounds_toArray, List.set_cons_zero, List.set_cons_succ, i64_w, i32_w]
        rfl
      refine one_ (i := 14) (N := some 21) #[true, true, true, true, true, true, true, true, true, true, true, true, true, true, true, true, false, false, false, false, false, false, false, false, false, false, false, false, false, false, false, false, false] rfl rfl (by kernel_rfl) (by decide) (fun K hK => ?_)
      refine goes_ Try.func81 (by kernel_rfl) rfl #[.agg #[.int .u64 x.f0, .int .u64 x.f1, .string x.f2, .int .i64 x.f3, .string x.f4, .string x.f5, .int .u64 x.f6, .int .i64 x.f7, .slice xA8 x.f8.length xc8, .slice xA9 x.f9.length xc9]] (by rfl) rfl rfl (by first | (simp only [List.map_toArray, List.map_cons, List.map_nil]; done) | (simp only [List.map_toArray, List.map_cons, List.map_nil]; rfl)) ?_
      with_reducible refine (dig_c x xA8 xc8 xA9 xc9 _ (Rx.out.below HB.out) (OK.out x (by simp))).mono ?_
      rintro e w11 ⟨v11, rfl, hr, hb⟩
      refine ⟨_, rfl, ?_⟩
      obtain ⟨Ac, cc, rfl, hca, hCa⟩ := Kd.R_reads hr
      have C3 := Aside0.mk hCa
      have L3 := Aside0.mk hca
      clear hr hCa hca
      have nx_ := Aside0.mk (blk_below BKx.out hb)
      have ny_ := Aside0.mk (blk_below BKy.out hb)
      have nz_ := Aside0.mk (blk_below BKz.out hb)
      have nb_ := Aside0.mk (below_step HB.out hb)
      clear BKx BKy BKz HB 
      have BKx := nx_
      have BKy := ny_
      have BKz := nz_
      have HB := nb_
      clear nx_ ny_ nz_ nb_  hb
      refine hK.out _ _ ⟨(blk_cell BKx.out 0).trans rfl, (blk_cell BKx.out 1).trans rfl, (blk_cell BKx.out 2).trans rfl, (blk_cell BKx.out 3).trans rfl, (blk_cell BKx.out 4).trans rfl, (blk_cell BKx.out 5).trans rfl, (blk_cell BKx.out 6).trans rfl, (blk_cell BKx.out 7).trans rfl, (blk_cell BKx.out 8).trans rfl, (blk_cell BKx.out 9).trans rfl, (blk_cell BKy.out 0).trans rfl, (blk_cell BKy.out 1).trans rfl, (blk_cell BKy.out 2).trans rfl, (blk_cell BKy.out 3).trans rfl, (blk_cell BKy.out 4).trans rfl, (blk_cell BKy.out 5).trans rfl, (blk_cell BKy.out 6).trans rfl, (blk_cell BKy.out 7).trans rfl, (blk_cell BKy.out 8).trans rfl, (blk_cell BKy.out 9).trans rfl, (blk_cell BKz.out 0).trans rfl, (blk_cell BKz.out 1).trans rfl, (blk_cell BKz.out 2).trans rfl, (blk_cell BKz.out 3).trans rfl, (blk_cell BKz.out 4).trans rfl, (blk_cell BKz.out 5).trans rfl, (blk_cell BKz.out 6).trans rfl, (blk_cell BKz.out 7).trans rfl, (blk_cell BKz.out 8).trans rfl, (blk_cell BKz.out 9).trans rfl⟩ (fun hHeld => ?_)
      clear hK K
      refine norm_ (a' := ?_) ?_ ?_
      rotate_left
      · show Act.put _ (some 21) _ = _
        simp only [Act.put, List.setIfInBounds_toArray, List.set_cons_zero, List.set_cons_succ, i64_w, i32_w]
        rfl
      refine one_ (i := 16) (N := some 23) #[true, true, true, true, true, true, true, true, true, true, true, true, true, true, true, true, true, false, false, false, false, false, false, false, false, false, false, false, false, false, false, false, false] rfl rfl (by kernel_rfl) (by decide) (fun K hK => ?_)
      refine goes_ Try.func82 (by kernel_rfl) rfl #[.agg #[.int .u64 x.f0, .int .u64 x.f1, .string x.f2, .int .i64 x.f3, .string x.f4, .string x.f5, .int .u64 x.f6, .int .i64 x.f7, .slice xA8 x.f8.length xc8, .slice xA9 x.f9.length xc9]] (by rfl) rfl rfl (by first | (simp only [List.map_toArray, List.map_cons, List.map_nil]; done) | (simp only [List.map_toArray, List.map_cons, List.map_nil]; rfl)) ?_
      with_reducible refine (rdig_c x xA8 xc8 xA9 xc9 _ (Rx.out.below HB.out) (OK.out x (by simp))).mono ?_
      rintro e w12 ⟨v12, rfl, hr, hb⟩
      refine ⟨_, rfl, ?_⟩
      obtain ⟨Ad, cd, rfl, hcb, hCb⟩ := Kd.R_reads hr
      have C4 := Aside0.mk hCb
      have L4 := Aside0.mk hcb
      clear hr hCb hcb
      have nx_ := Aside0.mk (blk_below BKx.out hb)
      have ny_ := Aside0.mk (blk_below BKy.out hb)
      have nz_ := Aside0.mk (blk_below BKz.out hb)
      have nb_ := Aside0.mk (below_step HB.out hb)
      have nC3_ := Aside0.mk (Kd.C_below C3.out hb)
      clear BKx BKy BKz HB C3
      have BKx := nx_
      have BKy := ny_
      have BKz := nz_
      have HB := nb_
      have C3 := nC3_
      clear nx_ ny_ nz_ nb_ nC3_ hb
      refine hK.out _ _ ⟨(blk_cell BKx.out 0).trans rfl, (blk_cell BKx.out 1).trans rfl, (blk_cell BKx.out 2).trans rfl, (blk_cell BKx.out 3).trans rfl, (blk_cell BKx.out 4).trans rfl, (blk_cell BKx.out 5).trans rfl, (blk_cell BKx.out 6).trans rfl, (blk_cell BKx.out 7).trans rfl, (blk_cell BKx.out 8).trans rfl, (blk_cell BKx.out 9).trans rfl, (blk_cell BKy.out 0).trans rfl, (blk_cell BKy.out 1).trans rfl, (blk_cell BKy.out 2).trans rfl, (blk_cell BKy.out 3).trans rfl, (blk_cell BKy.out 4).trans rfl, (blk_cell BKy.out 5).trans rfl, (blk_cell BKy.out 6).trans rfl, (blk_cell BKy.out 7).trans rfl, (blk_cell BKy.out 8).trans rfl, (blk_cell BKy.out 9).trans rfl, (blk_cell BKz.out 0).trans rfl, (blk_cell BKz.out 1).trans rfl, (blk_cell BKz.out 2).trans rfl, (blk_cell BKz.out 3).trans rfl, (blk_cell BKz.out 4).trans rfl, (blk_cell BKz.out 5).trans rfl, (blk_cell BKz.out 6).trans rfl, (blk_cell BKz.out 7).trans rfl, (blk_cell BKz.out 8).trans rfl, (blk_cell BKz.out 9).trans rfl⟩ (fun hHeld => ?_)
      clear hK K
      refine norm_ (a' := ?_) ?_ ?_
      rotate_left
      · show Act.put _ (some 23) _ = _
        simp only [Act.put, List.setIfInBounds_toArray, List.set_cons_zero, List.set_cons_succ, i64_w, i32_w]
        rfl
      refine one_ (i := 17) (N := some 24) #[true, true, true, true, true, true, true, true, true, true, true, true, true, true, true, true, true, true, false, false, false, false, false, false, false, false, false, false, false, false, false, false, false] rfl rfl (by kernel_rfl) (by decide) (fun K hK => ?_)
      refine goes_ Try.func29 (by kernel_rfl) rfl #[.slice Ac (digP x).length cc, .slice Ad (digP x).length cd] (by rfl) rfl rfl (by first | (simp only [List.map_toArray, List.map_cons, List.map_nil]; done) | (simp only [List.map_toArray, List.map_cons, List.map_nil]; rfl)) ?_
      with_reducible refine (bsame_t Ac cc (digP x) Ad cd _ C3.out L3.out C4.out L4.out (by rw [digP_len]; omega)).mono ?_
      rintro e w13 ⟨rfl, hb⟩
      refine ⟨_, rfl, ?_⟩
      clear C3 C4
      have nx_ := Aside0.mk (blk_below BKx.out hb)
      have ny_ := Aside0.mk (blk_below BKy.out hb)
      have nz_ := Aside0.mk (blk_below BKz.out hb)
      have nb_ := Aside0.mk (below_step HB.out hb)
      clear BKx BKy BKz HB 
      have BKx := nx_
      have BKy := ny_
      have BKz := nz_
      have HB := nb_
      clear nx_ ny_ nz_ nb_  hb
      refine hK.out _ _ ⟨(blk_cell BKx.out 0).trans rfl, (blk_cell BKx.out 1).trans rfl, (blk_cell BKx.out 2).trans rfl, (blk_cell BKx.out 3).trans rfl, (blk_cell BKx.out 4).trans rfl, (blk_cell BKx.out 5).trans rfl, (blk_cell BKx.out 6).trans rfl, (blk_cell BKx.out 7).trans rfl, (blk_cell BKx.out 8).trans rfl, (blk_cell BKx.out 9).trans rfl, (blk_cell BKy.out 0).trans rfl, (blk_cell BKy.out 1).trans rfl, (blk_cell BKy.out 2).trans rfl, (blk_cell BKy.out 3).trans rfl, (blk_cell BKy.out 4).trans rfl, (blk_cell BKy.out 5).trans rfl, (blk_cell BKy.out 6).trans rfl, (blk_cell BKy.out 7).trans rfl, (blk_cell BKy.out 8).trans rfl, (blk_cell BKy.out 9).trans rfl, (blk_cell BKz.out 0).trans rfl, (blk_cell BKz.out 1).trans rfl, (blk_cell BKz.out 2).trans rfl, (blk_cell BKz.out 3).trans rfl, (blk_cell BKz.out 4).trans rfl, (blk_cell BKz.out 5).trans rfl, (blk_cell BKz.out 6).trans rfl, (blk_cell BKz.out 7).trans rfl, (blk_cell BKz.out 8).trans rfl, (blk_cell BKz.out 9).trans rfl⟩ (fun hHeld => ?_)
      clear hK K
      refine norm_ (a' := ?_) ?_ ?_
      rotate_left
      · show Act.put _ (some 24) _ = _
        simp only [Act.put, List.setIfInBounds_toArray, List.set_cons_zero, List.set_cons_succ, i64_w, i32_w]
        rfl
      refine pure_ (i := 18) (N := some 25) (v := ?_) (a' := ?_) #[true, true, true, true, true, true, true, true, true, true, true, true, true, true, true, true, true, true, true, false, false, false, false, false, false, false, false, false, false, false, false, false, false] rfl rfl (by kernel_rfl) (fun _ _ _ h => h) (Or.inl ⟨by rfl, ?_⟩) ?_ ?_
      rotate_left
      · intro w'
        go_simp
        with_reducible rfl
      rotate_left
      · simp only [Act.put, List.setIfInBounds_toArray, List.set_cons_zero, List.set_cons_succ, i64_w, i32_w]
        rfl
      refine pure_ (i := 19) (N := some 26) (v := ?_) (a' := ?_) #[true, true, true, true, true, true, true, true, true, true, true, true, true, true, true, true, true, true, true, true, false, false, false, false, false, false, false, false, false, false, false, false, false] rfl rfl (by kernel_rfl) (fun _ _ _ h => h) (Or.inl ⟨by rfl, ?_⟩) ?_ ?_
      rotate_left
      · intro w'
        go_simp
        with_reducible rfl
      rotate_left
      · simp only [Act.put, List.setIfInBounds_toArray, List.set_cons_zero, List.set_cons_succ, i64_w, i32_w]
        rfl
      refine take_ (i := 20) (N := some 27) (v := ?_) (a' := ?_) #[true, true, true, true, true, true, true, true, true, true, true, true, true, true, true, true, true, true, true, true, true, false, false, false, false, false, false, false, false, false, false, false, false] rfl rfl (by kernel_rfl) (fun _ _ _ h => h) (Or.inl ⟨by rfl, ?_⟩) hHeld ?_ ?_
      rotate_left
      · rintro w' ⟨s0, s1, s2, s3, s4, s5, s6, s7, s8, s9, s10, s11, s12, s13, s14, s15, s16, s17, s18, s19, s20, s21, s22, s23, s24, s25, s26, s27, s28, s29⟩
        go_simp
        with_reducible rfl
      rotate_left
      · simp only [Act.put, List.setIfInBounds_toArray, List.set_cons_zero, List.set_cons_succ, i64_w, i32_w]
        rfl
      refine take_ (i := 21) (N := some 28) (v := ?_) (a' := ?_) #[true, true, true, true, true, true, true, true, true, true, true, true, true, true, true, true, true, true, true, true, true, true, false, false, false, false, false, false, false, false, false, false, false] rfl rfl (by kernel_rfl) (fun _ _ _ h => h) (Or.inl ⟨by rfl, ?_⟩) hHeld ?_ ?_
      rotate_left
      · rintro w' ⟨s0, s1, s2, s3, s4, s5, s6, s7, s8, s9, s10, s11, s12, s13, s14, s15, s16, s17, s18, s19, s20, s21, s22, s23, s24, s25, s26, s27, s28, s29⟩
        go_simp
        with_reducible rfl
      rotate_left
      · simp only [Act.put, List.setIfInBounds_toArray, List.set_cons_zero, List.set_cons_succ, i64_w, i32_w]
        rfl
      refine take_ (i := 23) (N := some 30) (v := ?_) (a' := ?_) #[true, true, true, true, true, true, true, true, true, true, true, true, true, true, true, true, true, true, true, true, true, true, false, true, false, false, false, false, false, false, false, false, false] rfl rfl (by kernel_rfl) (fun _ _ _ h => h) (Or.inl ⟨by rfl, ?_⟩) hHeld ?_ ?_
      rotate_left
      · rintro w' ⟨s0, s1, s2, s3, s4, s5, s6, s7, s8, s9, s10, s11, s12, s13, s14, s15, s16, s17, s18, s19, s20, s21, s22, s23, s24, s25, s26, s27, s28, s29⟩
        go_simp
        with_reducible rfl
      rotate_left
      · simp only [Act.put, List.setIfInBounds_toArray, List.set_cons_zero, List.set_cons_succ, i64_w, i32_w]
        rfl
      refine take_ (i := 24) (N := some 31) (v := ?_) (a' := ?_) #[true, true, true, true, true, true, true, true, true, true, true, true, true, true, true, true, true, true, true, true, true, true, false, true, true, false, false, false, false, false, false, false, false] rfl rfl (by kernel_rfl) (fun _ _ _ h => h) (Or.inl ⟨by rfl, ?_⟩) hHeld ?_ ?_
      rotate_left
      · rintro w' ⟨s0, s1, s2, s3, s4, s5, s6, s7, s8, s9, s10, s11, s12, s13, s14, s15, s16, s17, s18, s19, s20, s21, s22, s23, s24, s25, s26, s27, s28, s29⟩
        go_simp
        with_reducible rfl
      rotate_left
      · simp only [Act.put, List.setIfInBounds_toArray, List.set_cons_zero, List.set_cons_succ, i64_w, i32_w]
        rfl
      refine one_ (i := 22) (N := some 29) #[true, true, true, true, true, true, true, true, true, true, true, true, true, true, true, true, true, true, true, true, true, true, true, true, true, false, false, false, false, false, false, false, false] rfl rfl (by kernel_rfl) (by decide) (fun K hK => ?_)
      refine goes_ Try.func86 (by kernel_rfl) rfl #[.agg #[.int .u64 y.f0, .int .u64 y.f1, .string y.f2, .int .i64 y.f3, .string y.f4, .string y.f5, .int .u64 y.f6, .int .i64 y.f7, .slice yA8 y.f8.length yc8, .slice yA9 y.f9.length yc9], .agg #[.int .u64 z.f0, .int .u64 z.f1, .string z.f2, .int .i64 z.f3, .string z.f4, .string z.f5, .int .u64 z.f6, .int .i64 z.f7, .slice zA8 z.f8.length zc8, .slice zA9 z.f9.length zc9]] (by rfl) rfl rfl (by first | (simp only [List.map_toArray, List.map_cons, List.map_nil]; done) | (simp only [List.map_toArray, List.map_cons, List.map_nil]; rfl)) ?_
      with_reducible refine ((show ∀ W, RecC W y yA8 yc8 yA9 yc9 → RecC W z zA8 zc8 zA9 zc9 → Calls Try.prog 86 #[.agg #[.int .u64 y.f0, .int .u64 y.f1, .string y.f2, .int .i64 y.f3, .string y.f4, .string y.f5, .int .u64 y.f6, .int .i64 y.f7, .slice yA8 y.f8.length yc8, .slice yA9 y.f9.length yc9], .agg #[.int .u64 z.f0, .int .u64 z.f1, .string z.f2, .int .i64 z.f3, .string z.f4, .string z.f5, .int .u64 z.f6, .int .i64 z.f7, .slice zA8 z.f8.length zc8, .slice zA9 z.f9.length zc9]] W fun e w' => e = .returned (.bool false) ∧ Below W.heap.size W w' from SQ.out) _ (Ry.out.below HB.out) (Rz.out.below HB.out)).mono ?_
      rintro e w14 ⟨rfl, hb⟩
      refine ⟨_, rfl, ?_⟩
      have nx_ := Aside0.mk (blk_below BKx.out hb)
      have ny_ := Aside0.mk (blk_below BKy.out hb)
      have nz_ := Aside0.mk (blk_below BKz.out hb)
      have nb_ := Aside0.mk (below_step HB.out hb)
      clear BKx BKy BKz HB 
      have BKx := nx_
      have BKy := ny_
      have BKz := nz_
      have HB := nb_
      clear nx_ ny_ nz_ nb_  hb
      refine hK.out _ _ ⟨(blk_cell BKx.out 0).trans rfl, (blk_cell BKx.out 1).trans rfl, (blk_cell BKx.out 2).trans rfl, (blk_cell BKx.out 3).trans rfl, (blk_cell BKx.out 4).trans rfl, (blk_cell BKx.out 5).trans rfl, (blk_cell BKx.out 6).trans rfl, (blk_cell BKx.out 7).trans rfl, (blk_cell BKx.out 8).trans rfl, (blk_cell BKx.out 9).trans rfl, (blk_cell BKy.out 0).trans rfl, (blk_cell BKy.out 1).trans rfl, (blk_cell BKy.out 2).trans rfl, (blk_cell BKy.out 3).trans rfl, (blk_cell BKy.out 4).trans rfl, (blk_cell BKy.out 5).trans rfl, (blk_cell BKy.out 6).trans rfl, (blk_cell BKy.out 7).trans rfl, (blk_cell BKy.out 8).trans rfl, (blk_cell BKy.out 9).trans rfl, (blk_cell BKz.out 0).trans rfl, (blk_cell BKz.out 1).trans rfl, (blk_cell BKz.out 2).trans rfl, (blk_cell BKz.out 3).trans rfl, (blk_cell BKz.out 4).trans rfl, (blk_cell BKz.out 5).trans rfl, (blk_cell BKz.out 6).trans rfl, (blk_cell BKz.out 7).trans rfl, (blk_cell BKz.out 8).trans rfl, (blk_cell BKz.out 9).trans rfl⟩ (fun hHeld => ?_)
      clear hK K
      refine norm_ (a' := ?_) ?_ ?_
      rotate_left
      · show Act.put _ (some 29) _ = _
        simp only [Act.put, List.setIfInBounds_toArray, List.set_cons_zero, List.set_cons_succ, i64_w, i32_w]
        rfl
      refine one_ (i := 25) (N := some 32) #[true, true, true, true, true, true, true, true, true, true, true, true, true, true, true, true, true, true, true, true, true, true, true, true, true, true, false, false, false, false, false, false, false] rfl rfl (by kernel_rfl) (by decide) (fun K hK => ?_)
      refine goes_ Try.func75 (by kernel_rfl) rfl #[.agg #[.int .u64 y.f0, .int .u64 y.f1, .string y.f2, .int .i64 y.f3, .string y.f4, .string y.f5, .int .u64 y.f6, .int .i64 y.f7, .slice yA8 y.f8.length yc8, .slice yA9 y.f9.length yc9], .agg #[.int .u64 z.f0, .int .u64 z.f1, .string z.f2, .int .i64 z.f3, .string z.f4, .string z.f5, .int .u64 z.f6, .int .i64 z.f7, .slice zA8 z.f8.length zc8, .slice zA9 z.f9.length zc9]] (by rfl) rfl rfl (by first | (simp only [List.map_toArray, List.map_cons, List.map_nil]; done) | (simp only [List.map_toArray, List.map_cons, List.map_nil]; rfl)) ?_
      with_reducible refine ((show ∀ W, RecC W y yA8 yc8 yA9 yc9 → RecC W z zA8 zc8 zA9 zc9 → Calls Try.prog 75 #[.agg #[.int .u64 y.f0, .int .u64 y.f1, .string y.f2, .int .i64 y.f3, .string y.f4, .string y.f5, .int .u64 y.f6, .int .i64 y.f7, .slice yA8 y.f8.length yc8, .slice yA9 y.f9.length yc9], .agg #[.int .u64 z.f0, .int .u64 z.f1, .string z.f2, .int .i64 z.f3, .string z.f4, .string z.f5, .int .u64 z.f6, .int .i64 z.f7, .slice zA8 z.f8.length zc8, .slice zA9 z.f9.length zc9]] W fun e w' => e = .returned (.bool false) ∧ Below W.heap.size W w' from SR.out) _ (Ry.out.below HB.out) (Rz.out.below HB.out)).mono ?_
      rintro e w15 ⟨rfl, hb⟩
      refine ⟨_, rfl, ?_⟩
      have nx_ := Aside0.mk (blk_below BKx.out hb)
      have ny_ := Aside0.mk (blk_below BKy.out hb)
      have nz_ := Aside0.mk (blk_below BKz.out hb)
      have nb_ := Aside0.mk (below_step HB.out hb)
      clear BKx BKy BKz HB 
      have BKx := nx_
      have BKy := ny_
      have BKz := nz_
      have HB := nb_
      clear nx_ ny_ nz_ nb_  hb
      refine hK.out _ _ ⟨(blk_cell BKx.out 0).trans rfl, (blk_cell BKx.out 1).trans rfl, (blk_cell BKx.out 2).trans rfl, (blk_cell BKx.out 3).trans rfl, (blk_cell BKx.out 4).trans rfl, (blk_cell BKx.out 5).trans rfl, (blk_cell BKx.out 6).trans rfl, (blk_cell BKx.out 7).trans rfl, (blk_cell BKx.out 8).trans rfl, (blk_cell BKx.out 9).trans rfl, (blk_cell BKy.out 0).trans rfl, (blk_cell BKy.out 1).trans rfl, (blk_cell BKy.out 2).trans rfl, (blk_cell BKy.out 3).trans rfl, (blk_cell BKy.out 4).trans rfl, (blk_cell BKy.out 5).trans rfl, (blk_cell BKy.out 6).trans rfl, (blk_cell BKy.out 7).trans rfl, (blk_cell BKy.out 8).trans rfl, (blk_cell BKy.out 9).trans rfl, (blk_cell BKz.out 0).trans rfl, (blk_cell BKz.out 1).trans rfl, (blk_cell BKz.out 2).trans rfl, (blk_cell BKz.out 3).trans rfl, (blk_cell BKz.out 4).trans rfl, (blk_cell BKz.out 5).trans rfl, (blk_cell BKz.out 6).trans rfl, (blk_cell BKz.out 7).trans rfl, (blk_cell BKz.out 8).trans rfl, (blk_cell BKz.out 9).trans rfl⟩ (fun hHeld => ?_)
      clear hK K
      refine norm_ (a' := ?_) ?_ ?_
      rotate_left
      · show Act.put _ (some 32) _ = _
        simp only [Act.put, List.setIfInBounds_toArray, List.set_cons_zero, List.set_cons_succ, i64_w, i32_w]
        rfl
      refine pure_ (i := 26) (N := some 33) (v := ?_) (a' := ?_) #[true, true, true, true, true, true, true, true, true, true, true, true, true, true, true, true, true, true, true, true, true, true, true, true, true, true, true, false, false, false, false, false, false] rfl rfl (by kernel_rfl) (fun _ _ _ h => h) (Or.inl ⟨by rfl, ?_⟩) ?_ ?_
      rotate_left
      · intro w'
        go_simp
        with_reducible rfl
      rotate_left
      · simp only [Act.put, List.setIfInBounds_toArray, List.set_cons_zero, List.set_cons_succ, i64_w, i32_w]
        rfl
      refine pure_ (i := 27) (N := some 34) (v := ?_) (a' := ?_) #[true, true, true, true, true, true, true, true, true, true, true, true, true, true, true, true, true, true, true, true, true, true, true, true, true, true, true, true, false, false, false, false, false] rfl rfl (by kernel_rfl) (fun _ _ _ h => h) (Or.inl ⟨by rfl, ?_⟩) ?_ ?_
      rotate_left
      · intro w'
        go_simp
        with_reducible rfl
      rotate_left
      · simp only [Act.put, List.setIfInBounds_toArray, List.set_cons_zero, List.set_cons_succ, i64_w, i32_w]
        rfl
      refine pure_ (i := 28) (N := some 35) (v := ?_) (a' := ?_) #[true, true, true, true, true, true, true, true, true, true, true, true, true, true, true, true, true, true, true, true, true, true, true, true, true, true, true, true, true, false, false, false, false] rfl rfl (by kernel_rfl) (fun _ _ _ h => h) (Or.inl ⟨by rfl, ?_⟩) ?_ ?_
      rotate_left
      · intro w'
        go_simp
        with_reducible rfl
      rotate_left
      · simp only [Act.put, List.setIfInBounds_toArray, List.set_cons_zero, List.set_cons_succ, i64_w, i32_w]
        rfl
      refine one_ (i := 29) (N := some 36) #[true, true, true, true, true, true, true, true, true, true, true, true, true, true, true, true, true, true, true, true, true, true, true, true, true, true, true, true, true, true, false, false, false] rfl rfl (by kernel_rfl) (by decide) (fun K hK => ?_)
      refine goes_ Try.func74 (by kernel_rfl) rfl #[] (by rfl) rfl rfl (by first | (simp only [List.map_toArray, List.map_cons, List.map_nil]; done) | (simp only [List.map_toArray, List.map_cons, List.map_nil]; rfl)) ?_
      with_reducible refine (alive14 _).mono ?_
      rintro e w16 ⟨rfl, hb⟩
      refine ⟨_, rfl, ?_⟩
      have nx_ := Aside0.mk (blk_below BKx.out hb)
      have ny_ := Aside0.mk (blk_below BKy.out hb)
      have nz_ := Aside0.mk (blk_below BKz.out hb)
      have nb_ := Aside0.mk (below_step HB.out hb)
      clear BKx BKy BKz HB 
      have BKx := nx_
      have BKy := ny_
      have BKz := nz_
      have HB := nb_
      clear nx_ ny_ nz_ nb_  hb
      refine hK.out _ _ ⟨(blk_cell BKx.out 0).trans rfl, (blk_cell BKx.out 1).trans rfl, (blk_cell BKx.out 2).trans rfl, (blk_cell BKx.out 3).trans rfl, (blk_cell BKx.out 4).trans rfl, (blk_cell BKx.out 5).trans rfl, (blk_cell BKx.out 6).trans rfl, (blk_cell BKx.out 7).trans rfl, (blk_cell BKx.out 8).trans rfl, (blk_cell BKx.out 9).trans rfl, (blk_cell BKy.out 0).trans rfl, (blk_cell BKy.out 1).trans rfl, (blk_cell BKy.out 2).trans rfl, (blk_cell BKy.out 3).trans rfl, (blk_cell BKy.out 4).trans rfl, (blk_cell BKy.out 5).trans rfl, (blk_cell BKy.out 6).trans rfl, (blk_cell BKy.out 7).trans rfl, (blk_cell BKy.out 8).trans rfl, (blk_cell BKy.out 9).trans rfl, (blk_cell BKz.out 0).trans rfl, (blk_cell BKz.out 1).trans rfl, (blk_cell BKz.out 2).trans rfl, (blk_cell BKz.out 3).trans rfl, (blk_cell BKz.out 4).trans rfl, (blk_cell BKz.out 5).trans rfl, (blk_cell BKz.out 6).trans rfl, (blk_cell BKz.out 7).trans rfl, (blk_cell BKz.out 8).trans rfl, (blk_cell BKz.out 9).trans rfl⟩ (fun hHeld => ?_)
      clear hK K
      refine norm_ (a' := ?_) ?_ ?_
      rotate_left
      · show Act.put _ (some 36) _ = _
        simp only [Act.put, List.setIfInBounds_toArray, List.set_cons_zero, List.set_cons_succ, i64_w, i32_w]
        rfl
      refine pure_ (i := 30) (N := some 37) (v := ?_) (a' := ?_) #[true, true, true, true, true, true, true, true, true, true, true, true, true, true, true, true, true, true, true, true, true, true, true, true, true, true, true, true, true, true, true, false, false] rfl rfl (by kernel_rfl) (fun _ _ _ h => h) (Or.inl ⟨by rfl, ?_⟩) ?_ ?_
      rotate_left
      · intro w'
        go_simp
        with_reducible rfl
      rotate_left
      · simp only [Act.put, List.setIfInBounds_toArray, List.set_cons_zero, List.set_cons_succ, i64_w, i32_w]
        rfl
      refine pure_ (i := 31) (N := some 38) (v := ?_) (a' := ?_) #[true, true, true, true, true, true, true, true, true, true, true, true, true, true, true, true, true, true, true, true, true, true, true, true, true, true, true, true, true, true, true, true, false] rfl rfl (by kernel_rfl) (fun _ _ _ h => h) (Or.inl ⟨by rfl, ?_⟩) ?_ ?_
      rotate_left
      · intro w'
        go_simp
        with_reducible rfl
      rotate_left
      · simp only [Act.put, List.setIfInBounds_toArray, List.set_cons_zero, List.set_cons_succ, i64_w, i32_w]
        rfl
      refine pure_ (i := 32) (N := some 6) (v := ?_) (a' := ?_) #[true, true, true, true, true, true, true, true, true, true, true, true, true, true, true, true, true, true, true, true, true, true, true, true, true, true, true, true, true, true, true, true, true] rfl rfl (by kernel_rfl) (fun _ _ _ h => h) (Or.inl ⟨by rfl, ?_⟩) ?_ ?_
      rotate_left
      · intro w'
        go_simp
        with_reducible rfl
      rotate_left
      · simp only [Act.put, List.setIfInBounds_toArray, List.set_cons_zero, List.set_cons_succ, i64_w, i32_w]
        rfl
      refine done_ (by kernel_rfl) ?_
      go_wp2
      go_ret
      exact ⟨rfl, HB.out⟩
    | true =>
      go_enter Try.func19, Try.ntmps19
      go_wp2_with (first
        | ((with_reducible refine gate_dst (N := 3) rfl ?_); refine box_event ?hg (N := 3) ?hd (cs := #[.int .u64 x.f0, .int .u64 x.f1, .string x.f2, .int .i64 x.f3, .string x.f4, .string x.f5, .int .u64 x.f6, .int .i64 x.f7, .slice xA8 x.f8.length xc8, .slice xA9 x.f9.length xc9]) (t := 69) ?hr ?_; (case hd => rfl); (case hg => rfl); (case hr => first | (go_simp; done) | (go_simp; rfl)); intro gx hg w3 hbox hb; have BKx := Aside0.mk hbox; have nb_ := Aside0.mk (below_step HB.out hb); clear HB; have HB := nb_; clear nb_ hbox hb hg)
        | ((with_reducible refine gate_dst (N := 4) rfl ?_); refine box_event ?hg (N := 4) ?hd (cs := #[.int .u64 y.f0, .int .u64 y.f1, .string y.f2, .int .i64 y.f3, .string y.f4, .string y.f5, .int .u64 y.f6, .int .i64 y.f7, .slice yA8 y.f8.length yc8, .slice yA9 y.f9.length yc9]) (t := 69) ?hr ?_; (case hd => rfl); (case hg => rfl); (case hr => first | (go_simp; done) | (go_simp; rfl)); intro gy hg w4 hbox hb; have nx_ := Aside0.mk (blk_below BKx.out hb); clear BKx; have BKx := nx_; clear nx_; have BKy := Aside0.mk hbox; have nb_ := Aside0.mk (below_step HB.out hb); clear HB; have HB := nb_; clear nb_ hbox hb hg)
        | ((with_reducible refine gate_dst (N := 5) rfl ?_); refine box_event ?hg (N := 5) ?hd (cs := #[.int .u64 z.f0, .int .u64 z.f1, .string z.f2, .int .i64 z.f3, .string z.f4, .string z.f5, .int .u64 z.f6, .int .i64 z.f7, .slice zA8 z.f8.length zc8, .slice zA9 z.f9.length zc9]) (t := 69) ?hr ?_; (case hd => rfl); (case hg => rfl); (case hr => first | (go_simp; done) | (go_simp; rfl)); intro gz hg w5 hbox hb; have nx_ := Aside0.mk (blk_below BKx.out hb); clear BKx; have BKx := nx_; clear nx_; have ny_ := Aside0.mk (blk_below BKy.out hb); clear BKy; have BKy := ny_; clear ny_; have BKz := Aside0.mk hbox; have nb_ := Aside0.mk (below_step HB.out hb); clear HB; have HB := nb_; clear nb_ hbox hb hg))
      have nx_ := Aside0.mk (blk_drew BKx.out)
      have ny_ := Aside0.mk (blk_drew BKy.out)
      have nz_ := Aside0.mk (blk_drew BKz.out)
      have nb_ := Aside0.mk (below_drew1 HB.out)
      clear BKx BKy BKz HB
      have BKx := nx_
      have BKy := ny_
      have BKz := nz_
      have HB := nb_
      clear nx_ ny_ nz_ nb_
      refine start_ (n := 33) (S := fun w' => w'.cell? ⟨gx, 0, none⟩ = some (.int .u64 x.f0) ∧ w'.cell? ⟨gx, 1, none⟩ = some (.int .u64 x.f1) ∧ w'.cell? ⟨gx, 2, none⟩ = some (.string x.f2) ∧ w'.cell? ⟨gx, 3, none⟩ = some (.int .i64 x.f3) ∧ w'.cell? ⟨gx, 4, none⟩ = some (.string x.f4) ∧ w'.cell? ⟨gx, 5, none⟩ = some (.string x.f5) ∧ w'.cell? ⟨gx, 6, none⟩ = some (.int .u64 x.f6) ∧ w'.cell? ⟨gx, 7, none⟩ = some (.int .i64 x.f7) ∧ w'.cell? ⟨gx, 8, none⟩ = some (.slice xA8 x.f8.length xc8) ∧ w'.cell? ⟨gx, 9, none⟩ = some (.slice xA9 x.f9.length xc9) ∧ w'.cell? ⟨gy, 0, none⟩ = some (.int .u64 y.f0) ∧ w'.cell? ⟨gy, 1, none⟩ = some (.int .u64 y.f1) ∧ w'.cell? ⟨gy, 2, none⟩ = some (.string y.f2) ∧ w'.cell? ⟨gy, 3, none⟩ = some (.int .i64 y.f3) ∧ w'.cell? ⟨gy, 4, none⟩ = some (.string y.f4) ∧ w'.cell? ⟨gy, 5, none⟩ = some (.string y.f5) ∧ w'.cell? ⟨gy, 6, none⟩ = some (.int .u64 y.f6) ∧ w'.cell? ⟨gy, 7, none⟩ = some (.int .i64 y.f7) ∧ w'.cell? ⟨gy, 8, none⟩ = some (.slice yA8 y.f8.length yc8) ∧ w'.cell? ⟨gy, 9, none⟩ = some (.slice yA9 y.f9.length yc9) ∧ w'.cell? ⟨gz, 0, none⟩ = some (.int .u64 z.f0) ∧ w'.cell? ⟨gz, 1, none⟩ = some (.int .u64 z.f1) ∧ w'.cell? ⟨gz, 2, none⟩ = some (.string z.f2) ∧ w'.cell? ⟨gz, 3, none⟩ = some (.int .i64 z.f3) ∧ w'.cell? ⟨gz, 4, none⟩ = some (.string z.f4) ∧ w'.cell? ⟨gz, 5, none⟩ = some (.string z.f5) ∧ w'.cell? ⟨gz, 6, none⟩ = some (.int .u64 z.f6) ∧ w'.cell? ⟨gz, 7, none⟩ = some (.int .i64 z.f7) ∧ w'.cell? ⟨gz, 8, none⟩ = some (.slice zA8 z.f8.length zc8) ∧ w'.cell? ⟨gz, 9, none⟩ = some (.slice zA9 z.f9.length zc9)) (ds := []) #[false, false, false, false, false, false, false, false, false, false, false, false, false, false, false, false, false, false, false, false, false, false, false, false, false, false, false, false, false, false, false, false, false] (by kernel_rfl) rfl rfl ⟨(blk_cell BKx.out 0).trans rfl, (blk_cell BKx.out 1).trans rfl, (blk_cell BKx.out 2).trans rfl, (blk_cell BKx.out 3).trans rfl, (blk_cell BKx.out 4).trans rfl, (blk_cell BKx.out 5).trans rfl, (blk_cell BKx.out 6).trans rfl, (blk_cell BKx.out 7).trans rfl, (blk_cell BKx.out 8).trans rfl, (blk_cell BKx.out 9).trans rfl, (blk_cell BKy.out 0).trans rfl, (blk_cell BKy.out 1).trans rfl, (blk_cell BKy.out 2).trans rfl, (blk_cell BKy.out 3).trans rfl, (blk_cell BKy.out 4).trans rfl, (blk_cell BKy.out 5).trans rfl, (blk_cell BKy.out 6).trans rfl, (blk_cell BKy.out 7).trans rfl, (blk_cell BKy.out 8).trans rfl, (blk_cell BKy.out 9).trans rfl, (blk_cell BKz.out 0).trans rfl, (blk_cell BKz.out 1).trans rfl, (blk_cell BKz.out 2).trans rfl, (blk_cell BKz.out 3).trans rfl, (blk_cell BKz.out 4).trans rfl, (blk_cell BKz.out 5).trans rfl, (blk_cell BKz.out 6).trans rfl, (blk_cell BKz.out 7).trans rfl, (blk_cell BKz.out 8).trans rfl, (blk_cell BKz.out 9).trans rfl⟩ (fun hHeld => ?_)
      generalize w5.drew = wd at BKx BKy BKz HB hHeld ⊢
      refine take_ (i := 0) (N := some 7) (v := ?_) (a' := ?_) #[true, false, false, false, false, false, false, false, false, false, false, false, false, false, false, false, false, false, false, false, false, false, false, false, false, false, false, false, false, false, false, false, false] rfl rfl (by kernel_rfl) (fun _ _ _ h => h) (Or.inl ⟨by rfl, ?_⟩) hHeld ?_ ?_
      rotate_left
      · rintro w' ⟨s0, s1, s2, s3, s4, s5, s6, s7, s8, s9, s10, s11, s12, s13, s14, s15, s16, s17, s18, s19, s20, s21, s22, s23, s24, s25, s26, s27, s28, s29⟩
        go_simp
        with_reducible rfl
      rotate_left
      · simp only [Act.put, List.setIfInBounds_toArray, List.set_cons_zero, List.set_cons_succ, i64_w, i32_w]
        rfl
      refine take_ (i := 1) (N := some 8) (v := ?_) (a' := ?_) #[true, true, false, false, false, false, false, false, false, false, false, false, false, false, false, false, false, false, false, false, false, false, false, false, false, false, false, false, false, false, false, false, false] rfl rfl (by kernel_rfl) (fun _ _ _ h => h) (Or.inl ⟨by rfl, ?_⟩) hHeld ?_ ?_
      rotate_left
      · rintro w' ⟨s0, s1, s2, s3, s4, s5, s6, s7, s8, s9, s10, s11, s12, s13, s14, s15, s16, s17, s18, s19, s20, s21, s22, s23, s24, s25, s26, s27, s28, s29⟩
        go_simp
        with_reducible rfl
      rotate_left
      · simp only [Act.put, List.setIfInBounds_toArray, List.set_cons_zero, List.set_cons_succ, i64_w, i32_w]
        rfl
      refine take_ (i := 2) (N := some 9) (v := ?_) (a' := ?_) #[true, true, true, false, false, false, false, false, false, false, false, false, false, false, false, false, false, false, false, false, false, false, false, false, false, false, false, false, false, false, false, false, false] rfl rfl (by kernel_rfl) (fun _ _ _ h => h) (Or.inl ⟨by rfl, ?_⟩) hHeld ?_ ?_
      rotate_left
      · rintro w' ⟨s0, s1, s2, s3, s4, s5, s6, s7, s8, s9, s10, s11, s12, s13, s14, s15, s16, s17, s18, s19, s20, s21, s22, s23, s24, s25, s26, s27, s28, s29⟩
        go_simp
        with_reducible rfl
      rotate_left
      · simp only [Act.put, List.setIfInBounds_toArray, List.set_cons_zero, List.set_cons_succ, i64_w, i32_w]
        rfl
      refine one_ (i := 3) (N := some 10) #[true, true, true, true, false, false, false, false, false, false, false, false, false, false, false, false, false, false, false, false, false, false, false, false, false, false, false, false, false, false, false, false, false] rfl rfl (by kernel_rfl) (by decide) (fun K hK => ?_)
      refine value_ (w1 := wd.alloc (.cells #[.int .u64 x.f0, .int .u64 x.f1, .string x.f2, .int .i64 x.f3, .string x.f4, .string x.f5, .int .u64 x.f6, .int .i64 x.f7, .slice xA8 x.f8.length xc8, .slice xA9 x.f9.length xc9, .int .u64 y.f0, .int .u64 y.f1, .string y.f2, .int .i64 y.f3, .string y.f4, .string y.f5, .int .u64 y.f6, .int .i64 y.f7, .slice yA8 y.f8.length yc8, .slice yA9 y.f9.length yc9, .int .u64 z.f0, .int .u64 z.f1, .string z.f2, .int .i64 z.f3, .string z.f4, .string z.f5, .int .u64 z.f6, .int .i64 z.f7, .slice zA8 z.f8.length zc8, .slice zA9 z.f9.length zc9] 69)) (v := .slice (some ⟨wd.heap.size, 0, none⟩) 3 3) (by rfl) rfl ?_ ?_
      · go_simp
        try rfl
      have hbx := blk_new wd (.cells #[.int .u64 x.f0, .int .u64 x.f1, .string x.f2, .int .i64 x.f3, .string x.f4, .string x.f5, .int .u64 x.f6, .int .i64 x.f7, .slice xA8 x.f8.length xc8, .slice xA9 x.f9.length xc9, .int .u64 y.f0, .int .u64 y.f1, .string y.f2, .int .i64 y.f3, .string y.f4, .string y.f5, .int .u64 y.f6, .int .i64 y.f7, .slice yA8 y.f8.length yc8, .slice yA9 y.f9.length yc9, .int .u64 z.f0, .int .u64 z.f1, .string z.f2, .int .i64 z.f3, .string z.f4, .string z.f5, .int .u64 z.f6, .int .i64 z.f7, .slice zA8 z.f8.length zc8, .slice zA9 z.f9.length zc9] 69)
      have hbb := below_alloc (Below.refl wd.heap.size wd) (.cells #[.int .u64 x.f0, .int .u64 x.f1, .string x.f2, .int .i64 x.f3, .string x.f4, .string x.f5, .int .u64 x.f6, .int .i64 x.f7, .slice xA8 x.f8.length xc8, .slice xA9 x.f9.length xc9, .int .u64 y.f0, .int .u64 y.f1, .string y.f2, .int .i64 y.f3, .string y.f4, .string y.f5, .int .u64 y.f6, .int .i64 y.f7, .slice yA8 y.f8.length yc8, .slice yA9 y.f9.length yc9, .int .u64 z.f0, .int .u64 z.f1, .string z.f2, .int .i64 z.f3, .string z.f4, .string z.f5, .int .u64 z.f6, .int .i64 z.f7, .slice zA8 z.f8.length zc8, .slice zA9 z.f9.length zc9] 69)
      generalize wd.alloc (.cells #[.int .u64 x.f0, .int .u64 x.f1, .string x.f2, .int .i64 x.f3, .string x.f4, .string x.f5, .int .u64 x.f6, .int .i64 x.f7, .slice xA8 x.f8.length xc8, .slice xA9 x.f9.length xc9, .int .u64 y.f0, .int .u64 y.f1, .string y.f2, .int .i64 y.f3, .string y.f4, .string y.f5, .int .u64 y.f6, .int .i64 y.f7, .slice yA8 y.f8.length yc8, .slice yA9 y.f9.length yc9, .int .u64 z.f0, .int .u64 z.f1, .string z.f2, .int .i64 z.f3, .string z.f4, .string z.f5, .int .u64 z.f6, .int .i64 z.f7, .slice zA8 z.f8.length zc8, .slice zA9 z.f9.length zc9] 69) = w6 at hbx hbb ⊢
      generalize hg6 : wd.heap.size = g6 at hbx ⊢
      have K6 := Aside0.mk (lit3 w6 g6 69 x xA8 xc8 xA9 xc9 y yA8 yc8 yA9 yc9 z zA8 zc8 zA9 zc9 hbx (Rx.out.below (below_step HB.out hbb)) (Ry.out.below (below_step HB.out hbb)) (Rz.out.below (below_step HB.out hbb)))
      clear hbx hg6
      have nx_ := Aside0.mk (blk_below BKx.out hbb)
      have ny_ := Aside0.mk (blk_below BKy.out hbb)
      have nz_ := Aside0.mk (blk_below BKz.out hbb)
      have nb_ := Aside0.mk (below_step HB.out hbb)
      clear BKx BKy BKz HB 
      have BKx := nx_
      have BKy := ny_
      have BKz := nz_
      have HB := nb_
      clear nx_ ny_ nz_ nb_  hbb
      refine hK.out _ _ ⟨(blk_cell BKx.out 0).trans rfl, (blk_cell BKx.out 1).trans rfl, (blk_cell BKx.out 2).trans rfl, (blk_cell BKx.out 3).trans rfl, (blk_cell BKx.out 4).trans rfl, (blk_cell BKx.out 5).trans rfl, (blk_cell BKx.out 6).trans rfl, (blk_cell BKx.out 7).trans rfl, (blk_cell BKx.out 8).trans rfl, (blk_cell BKx.out 9).trans rfl, (blk_cell BKy.out 0).trans rfl, (blk_cell BKy.out 1).trans rfl, (blk_cell BKy.out 2).trans rfl, (blk_cell BKy.out 3).trans rfl, (blk_cell BKy.out 4).trans rfl, (blk_cell BKy.out 5).trans rfl, (blk_cell BKy.out 6).trans rfl, (blk_cell BKy.out 7).trans rfl, (blk_cell BKy.out 8).trans rfl, (blk_cell BKy.out 9).trans rfl, (blk_cell BKz.out 0).trans rfl, (blk_cell BKz.out 1).trans rfl, (blk_cell BKz.out 2).trans rfl, (blk_cell BKz.out 3).trans rfl, (blk_cell BKz.out 4).trans rfl, (blk_cell BKz.out 5).trans rfl, (blk_cell BKz.out 6).trans rfl, (blk_cell BKz.out 7).trans rfl, (blk_cell BKz.out 8).trans rfl, (blk_cell BKz.out 9).trans rfl⟩ (fun hHeld => ?_)
      clear hK K
      refine norm_ (a' := ?_) ?_ ?_
      rotate_left
      · show Act.put _ (some 10) _ = _
        simp only [Act.put, List.setIfInBounds_toArray, List.set_cons_zero, List.set_cons_succ, i64_w, i32_w]
        rfl
      refine one_ (i := 4) (N := some 11) #[true, true, true, true, true, false, false, false, false, false, false, false, false, false, false, false, false, false, false, false, false, false, false, false, false, false, false, false, false, false, false, false, false] rfl rfl (by kernel_rfl) (by decide) (fun K hK => ?_)
      refine goes_ Try.func73 (by kernel_rfl) rfl #[.slice (some ⟨g6, 0, none⟩) 3 3] (by rfl) rfl rfl (by first | (simp only [List.map_toArray, List.map_cons, List.map_nil]; done) | (simp only [List.map_toArray, List.map_cons, List.map_nil]; rfl)) ?_
      with_reducible refine (light3 g6 x y z true _ K6.out HS.out HL.out).mono ?_
      rintro e w7 ⟨rfl, hb⟩
      refine ⟨_, rfl, ?_⟩
      have nx_ := Aside0.mk (blk_below BKx.out hb)
      have ny_ := Aside0.mk (blk_below BKy.out hb)
      have nz_ := Aside0.mk (blk_below BKz.out hb)
      have nb_ := Aside0.mk (below_step HB.out hb)
      clear BKx BKy BKz HB 
      have BKx := nx_
      have BKy := ny_
      have BKz := nz_
      have HB := nb_
      clear nx_ ny_ nz_ nb_  hb
      refine hK.out _ _ ⟨(blk_cell BKx.out 0).trans rfl, (blk_cell BKx.out 1).trans rfl, (blk_cell BKx.out 2).trans rfl, (blk_cell BKx.out 3).trans rfl, (blk_cell BKx.out 4).trans rfl, (blk_cell BKx.out 5).trans rfl, (blk_cell BKx.out 6).trans rfl, (blk_cell BKx.out 7).trans rfl, (blk_cell BKx.out 8).trans rfl, (blk_cell BKx.out 9).trans rfl, (blk_cell BKy.out 0).trans rfl, (blk_cell BKy.out 1).trans rfl, (blk_cell BKy.out 2).trans rfl, (blk_cell BKy.out 3).trans rfl, (blk_cell BKy.out 4).trans rfl, (blk_cell BKy.out 5).trans rfl, (blk_cell BKy.out 6).trans rfl, (blk_cell BKy.out 7).trans rfl, (blk_cell BKy.out 8).trans rfl, (blk_cell BKy.out 9).trans rfl, (blk_cell BKz.out 0).trans rfl, (blk_cell BKz.out 1).trans rfl, (blk_cell BKz.out 2).trans rfl, (blk_cell BKz.out 3).trans rfl, (blk_cell BKz.out 4).trans rfl, (blk_cell BKz.out 5).trans rfl, (blk_cell BKz.out 6).trans rfl, (blk_cell BKz.out 7).trans rfl, (blk_cell BKz.out 8).trans rfl, (blk_cell BKz.out 9).trans rfl⟩ (fun hHeld => ?_)
      clear hK K
      refine norm_ (a' := ?_) ?_ ?_
      rotate_left
      · show Act.put _ (some 11) _ = _
        simp only [Act.put, List.setIfInBounds_toArray, List.set_cons_zero, List.set_cons_succ, i64_w, i32_w]
        rfl
      refine pure_ (i := 5) (N := some 12) (v := ?_) (a' := ?_) #[true, true, true, true, true, true, false, false, false, false, false, false, false, false, false, false, false, false, false, false, false, false, false, false, false, false, false, false, false, false, false, false, false] rfl rfl (by kernel_rfl) (fun _ _ _ h => h) (Or.inl ⟨by rfl, ?_⟩) ?_ ?_
      rotate_left
      · intro w'
        go_simp
        with_reducible rfl
      rotate_left
      · simp only [Act.put, List.setIfInBounds_toArray, List.set_cons_zero, List.set_cons_succ, i64_w, i32_w]
        rfl
      refine pure_ (i := 6) (N := some 13) (v := ?_) (a' := ?_) #[true, true, true, true, true, true, true, false, false, false, false, false, false, false, false, false, false, false, false, false, false, false, false, false, false, false, false, false, false, false, false, false, false] rfl rfl (by kernel_rfl) (fun _ _ _ h => h) (Or.inl ⟨by rfl, ?_⟩) ?_ ?_
      rotate_left
      · intro w'
        go_simp
        with_reducible rfl
      rotate_left
      · simp only [Act.put, List.setIfInBounds_toArray, List.set_cons_zero, List.set_cons_succ, i64_w, i32_w]
        rfl
      refine take_ (i := 7) (N := some 14) (v := ?_) (a' := ?_) #[true, true, true, true, true, true, true, true, false, false, false, false, false, false, false, false, false, false, false, false, false, false, false, false, false, false, false, false, false, false, false, false, false] rfl rfl (by kernel_rfl) (fun _ _ _ h => h) (Or.inl ⟨by rfl, ?_⟩) hHeld ?_ ?_
      rotate_left
      · rintro w' ⟨s0, s1, s2, s3, s4, s5, s6, s7, s8, s9, s10, s11, s12, s13, s14, s15, s16, s17, s18, s19, s20, s21, s22, s23, s24, s25, s26, s27, s28, s29⟩
        go_simp
        with_reducible rfl
      rotate_left
      · simp only [Act.put, List.setIfInBounds_toArray, List.set_cons_zero, List.set_cons_succ, i64_w, i32_w]
        rfl
      refine take_ (i := 9) (N := some 16) (v := ?_) (a' := ?_) #[true, true, true, true, true, true, true, true, false, true, false, false, false, false, false, false, false, false, false, false, false, false, false, false, false, false, false, false, false, false, false, false, false] rfl rfl (by kernel_rfl) (fun _ _ _ h => h) (Or.inl ⟨by rfl, ?_⟩) hHeld ?_ ?_
      rotate_left
      · rintro w' ⟨s0, s1, s2, s3, s4, s5, s6, s7, s8, s9, s10, s11, s12, s13, s14, s15, s16, s17, s18, s19, s20, s21, s22, s23, s24, s25, s26, s27, s28, s29⟩
        go_simp
        with_reducible rfl
      rotate_left
      · simp only [Act.put, List.setIfInBounds_toArray, List.set_cons_zero, List.set_cons_succ, i64_w, i32_w]
        rfl
      refine one_ (i := 8) (N := some 15) #[true, true, true, true, true, true, true, true, true, true, false, false, false, false, false, false, false, false, false, false, false, false, false, false, false, false, false, false, false, false, false, false, false] rfl rfl (by kernel_rfl) (by decide) (fun K hK => ?_)
      refine goes_ Try.func84 (by kernel_rfl) rfl #[.agg #[.int .u64 x.f0, .int .u64 x.f1, .string x.f2, .int .i64 x.f3, .string x.f4, .string x.f5, .int .u64 x.f6, .int .i64 x.f7, .slice xA8 x.f8.length xc8, .slice xA9 x.f9.length xc9]] (by rfl) rfl rfl (by first | (simp only [List.map_toArray, List.map_cons, List.map_nil]; done) | (simp only [List.map_toArray, List.map_cons, List.map_nil]; rfl)) ?_
      with_reducible refine (show_c x xA8 xc8 xA9 xc9 _ (Rx.out.below HB.out) (OK.out x (by simp))).mono ?_
      rintro e w8 ⟨v8, rfl, hr, hb⟩
      refine ⟨_, rfl, ?_⟩
      obtain ⟨Aa, ca, rfl, hca, hCa⟩ := Kd.R_reads hr
      have C1 := Aside0.mk hCa
      have L1 := Aside0.mk hca
      clear hr hCa hca
      have nx_ := Aside0.mk (blk_below BKx.out hb)
      have ny_ := Aside0.mk (blk_below BKy.out hb)
      have nz_ := Aside0.mk (blk_below BKz.out hb)
      have nb_ := Aside0.mk (below_step HB.out hb)
      clear BKx BKy BKz HB 
      have BKx := nx_
      have BKy := ny_
      have BKz := nz_
      have HB := nb_
      clear nx_ ny_ nz_ nb_  hb
      refine hK.out _ _ ⟨(blk_cell BKx.out 0).trans rfl, (blk_cell BKx.out 1).trans rfl, (blk_cell BKx.out 2).trans rfl, (blk_cell BKx.out 3).trans rfl, (blk_cell BKx.out 4).trans rfl, (blk_cell BKx.out 5).trans rfl, (blk_cell BKx.out 6).trans rfl, (blk_cell BKx.out 7).trans rfl, (blk_cell BKx.out 8).trans rfl, (blk_cell BKx.out 9).trans rfl, (blk_cell BKy.out 0).trans rfl, (blk_cell BKy.out 1).trans rfl, (blk_cell BKy.out 2).trans rfl, (blk_cell BKy.out 3).trans rfl, (blk_cell BKy.out 4).trans rfl, (blk_cell BKy.out 5).trans rfl, (blk_cell BKy.out 6).trans rfl, (blk_cell BKy.out 7).trans rfl, (blk_cell BKy.out 8).trans rfl, (blk_cell BKy.out 9).trans rfl, (blk_cell BKz.out 0).trans rfl, (blk_cell BKz.out 1).trans rfl, (blk_cell BKz.out 2).trans rfl, (blk_cell BKz.out 3).trans rfl, (blk_cell BKz.out 4).trans rfl, (blk_cell BKz.out 5).trans rfl, (blk_cell BKz.out 6).trans rfl, (blk_cell BKz.out 7).trans rfl, (blk_cell BKz.out 8).trans rfl, (blk_cell BKz.out 9).trans rfl⟩ (fun hHeld => ?_)
      clear hK K
      refine norm_ (a' := ?_) ?_ ?_
      rotate_left
      · show Act.put _ (some 15) _ = _
        simp only [Act.put, List.setIfInBounds_toArray, List.set_cons_zero, List.set_cons_succ, i64_w, i32_w]
        rfl
      refine one_ (i := 10) (N := some 17) #[true, true, true, true, true, true, true, true, true, true, true, false, false, false, false, false, false, false, false, false, false, false, false, false, false, false, false, false, false, false, false, false, false] rfl rfl (by kernel_rfl) (by decide) (fun K hK => ?_)
      refine goes_ Try.func85 (by kernel_rfl) rfl #[.agg #[.int .u64 x.f0, .int .u64 x.f1, .string x.f2, .int .i64 x.f3, .string x.f4, .string x.f5, .int .u64 x.f6, .int .i64 x.f7, .slice xA8 x.f8.length xc8, .slice xA9 x.f9.length xc9]] (by rfl) rfl rfl (by first | (simp only [List.map_toArray, List.map_cons, List.map_nil]; done) | (simp only [List.map_toArray, List.map_cons, List.map_nil]; rfl)) ?_
      with_reducible refine (rshow_c x xA8 xc8 xA9 xc9 _ (Rx.out.below HB.out) (OK.out x (by simp))).mono ?_
      rintro e w9 ⟨v9, rfl, hr, hb⟩
      refine ⟨_, rfl, ?_⟩
      obtain ⟨Ab, cb, rfl, hcb, hCb⟩ := Kd.R_reads hr
      have C2 := Aside0.mk hCb
      have L2 := Aside0.mk hcb
      clear hr hCb hcb
      have nx_ := Aside0.mk (blk_below BKx.out hb)
      have ny_ := Aside0.mk (blk_below BKy.out hb)
      have nz_ := Aside0.mk (blk_below BKz.out hb)
      have nb_ := Aside0.mk (below_step HB.out hb)
      have nC1_ := Aside0.mk (Kd.C_below C1.out hb)
      clear BKx BKy BKz HB C1
      have BKx := nx_
      have BKy := ny_
      have BKz := nz_
      have HB := nb_
      have C1 := nC1_
      clear nx_ ny_ nz_ nb_ nC1_ hb
      refine hK.out _ _ ⟨(blk_cell BKx.out 0).trans rfl, (blk_cell BKx.out 1).trans rfl, (blk_cell BKx.out 2).trans rfl, (blk_cell BKx.out 3).trans rfl, (blk_cell BKx.out 4).trans rfl, (blk_cell BKx.out 5).trans rfl, (blk_cell BKx.out 6).trans rfl, (blk_cell BKx.out 7).trans rfl, (blk_cell BKx.out 8).trans rfl, (blk_cell BKx.out 9).trans rfl, (blk_cell BKy.out 0).trans rfl, (blk_cell BKy.out 1).trans rfl, (blk_cell BKy.out 2).trans rfl, (blk_cell BKy.out 3).trans rfl, (blk_cell BKy.out 4).trans rfl, (blk_cell BKy.out 5).trans rfl, (blk_cell BKy.out 6).trans rfl, (blk_cell BKy.out 7).trans rfl, (blk_cell BKy.out 8).trans rfl, (blk_cell BKy.out 9).trans rfl, (blk_cell BKz.out 0).trans rfl, (blk_cell BKz.out 1).trans rfl, (blk_cell BKz.out 2).trans rfl, (blk_cell BKz.out 3).trans rfl, (blk_cell BKz.out 4).trans rfl, (blk_cell BKz.out 5).trans rfl, (blk_cell BKz.out 6).trans rfl, (blk_cell BKz.out 7).trans rfl, (blk_cell BKz.out 8).trans rfl, (blk_cell BKz.out 9).trans rfl⟩ (fun hHeld => ?_)
      clear hK K
      refine norm_ (a' := ?_) ?_ ?_
      rotate_left
      · show Act.put _ (some 17) _ = _
        simp only [Act.put, List.setIfInBounds_toArray, List.set_cons_zero, List.set_cons_succ, i64_w, i32_w]
        rfl
      refine one_ (i := 11) (N := some 18) #[true, true, true, true, true, true, true, true, true, true, true, true, false, false, false, false, false, false, false, false, false, false, false, false, false, false, false, false, false, false, false, false, false] rfl rfl (by kernel_rfl) (by decide) (fun K hK => ?_)
      refine goes_ Try.func29 (by kernel_rfl) rfl #[.slice Aa (showP x).length ca, .slice Ab (showP x).length cb] (by rfl) rfl rfl (by first | (simp only [List.map_toArray, List.map_cons, List.map_nil]; done) | (simp only [List.map_toArray, List.map_cons, List.map_nil]; rfl)) ?_
      with_reducible refine (bsame_t Aa ca (showP x) Ab cb _ C1.out L1.out C2.out L2.out (by rw [showP_len]; have := (OK.out x (by simp)).bulk; omega)).mono ?_
      rintro e w10 ⟨rfl, hb⟩
      refine ⟨_, rfl, ?_⟩
      clear C1 C2
      have nx_ := Aside0.mk (blk_below BKx.out hb)
      have ny_ := Aside0.mk (blk_below BKy.out hb)
      have nz_ := Aside0.mk (blk_below BKz.out hb)
      have nb_ := Aside0.mk (below_step HB.out hb)
      clear BKx BKy BKz HB 
      have BKx := nx_
      have BKy := ny_
      have BKz := nz_
      have HB := nb_
      clear nx_ ny_ nz_ nb_  hb
      refine hK.out _ _ ⟨(blk_cell BKx.out 0).trans rfl, (blk_cell BKx.out 1).trans rfl, (blk_cell BKx.out 2).trans rfl, (blk_cell BKx.out 3).trans rfl, (blk_cell BKx.out 4).trans rfl, (blk_cell BKx.out 5).trans rfl, (blk_cell BKx.out 6).trans rfl, (blk_cell BKx.out 7).trans rfl, (blk_cell BKx.out 8).trans rfl, (blk_cell BKx.out 9).trans rfl, (blk_cell BKy.out 0).trans rfl, (blk_cell BKy.out 1).trans rfl, (blk_cell BKy.out 2).trans rfl, (blk_cell BKy.out 3).trans rfl, (blk_cell BKy.out 4).trans rfl, (blk_cell BKy.out 5).trans rfl, (blk_cell BKy.out 6).trans rfl, (blk_cell BKy.out 7).trans rfl, (blk_cell BKy.out 8).trans rfl, (blk_cell BKy.out 9).trans rfl, (blk_cell BKz.out 0).trans rfl, (blk_cell BKz.out 1).trans rfl, (blk_cell BKz.out 2).trans rfl, (blk_cell BKz.out 3).trans rfl, (blk_cell BKz.out 4).trans rfl, (blk_cell BKz.out 5).trans rfl, (blk_cell BKz.out 6).trans rfl, (blk_cell BKz.out 7).trans rfl, (blk_cell BKz.out 8).trans rfl, (blk_cell BKz.out 9).trans rfl⟩ (fun hHeld => ?_)
      clear hK K
      refine norm_ (a' := ?_) ?_ ?_
      rotate_left
      · show Act.put _ (some 18) _ = _
        simp only [Act.put, List.setIfInBounds_toArray, List.set_cons_zero, List.set_cons_succ, i64_w, i32_w]
        rfl
      refine pure_ (i := 12) (N := some 19) (v := ?_) (a' := ?_) #[true, true, true, true, true, true, true, true, true, true, true, true, true, false, false, false, false, false, false, false, false, false, false, false, false, false, false, false, false, false, false, false, false] rfl rfl (by kernel_rfl) (fun _ _ _ h => h) (Or.inl ⟨by rfl, ?_⟩) ?_ ?_
      rotate_left
      · intro w'
        go_simp
        with_reducible rfl
      rotate_left
      · simp only [Act.put, List.setIfInBounds_toArray, List.set_cons_zero, List.set_cons_succ, i64_w, i32_w]
        rfl
      refine take_ (i := 13) (N := some 20) (v := ?_) (a' := ?_) #[true, true, true, true, true, true, true, true, true, true, true, true, true, true, false, false, false, false, false, false, false, false, false, false, false, false, false, false, false, false, false, false, false] rfl rfl (by kernel_rfl) (fun _ _ _ h => h) (Or.inl ⟨by rfl, ?_⟩) hHeld ?_ ?_
      rotate_left
      · rintro w' ⟨s0, s1, s2, s3, s4, s5, s6, s7, s8, s9, s10, s11, s12, s13, s14, s15, s16, s17, s18, s19, s20, s21, s22, s23, s24, s25, s26, s27, s28, s29⟩
        go_simp
        with_reducible rfl
      rotate_left
      · simp only [Act.put, List.setIfInBounds_toArray, List.set_cons_zero, List.set_cons_succ, i64_w, i32_w]
        rfl
      refine take_ (i := 15) (N := some 22) (v := ?_) (a' := ?_) #[true, true, true, true, true, true, true, true, true, true, true, true, true, true, false, true, false, false, false, false, false, false, false, false, false, false, false, false, false, false, false, false, false] rfl rfl (by kernel_rfl) (fun _ _ _ h => h) (Or.inl ⟨by rfl, ?_⟩) hHeld ?_ ?_
      rotate_left
      · rintro w' ⟨s0, s1, s2, s3, s4, s5, s6, s7, s8, s9, s10, s11, s12, s13, s14, s15, s16, s17, s18, s19, s20, s21, s22, s23, s24, s25, s26, s27, s28, s29⟩
        go_simp
        with_reducible rfl
      rotate_left
      · simp only [Act.put, List.setIfInBounds_toArray, List.set_cons_zero, List.set_cons_succ, i64_w, i32_w]
        rfl
      refine one_ (i := 14) (N := some 21) #[true, true, true, true, true, true, true, true, true, true, true, true, true, true, true, true, false, false, false, false, false, false, false, false, false, false, false, false, false, false, false, false, false] rfl rfl (by kernel_rfl) (by decide) (fun K hK => ?_)
      refine goes_ Try.func81 (by kernel_rfl) rfl #[.agg #[.int .u64 x.f0, .int .u64 x.f1, .string x.f2, .int .i64 x.f3, .string x.f4, .string x.f5, .int .u64 x.f6, .int .i64 x.f7, .slice xA8 x.f8.length xc8, .slice xA9 x.f9.length xc9]] (by rfl) rfl rfl (by first | (simp only [List.map_toArray, List.map_cons, List.map_nil]; done) | (simp only [List.map_toArray, List.map_cons, List.map_nil]; rfl)) ?_
      with_reducible refine (dig_c x xA8 xc8 xA9 xc9 _ (Rx.out.below HB.out) (OK.out x (by simp))).mono ?_
      rintro e w11 ⟨v11, rfl, hr, hb⟩
      refine ⟨_, rfl, ?_⟩
      obtain ⟨Ac, cc, rfl, hca, hCa⟩ := Kd.R_reads hr
      have C3 := Aside0.mk hCa
      have L3 := Aside0.mk hca
      clear hr hCa hca
      have nx_ := Aside0.mk (blk_below BKx.out hb)
      have ny_ := Aside0.mk (blk_below BKy.out hb)
      have nz_ := Aside0.mk (blk_below BKz.out hb)
      have nb_ := Aside0.mk (below_step HB.out hb)
      clear BKx BKy BKz HB 
      have BKx := nx_
      have BKy := ny_
      have BKz := nz_
      have HB := nb_
      clear nx_ ny_ nz_ nb_  hb
      refine hK.out _ _ ⟨(blk_cell BKx.out 0).trans rfl, (blk_cell BKx.out 1).trans rfl, (blk_cell BKx.out 2).trans rfl, (blk_cell BKx.out 3).trans rfl, (blk_cell BKx.out 4).trans rfl, (blk_cell BKx.out 5).trans rfl, (blk_cell BKx.out 6).trans rfl, (blk_cell BKx.out 7).trans rfl, (blk_cell BKx.out 8).trans rfl, (blk_cell BKx.out 9).trans rfl, (blk_cell BKy.out 0).trans rfl, (blk_cell BKy.out 1).trans rfl, (blk_cell BKy.out 2).trans rfl, (blk_cell BKy.out 3).trans rfl, (blk_cell BKy.out 4).trans rfl, (blk_cell BKy.out 5).trans rfl, (blk_cell BKy.out 6).trans rfl, (blk_cell BKy.out 7).trans rfl, (blk_cell BKy.out 8).trans rfl, (blk_cell BKy.out 9).trans rfl, (blk_cell BKz.out 0).trans rfl, (blk_cell BKz.out 1).trans rfl, (blk_cell BKz.out 2).trans rfl, (blk_cell BKz.out 3).trans rfl, (blk_cell BKz.out 4).trans rfl, (blk_cell BKz.out 5).trans rfl, (blk_cell BKz.out 6).trans rfl, (blk_cell BKz.out 7).trans rfl, (blk_cell BKz.out 8).trans rfl, (blk_cell BKz.out 9).trans rfl⟩ (fun hHeld => ?_)
      clear hK K
      refine norm_ (a' := ?_) ?_ ?_
      rotate_left
      · show Act.put _ (some 21) _ = _
        simp only [Act.put, List.setIfInBounds_toArray, List.set_cons_zero, List.set_cons_succ, i64_w, i32_w]
        rfl
      refine one_ (i := 16) (N := some 23) #[true, true, true, true, true, true, true, true, true, true, true, true, true, true, true, true, true, false, false, false, false, false, false, false, false, false, false, false, false, false, false, false, false] rfl rfl (by kernel_rfl) (by decide) (fun K hK => ?_)
      refine goes_ Try.func82 (by kernel_rfl) rfl #[.agg #[.int .u64 x.f0, .int .u64 x.f1, .string x.f2, .int .i64 x.f3, .string x.f4, .string x.f5, .int .u64 x.f6, .int .i64 x.f7, .slice xA8 x.f8.length xc8, .slice xA9 x.f9.length xc9]] (by rfl) rfl rfl (by first | (simp only [List.map_toArray, List.map_cons, List.map_nil]; done) | (simp only [List.map_toArray, List.map_cons, List.map_nil]; rfl)) ?_
      with_reducible refine (rdig_c x xA8 xc8 xA9 xc9 _ (Rx.out.below HB.out) (OK.out x (by simp))).mono ?_
      rintro e w12 ⟨v12, rfl, hr, hb⟩
      refine ⟨_, rfl, ?_⟩
      obtain ⟨Ad, cd, rfl, hcb, hCb⟩ := Kd.R_reads hr
      have C4 := Aside0.mk hCb
      have L4 := Aside0.mk hcb
      clear hr hCb hcb
      have nx_ := Aside0.mk (blk_below BKx.out hb)
      have ny_ := Aside0.mk (blk_below BKy.out hb)
      have nz_ := Aside0.mk (blk_below BKz.out hb)
      have nb_ := Aside0.mk (below_step HB.out hb)
      have nC3_ := Aside0.mk (Kd.C_below C3.out hb)
      clear BKx BKy BKz HB C3
      have BKx := nx_
      have BKy := ny_
      have BKz := nz_
      have HB := nb_
      have C3 := nC3_
      clear nx_ ny_ nz_ nb_ nC3_ hb
      refine hK.out _ _ ⟨(blk_cell BKx.out 0).trans rfl, (blk_cell BKx.out 1).trans rfl, (blk_cell BKx.out 2).trans rfl, (blk_cell BKx.out 3).trans rfl, (blk_cell BKx.out 4).trans rfl, (blk_cell BKx.out 5).trans rfl, (blk_cell BKx.out 6).trans rfl, (blk_cell BKx.out 7).trans rfl, (blk_cell BKx.out 8).trans rfl, (blk_cell BKx.out 9).trans rfl, (blk_cell BKy.out 0).trans rfl, (blk_cell BKy.out 1).trans rfl, (blk_cell BKy.out 2).trans rfl, (blk_cell BKy.out 3).trans rfl, (blk_cell BKy.out 4).trans rfl, (blk_cell BKy.out 5).trans rfl, (blk_cell BKy.out 6).trans rfl, (blk_cell BKy.out 7).trans rfl, (blk_cell BKy.out 8).trans rfl, (blk_cell BKy.out 9).trans rfl, (blk_cell BKz.out 0).trans rfl, (blk_cell BKz.out 1).trans rfl, (blk_cell BKz.out 2).trans rfl, (blk_cell BKz.out 3).trans rfl, (blk_cell BKz.out 4).trans rfl, (blk_cell BKz.out 5).trans rfl, (blk_cell BKz.out 6).trans rfl, (blk_cell BKz.out 7).trans rfl, (blk_cell BKz.out 8).trans rfl, (blk_cell BKz.out 9).trans rfl⟩ (fun hHeld => ?_)
      clear hK K
      refine norm_ (a' := ?_) ?_ ?_
      rotate_left
      · show Act.put _ (some 23) _ = _
        simp only [Act.put, List.setIfInBounds_toArray, List.set_cons_zero, List.set_cons_succ, i64_w, i32_w]
        rfl
      refine one_ (i := 17) (N := some 24) #[true, true, true, true, true, true, true, true, true, true, true, true, true, true, true, true, true, true, false, false, false, false, false, false, false, false, false, false, false, false, false, false, false] rfl rfl (by kernel_rfl) (by decide) (fun K hK => ?_)
      refine goes_ Try.func29 (by kernel_rfl) rfl #[.slice Ac (digP x).length cc, .slice Ad (digP x).length cd] (by rfl) rfl rfl (by first | (simp only [List.map_toArray, List.map_cons, List.map_nil]; done) | (simp only [List.map_toArray, List.map_cons, List.map_nil]; rfl)) ?_
      with_reducible refine (bsame_t Ac cc (digP x) Ad cd _ C3.out L3.out C4.out L4.out (by rw [digP_len]; omega)).mono ?_
      rintro e w13 ⟨rfl, hb⟩
      refine ⟨_, rfl, ?_⟩
      clear C3 C4
      have nx_ := Aside0.mk (blk_below BKx.out hb)
      have ny_ := Aside0.mk (blk_below BKy.out hb)
      have nz_ := Aside0.mk (blk_below BKz.out hb)
      have nb_ := Aside0.mk (below_step HB.out hb)
      clear BKx BKy BKz HB 
      have BKx := nx_
      have BKy := ny_
      have BKz := nz_
      have HB := nb_
      clear nx_ ny_ nz_ nb_  hb
      refine hK.out _ _ ⟨(blk_cell BKx.out 0).trans rfl, (blk_cell BKx.out 1).trans rfl, (blk_cell BKx.out 2).trans rfl, (blk_cell BKx.out 3).trans rfl, (blk_cell BKx.out 4).trans rfl, (blk_cell BKx.out 5).trans rfl, (blk_cell BKx.out 6).trans rfl, (blk_cell BKx.out 7).trans rfl, (blk_cell BKx.out 8).trans rfl, (blk_cell BKx.out 9).trans rfl, (blk_cell BKy.out 0).trans rfl, (blk_cell BKy.out 1).trans rfl, (blk_cell BKy.out 2).trans rfl, (blk_cell BKy.out 3).trans rfl, (blk_cell BKy.out 4).trans rfl, (blk_cell BKy.out 5).trans rfl, (blk_cell BKy.out 6).trans rfl, (blk_cell BKy.out 7).trans rfl, (blk_cell BKy.out 8).trans rfl, (blk_cell BKy.out 9).trans rfl, (blk_cell BKz.out 0).trans rfl, (blk_cell BKz.out 1).trans rfl, (blk_cell BKz.out 2).trans rfl, (blk_cell BKz.out 3).trans rfl, (blk_cell BKz.out 4).trans rfl, (blk_cell BKz.out 5).trans rfl, (blk_cell BKz.out 6).trans rfl, (blk_cell BKz.out 7).trans rfl, (blk_cell BKz.out 8).trans rfl, (blk_cell BKz.out 9).trans rfl⟩ (fun hHeld => ?_)
      clear hK K
      refine norm_ (a' := ?_) ?_ ?_
      rotate_left
      · show Act.put _ (some 24) _ = _
        simp only [Act.put, List.setIfInBounds_toArray, List.set_cons_zero, List.set_cons_succ, i64_w, i32_w]
        rfl
      refine pure_ (i := 18) (N := some 25) (v := ?_) (a' := ?_) #[true, true, true, true, true, true, true, true, true, true, true, true, true, true, true, true, true, true, true, false, false, false, false, false, false, false, false, false, false, false, false, false, false] rfl rfl (by kernel_rfl) (fun _ _ _ h => h) (Or.inl ⟨by rfl, ?_⟩) ?_ ?_
      rotate_left
      · intro w'
        go_simp
        with_reducible rfl
      rotate_left
      · simp only [Act.put, List.setIfInBounds_toArray, List.set_cons_zero, List.set_cons_succ, i64_w, i32_w]
        rfl
      refine pure_ (i := 19) (N := some 26) (v := ?_) (a' := ?_) #[true, true, true, true, true, true, true, true, true, true, true, true, true, true, true, true, true, true, true, true, false, false, false, false, false, false, false, false, false, false, false, false, false] rfl rfl (by kernel_rfl) (fun _ _ _ h => h) (Or.inl ⟨by rfl, ?_⟩) ?_ ?_
      rotate_left
      · intro w'
        go_simp
        with_reducible rfl
      rotate_left
      · simp only [Act.put, List.setIfInBounds_toArray, List.set_cons_zero, List.set_cons_succ, i64_w, i32_w]
        rfl
      refine take_ (i := 20) (N := some 27) (v := ?_) (a' := ?_) #[true, true, true, true, true, true, true, true, true, true, true, true, true, true, true, true, true, true, true, true, true, false, false, false, false, false, false, false, false, false, false, false, false] rfl rfl (by kernel_rfl) (fun _ _ _ h => h) (Or.inl ⟨by rfl, ?_⟩) hHeld ?_ ?_
      rotate_left
      · rintro w' ⟨s0, s1, s2, s3, s4, s5, s6, s7, s8, s9, s10, s11, s12, s13, s14, s15, s16, s17, s18, s19, s20, s21, s22, s23, s24, s25, s26, s27, s28, s29⟩
        go_simp
        with_reducible rfl
      rotate_left
      · simp only [Act.put, List.setIfInBounds_toArray, List.set_cons_zero, List.set_cons_succ, i64_w, i32_w]
        rfl
      refine take_ (i := 21) (N := some 28) (v := ?_) (a' := ?_) #[true, true, true, true, true, true, true, true, true, true, true, true, true, true, true, true, true, true, true, true, true, true, false, false, false, false, false, false, false, false, false, false, false] rfl rfl (by kernel_rfl) (fun _ _ _ h => h) (Or.inl ⟨by rfl, ?_⟩) hHeld ?_ ?_
      rotate_left
      · rintro w' ⟨s0, s1, s2, s3, s4, s5, s6, s7, s8, s9, s10, s11, s12, s13, s14, s15, s16, s17, s18, s19, s20, s21, s22, s23, s24, s25, s26, s27, s28, s29⟩
        go_simp
        with_reducible rfl
      rotate_left
      · simp only [Act.put, List.setIfInBounds_toArray, List.set_cons_zero, List.set_cons_succ, i64_w, i32_w]
        rfl
      refine take_ (i := 23) (N := some 30) (v := ?_) (a' := ?_) #[true, true, true, true, true, true, true, true, true, true, true, true, true, true, true, true, true, true, true, true, true, true, false, true, false, false, false, false, false, false, false, false, false] rfl rfl (by kernel_rfl) (fun _ _ _ h => h) (Or.inl ⟨by rfl, ?_⟩) hHeld ?_ ?_
      rotate_left
      · rintro w' ⟨s0, s1, s2, s3, s4, s5, s6, s7, s8, s9, s10, s11, s12, s13, s14, s15, s16, s17, s18, s19, s20, s21, s22, s23, s24, s25, s26, s27, s28, s29⟩
        go_simp
        with_reducible rfl
      rotate_left
      · simp only [Act.put, List.setIfInBounds_toArray, List.set_cons_zero, List.set_cons_succ, i64_w, i32_w]
        rfl
      refine take_ (i := 24) (N := some 31) (v := ?_) (a' := ?_) #[true, true, true, true, true, true, true, true, true, true, true, true, true, true, true, true, true, true, true, true, true, true, false, true, true, false, false, false, false, false, false, false, false] rfl rfl (by kernel_rfl) (fun _ _ _ h => h) (Or.inl ⟨by rfl, ?_⟩) hHeld ?_ ?_
      rotate_left
      · rintro w' ⟨s0, s1, s2, s3, s4, s5, s6, s7, s8, s9, s10, s11, s12, s13, s14, s15, s16, s17, s18, s19, s20, s21, s22, s23, s24, s25, s26, s27, s28, s29⟩
        go_simp
        with_reducible rfl
      rotate_left
      · simp only [Act.put, List.setIfInBounds_toArray, List.set_cons_zero, List.set_cons_succ, i64_w, i32_w]
        rfl
      refine one_ (i := 22) (N := some 29) #[true, true, true, true, true, true, true, true, true, true, true, true, true, true, true, true, true, true, true, true, true, true, true, true, true, false, false, false, false, false, false, false, false] rfl rfl (by kernel_rfl) (by decide) (fun K hK => ?_)
      refine goes_ Try.func86 (by kernel_rfl) rfl #[.agg #[.int .u64 y.f0, .int .u64 y.f1, .string y.f2, .int .i64 y.f3, .string y.f4, .string y.f5, .int .u64 y.f6, .int .i64 y.f7, .slice yA8 y.f8.length yc8, .slice yA9 y.f9.length yc9], .agg #[.int .u64 z.f0, .int .u64 z.f1, .string z.f2, .int .i64 z.f3, .string z.f4, .string z.f5, .int .u64 z.f6, .int .i64 z.f7, .slice zA8 z.f8.length zc8, .slice zA9 z.f9.length zc9]] (by rfl) rfl rfl (by first | (simp only [List.map_toArray, List.map_cons, List.map_nil]; done) | (simp only [List.map_toArray, List.map_cons, List.map_nil]; rfl)) ?_
      with_reducible refine ((show ∀ W, RecC W y yA8 yc8 yA9 yc9 → RecC W z zA8 zc8 zA9 zc9 → Calls Try.prog 86 #[.agg #[.int .u64 y.f0, .int .u64 y.f1, .string y.f2, .int .i64 y.f3, .string y.f4, .string y.f5, .int .u64 y.f6, .int .i64 y.f7, .slice yA8 y.f8.length yc8, .slice yA9 y.f9.length yc9], .agg #[.int .u64 z.f0, .int .u64 z.f1, .string z.f2, .int .i64 z.f3, .string z.f4, .string z.f5, .int .u64 z.f6, .int .i64 z.f7, .slice zA8 z.f8.length zc8, .slice zA9 z.f9.length zc9]] W fun e w' => e = .returned (.bool true) ∧ Below W.heap.size W w' from SQ.out) _ (Ry.out.below HB.out) (Rz.out.below HB.out)).mono ?_
      rintro e w14 ⟨rfl, hb⟩
      refine ⟨_, rfl, ?_⟩
      have nx_ := Aside0.mk (blk_below BKx.out hb)
      have ny_ := Aside0.mk (blk_below BKy.out hb)
      have nz_ := Aside0.mk (blk_below BKz.out hb)
      have nb_ := Aside0.mk (below_step HB.out hb)
      clear BKx BKy BKz HB 
      have BKx := nx_
      have BKy := ny_
      have BKz := nz_
      have HB := nb_
      clear nx_ ny_ nz_ nb_  hb
      refine hK.out _ _ ⟨(blk_cell BKx.out 0).trans rfl, (blk_cell BKx.out 1).trans rfl, (blk_cell BKx.out 2).trans rfl, (blk_cell BKx.out 3).trans rfl, (blk_cell BKx.out 4).trans rfl, (blk_cell BKx.out 5).trans rfl, (blk_cell BKx.out 6).trans rfl, (blk_cell BKx.out 7).trans rfl, (blk_cell BKx.out 8).trans rfl, (blk_cell BKx.out 9).trans rfl, (blk_cell BKy.out 0).trans rfl, (blk_cell BKy.out 1).trans rfl, (blk_cell BKy.out 2).trans rfl, (blk_cell BKy.out 3).trans rfl, (blk_cell BKy.out 4).trans rfl, (blk_cell BKy.out 5).trans rfl, (blk_cell BKy.out 6).trans rfl, (blk_cell BKy.out 7).trans rfl, (blk_cell BKy.out 8).trans rfl, (blk_cell BKy.out 9).trans rfl, (blk_cell BKz.out 0).trans rfl, (blk_cell BKz.out 1).trans rfl, (blk_cell BKz.out 2).trans rfl, (blk_cell BKz.out 3).trans rfl, (blk_cell BKz.out 4).trans rfl, (blk_cell BKz.out 5).trans rfl, (blk_cell BKz.out 6).trans rfl, (blk_cell BKz.out 7).trans rfl, (blk_cell BKz.out 8).trans rfl, (blk_cell BKz.out 9).trans rfl⟩ (fun hHeld => ?_)
      clear hK K
      refine norm_ (a' := ?_) ?_ ?_
      rotate_left
      · show Act.put _ (some 29) _ = _
        simp only [Act.put, List.setIfInBounds_toArray, List.set_cons_zero, List.set_cons_succ, i64_w, i32_w]
        rfl
      refine one_ (i := 25) (N := some 32) #[true, true, true, true, true, true, true, true, true, true, true, true, true, true, true, true, true, true, true, true, true, true, true, true, true, true, false, false, false, false, false, false, false] rfl rfl (by kernel_rfl) (by decide) (fun K hK => ?_)
      refine goes_ Try.func75 (by kernel_rfl) rfl #[.agg #[.int .u64 y.f0, .int .u64 y.f1, .string y.f2, .int .i64 y.f3, .string y.f4, .string y.f5, .int .u64 y.f6, .int .i64 y.f7, .slice yA8 y.f8.length yc8, .slice yA9 y.f9.length yc9], .agg #[.int .u64 z.f0, .int .u64 z.f1, .string z.f2, .int .i64 z.f3, .string z.f4, .string z.f5, .int .u64 z.f6, .int .i64 z.f7, .slice zA8 z.f8.length zc8, .slice zA9 z.f9.length zc9]] (by rfl) rfl rfl (by first | (simp only [List.map_toArray, List.map_cons, List.map_nil]; done) | (simp only [List.map_toArray, List.map_cons, List.map_nil]; rfl)) ?_
      with_reducible refine ((show ∀ W, RecC W y yA8 yc8 yA9 yc9 → RecC W z zA8 zc8 zA9 zc9 → Calls Try.prog 75 #[.agg #[.int .u64 y.f0, .int .u64 y.f1, .string y.f2, .int .i64 y.f3, .string y.f4, .string y.f5, .int .u64 y.f6, .int .i64 y.f7, .slice yA8 y.f8.length yc8, .slice yA9 y.f9.length yc9], .agg #[.int .u64 z.f0, .int .u64 z.f1, .string z.f2, .int .i64 z.f3, .string z.f4, .string z.f5, .int .u64 z.f6, .int .i64 z.f7, .slice zA8 z.f8.length zc8, .slice zA9 z.f9.length zc9]] W fun e w' => e = .returned (.bool true) ∧ Below W.heap.size W w' from SR.out) _ (Ry.out.below HB.out) (Rz.out.below HB.out)).mono ?_
      rintro e w15 ⟨rfl, hb⟩
      refine ⟨_, rfl, ?_⟩
      have nx_ := Aside0.mk (blk_below BKx.out hb)
      have ny_ := Aside0.mk (blk_below BKy.out hb)
      have nz_ := Aside0.mk (blk_below BKz.out hb)
      have nb_ := Aside0.mk (below_step HB.out hb)
      clear BKx BKy BKz HB 
      have BKx := nx_
      have BKy := ny_
      have BKz := nz_
      have HB := nb_
      clear nx_ ny_ nz_ nb_  hb
      refine hK.out _ _ ⟨(blk_cell BKx.out 0).trans rfl, (blk_cell BKx.out 1).trans rfl, (blk_cell BKx.out 2).trans rfl, (blk_cell BKx.out 3).trans rfl, (blk_cell BKx.out 4).trans rfl, (blk_cell BKx.out 5).trans rfl, (blk_cell BKx.out 6).trans rfl, (blk_cell BKx.out 7).trans rfl, (blk_cell BKx.out 8).trans rfl, (blk_cell BKx.out 9).trans rfl, (blk_cell BKy.out 0).trans rfl, (blk_cell BKy.out 1).trans rfl, (blk_cell BKy.out 2).trans rfl, (blk_cell BKy.out 3).trans rfl, (blk_cell BKy.out 4).trans rfl, (blk_cell BKy.out 5).trans rfl, (blk_cell BKy.out 6).trans rfl, (blk_cell BKy.out 7).trans rfl, (blk_cell BKy.out 8).trans rfl, (blk_cell BKy.out 9).trans rfl, (blk_cell BKz.out 0).trans rfl, (blk_cell BKz.out 1).trans rfl, (blk_cell BKz.out 2).trans rfl, (blk_cell BKz.out 3).trans rfl, (blk_cell BKz.out 4).trans rfl, (blk_cell BKz.out 5).trans rfl, (blk_cell BKz.out 6).trans rfl, (blk_cell BKz.out 7).trans rfl, (blk_cell BKz.out 8).trans rfl, (blk_cell BKz.out 9).trans rfl⟩ (fun hHeld => ?_)
      clear hK K
      refine norm_ (a' := ?_) ?_ ?_
      rotate_left
      · show Act.put _ (some 32) _ = _
        simp only [Act.put, List.setIfInBounds_toArray, List.set_cons_zero, List.set_cons_succ, i64_w, i32_w]
        rfl
      refine pure_ (i := 26) (N := some 33) (v := ?_) (a' := ?_) #[true, true, true, true, true, true, true, true, true, true, true, true, true, true, true, true, true, true, true, true, true, true, true, true, true, true, true, false, false, false, false, false, false] rfl rfl (by kernel_rfl) (fun _ _ _ h => h) (Or.inl ⟨by rfl, ?_⟩) ?_ ?_
      rotate_left
      · intro w'
        go_simp
        with_reducible rfl
      rotate_left
      · simp only [Act.put, List.setIfInBounds_toArray, List.set_cons_zero, List.set_cons_succ, i64_w, i32_w]
        rfl
      refine pure_ (i := 27) (N := some 34) (v := ?_) (a' := ?_) #[true, true, true, true, true, true, true, true, true, true, true, true, true, true, true, true, true, true, true, true, true, true, true, true, true, true, true, true, false, false, false, false, false] rfl rfl (by kernel_rfl) (fun _ _ _ h => h) (Or.inl ⟨by rfl, ?_⟩) ?_ ?_
      rotate_left
      · intro w'
        go_simp
        with_reducible rfl
      rotate_left
      · simp only [Act.put, List.setIfInBounds_toArray, List.set_cons_zero, List.set_cons_succ, i64_w, i32_w]
        rfl
      refine pure_ (i := 28) (N := some 35) (v := ?_) (a' := ?_) #[true, true, true, true, true, true, true, true, true, true, true, true, true, true, true, true, true, true, true, true, true, true, true, true, true, true, true, true, true, false, false, false, false] rfl rfl (by kernel_rfl) (fun _ _ _ h => h) (Or.inl ⟨by rfl, ?_⟩) ?_ ?_
      rotate_left
      · intro w'
        go_simp
        with_reducible rfl
      rotate_left
      · simp only [Act.put, List.setIfInBounds_toArray, List.set_cons_zero, List.set_cons_succ, i64_w, i32_w]
        rfl
      refine one_ (i := 29) (N := some 36) #[true, true, true, true, true, true, true, true, true, true, true, true, true, true, true, true, true, true, true, true, true, true, true, true, true, true, true, true, true, true, false, false, false] rfl rfl (by kernel_rfl) (by decide) (fun K hK => ?_)
      refine goes_ Try.func74 (by kernel_rfl) rfl #[] (by rfl) rfl rfl (by first | (simp only [List.map_toArray, List.map_cons, List.map_nil]; done) | (simp only [List.map_toArray, List.map_cons, List.map_nil]; rfl)) ?_
      with_reducible refine (alive14 _).mono ?_
      rintro e w16 ⟨rfl, hb⟩
      refine ⟨_, rfl, ?_⟩
      have nx_ := Aside0.mk (blk_below BKx.out hb)
      have ny_ := Aside0.mk (blk_below BKy.out hb)
      have nz_ := Aside0.mk (blk_below BKz.out hb)
      have nb_ := Aside0.mk (below_step HB.out hb)
      clear BKx BKy BKz HB 
      have BKx := nx_
      have BKy := ny_
      have BKz := nz_
      have HB := nb_
      clear nx_ ny_ nz_ nb_  hb
      refine hK.out _ _ ⟨(blk_cell BKx.out 0).trans rfl, (blk_cell BKx.out 1).trans rfl, (blk_cell BKx.out 2).trans rfl, (blk_cell BKx.out 3).trans rfl, (blk_cell BKx.out 4).trans rfl, (blk_cell BKx.out 5).trans rfl, (blk_cell BKx.out 6).trans rfl, (blk_cell BKx.out 7).trans rfl, (blk_cell BKx.out 8).trans rfl, (blk_cell BKx.out 9).trans rfl, (blk_cell BKy.out 0).trans rfl, (blk_cell BKy.out 1).trans rfl, (blk_cell BKy.out 2).trans rfl, (blk_cell BKy.out 3).trans rfl, (blk_cell BKy.out 4).trans rfl, (blk_cell BKy.out 5).trans rfl, (blk_cell BKy.out 6).trans rfl, (blk_cell BKy.out 7).trans rfl, (blk_cell BKy.out 8).trans rfl, (blk_cell BKy.out 9).trans rfl, (blk_cell BKz.out 0).trans rfl, (blk_cell BKz.out 1).trans rfl, (blk_cell BKz.out 2).trans rfl, (blk_cell BKz.out 3).trans rfl, (blk_cell BKz.out 4).trans rfl, (blk_cell BKz.out 5).trans rfl, (blk_cell BKz.out 6).trans rfl, (blk_cell BKz.out 7).trans rfl, (blk_cell BKz.out 8).trans rfl, (blk_cell BKz.out 9).trans rfl⟩ (fun hHeld => ?_)
      clear hK K
      refine norm_ (a' := ?_) ?_ ?_
      rotate_left
      · show Act.put _ (some 36) _ = _
        simp only [Act.put, List.setIfInBounds_toArray, List.set_cons_zero, List.set_cons_succ, i64_w, i32_w]
        rfl
      refine pure_ (i := 30) (N := some 37) (v := ?_) (a' := ?_) #[true, true, true, true, true, true, true, true, true, true, true, true, true, true, true, true, true, true, true, true, true, true, true, true, true, true, true, true, true, true, true, false, false] rfl rfl (by kernel_rfl) (fun _ _ _ h => h) (Or.inl ⟨by rfl, ?_⟩) ?_ ?_
      rotate_left
      · intro w'
        go_simp
        with_reducible rfl
      rotate_left
      · simp only [Act.put, List.setIfInBounds_toArray, List.set_cons_zero, List.set_cons_succ, i64_w, i32_w]
        rfl
      refine pure_ (i := 31) (N := some 38) (v := ?_) (a' := ?_) #[true, true, true, true, true, true, true, true, true, true, true, true, true, true, true, true, true, true, true, true, true, true, true, true, true, true, true, true, true, true, true, true, false] rfl rfl (by kernel_rfl) (fun _ _ _ h => h) (Or.inl ⟨by rfl, ?_⟩) ?_ ?_
      rotate_left
      · intro w'
        go_simp
        with_reducible rfl
      rotate_left
      · simp only [Act.put, List.setIfInBounds_toArray, List.set_cons_zero, List.set_cons_succ, i64_w, i32_w]
        rfl
      refine pure_ (i := 32) (N := some 6) (v := ?_) (a' := ?_) #[true, true, true, true, true, true, true, true, true, true, true, true, true, true, true, true, true, true, true, true, true, true, true, true, true, true, true, true, true, true, true, true, true] rfl rfl (by kernel_rfl) (fun _ _ _ h => h) (Or.inl ⟨by rfl, ?_⟩) ?_ ?_
      rotate_left
      · intro w'
        go_simp
        with_reducible rfl
      rotate_left
      · simp only [Act.put, List.setIfInBounds_toArray, List.set_cons_zero, List.set_cons_succ, i64_w, i32_w]
        rfl
      refine done_ (by kernel_rfl) ?_
      go_wp2
      go_ret
      exact ⟨rfl, HB.out⟩
  | false =>
    have HL := Aside0.mk hl
    clear hx hy hz hs hk hl
    go_enter Try.func19, Try.ntmps19
    go_wp2_with (first
      | ((with_reducible refine gate_dst (N := 3) rfl ?_); refine box_event ?hg (N := 3) ?hd (cs := #[.int .u64 x.f0, .int .u64 x.f1, .string x.f2, .int .i64 x.f3, .string x.f4, .string x.f5, .int .u64 x.f6, .int .i64 x.f7, .slice xA8 x.f8.length xc8, .slice xA9 x.f9.length xc9]) (t := 69) ?hr ?_; (case hd => rfl); (case hg => rfl); (case hr => first | (go_simp; done) | (go_simp; rfl)); intro gx hg w3 hbox hb; have BKx := Aside0.mk hbox; have nb_ := Aside0.mk (below_step HB.out hb); clear HB; have HB := nb_; clear nb_ hbox hb hg)
      | ((with_reducible refine gate_dst (N := 4) rfl ?_); refine box_event ?hg (N := 4) ?hd (cs := #[.int .u64 y.f0, .int .u64 y.f1, .string y.f2, .int .i64 y.f3, .string y.f4, .string y.f5, .int .u64 y.f6, .int .i64 y.f7, .slice yA8 y.f8.length yc8, .slice yA9 y.f9.length yc9]) (t := 69) ?hr ?_; (case hd => rfl); (case hg => rfl); (case hr => first | (go_simp; done) | (go_simp; rfl)); intro gy hg w4 hbox hb; have nx_ := Aside0.mk (blk_below BKx.out hb); clear BKx; have BKx := nx_; clear nx_; have BKy := Aside0.mk hbox; have nb_ := Aside0.mk (below_step HB.out hb); clear HB; have HB := nb_; clear nb_ hbox hb hg)
      | ((with_reducible refine gate_dst (N := 5) rfl ?_); refine box_event ?hg (N := 5) ?hd (cs := #[.int .u64 z.f0, .int .u64 z.f1, .string z.f2, .int .i64 z.f3, .string z.f4, .string z.f5, .int .u64 z.f6, .int .i64 z.f7, .slice zA8 z.f8.length zc8, .slice zA9 z.f9.length zc9]) (t := 69) ?hr ?_; (case hd => rfl); (case hg => rfl); (case hr => first | (go_simp; done) | (go_simp; rfl)); intro gz hg w5 hbox hb; have nx_ := Aside0.mk (blk_below BKx.out hb); clear BKx; have BKx := nx_; clear nx_; have ny_ := Aside0.mk (blk_below BKy.out hb); clear BKy; have BKy := ny_; clear ny_; have BKz := Aside0.mk hbox; have nb_ := Aside0.mk (below_step HB.out hb); clear HB; have HB := nb_; clear nb_ hbox hb hg))
    have nx_ := Aside0.mk (blk_drew BKx.out)
    have ny_ := Aside0.mk (blk_drew BKy.out)
    have nz_ := Aside0.mk (blk_drew BKz.out)
    have nb_ := Aside0.mk (below_drew1 HB.out)
    clear BKx BKy BKz HB
    have BKx := nx_
    have BKy := ny_
    have BKz := nz_
    have HB := nb_
    clear nx_ ny_ nz_ nb_
    refine start_ (n := 33) (S := fun w' => w'.cell? ⟨gx, 0, none⟩ = some (.int .u64 x.f0) ∧ w'.cell? ⟨gx, 1, none⟩ = some (.int .u64 x.f1) ∧ w'.cell? ⟨gx, 2, none⟩ = some (.string x.f2) ∧ w'.cell? ⟨gx, 3, none⟩ = some (.int .i64 x.f3) ∧ w'.cell? ⟨gx, 4, none⟩ = some (.string x.f4) ∧ w'.cell? ⟨gx, 5, none⟩ = some (.string x.f5) ∧ w'.cell? ⟨gx, 6, none⟩ = some (.int .u64 x.f6) ∧ w'.cell? ⟨gx, 7, none⟩ = some (.int .i64 x.f7) ∧ w'.cell? ⟨gx, 8, none⟩ = some (.slice xA8 x.f8.length xc8) ∧ w'.cell? ⟨gx, 9, none⟩ = some (.slice xA9 x.f9.length xc9) ∧ w'.cell? ⟨gy, 0, none⟩ = some (.int .u64 y.f0) ∧ w'.cell? ⟨gy, 1, none⟩ = some (.int .u64 y.f1) ∧ w'.cell? ⟨gy, 2, none⟩ = some (.string y.f2) ∧ w'.cell? ⟨gy, 3, none⟩ = some (.int .i64 y.f3) ∧ w'.cell? ⟨gy, 4, none⟩ = some (.string y.f4) ∧ w'.cell? ⟨gy, 5, none⟩ = some (.string y.f5) ∧ w'.cell? ⟨gy, 6, none⟩ = some (.int .u64 y.f6) ∧ w'.cell? ⟨gy, 7, none⟩ = some (.int .i64 y.f7) ∧ w'.cell? ⟨gy, 8, none⟩ = some (.slice yA8 y.f8.length yc8) ∧ w'.cell? ⟨gy, 9, none⟩ = some (.slice yA9 y.f9.length yc9) ∧ w'.cell? ⟨gz, 0, none⟩ = some (.int .u64 z.f0) ∧ w'.cell? ⟨gz, 1, none⟩ = some (.int .u64 z.f1) ∧ w'.cell? ⟨gz, 2, none⟩ = some (.string z.f2) ∧ w'.cell? ⟨gz, 3, none⟩ = some (.int .i64 z.f3) ∧ w'.cell? ⟨gz, 4, none⟩ = some (.string z.f4) ∧ w'.cell? ⟨gz, 5, none⟩ = some (.string z.f5) ∧ w'.cell? ⟨gz, 6, none⟩ = some (.int .u64 z.f6) ∧ w'.cell? ⟨gz, 7, none⟩ = some (.int .i64 z.f7) ∧ w'.cell? ⟨gz, 8, none⟩ = some (.slice zA8 z.f8.length zc8) ∧ w'.cell? ⟨gz, 9, none⟩ = some (.slice zA9 z.f9.length zc9)) (ds := []) #[false, false, false, false, false, false, false, false, false, false, false, false, false, false, false, false, false, false, false, false, false, false, false, false, false, false, false, false, false, false, false, false, false] (by kernel_rfl) rfl rfl ⟨(blk_cell BKx.out 0).trans rfl, (blk_cell BKx.out 1).trans rfl, (blk_cell BKx.out 2).trans rfl, (blk_cell BKx.out 3).trans rfl, (blk_cell BKx.out 4).trans rfl, (blk_cell BKx.out 5).trans rfl, (blk_cell BKx.out 6).trans rfl, (blk_cell BKx.out 7).trans rfl, (blk_cell BKx.out 8).trans rfl, (blk_cell BKx.out 9).trans rfl, (blk_cell BKy.out 0).trans rfl, (blk_cell BKy.out 1).trans rfl, (blk_cell BKy.out 2).trans rfl, (blk_cell BKy.out 3).trans rfl, (blk_cell BKy.out 4).trans rfl, (blk_cell BKy.out 5).trans rfl, (blk_cell BKy.out 6).trans rfl, (blk_cell BKy.out 7).trans rfl, (blk_cell BKy.out 8).trans rfl, (blk_cell BKy.out 9).trans rfl, (blk_cell BKz.out 0).trans rfl, (blk_cell BKz.out 1).trans rfl, (blk_cell BKz.out 2).trans rfl, (blk_cell BKz.out 3).trans rfl, (blk_cell BKz.out 4).trans rfl, (blk_cell BKz.out 5).trans rfl, (blk_cell BKz.out 6).trans rfl, (blk_cell BKz.out 7).trans rfl, (blk_cell BKz.out 8).trans rfl, (blk_cell BKz.out 9).trans rfl⟩ (fun hHeld => ?_)
    generalize w5.drew = wd at BKx BKy BKz HB hHeld ⊢
    refine take_ (i := 0) (N := some 7) (v := ?_) (a' := ?_) #[true, false, false, false, false, false, false, false, false, false, false, false, false, false, false, false, false, false, false, false, false, false, false, false, false, false, false, false, false, false, false, false, false] rfl rfl (by kernel_rfl) (fun _ _ _ h => h) (Or.inl ⟨by rfl, ?_⟩) hHeld ?_ ?_
    rotate_left
    · rintro w' ⟨s0, s1, s2, s3, s4, s5, s6, s7, s8, s9, s10, s11, s12, s13, s14, s15, s16, s17, s18, s19, s20, s21, s22, s23, s24, s25, s26, s27, s28, s29⟩
      go_simp
      with_reducible rfl
    rotate_left
    · simp only [Act.put, List.setIfInBounds_toArray, List.set_cons_zero, List.set_cons_succ, i64_w, i32_w]
      rfl
    refine take_ (i := 1) (N := some 8) (v := ?_) (a' := ?_) #[true, true, false, false, false, false, false, false, false, false, false, false, false, false, false, false, false, false, false, false, false, false, false, false, false, false, false, false, false, false, false, false, false] rfl rfl (by kernel_rfl) (fun _ _ _ h => h) (Or.inl ⟨by rfl, ?_⟩) hHeld ?_ ?_
    rotate_left
    · rintro w' ⟨s0, s1, s2, s3, s4, s5, s6, s7, s8, s9, s10, s11, s12, s13, s14, s15, s16, s17, s18, s19, s20, s21, s22, s23, s24, s25, s26, s27, s28, s29⟩
      go_simp
      with_reducible rfl
    rotate_left
    · simp only [Act.put, List.setIfInBounds_toArray, List.set_cons_zero, List.set_cons_succ, i64_w, i32_w]
      rfl
    refine take_ (i := 2) (N := some 9) (v := ?_) (a' := ?_) #[true, true, true, false, false, false, false, false, false, false, false, false, false, false, false, false, false, false, false, false, false, false, false, false, false, false, false, false, false, false, false, false, false] rfl rfl (by kernel_rfl) (fun _ _ _ h => h) (Or.inl ⟨by rfl, ?_⟩) hHeld ?_ ?_
    rotate_left
    · rintro w' ⟨s0, s1, s2, s3, s4, s5, s6, s7, s8, s9, s10, s11, s12, s13, s14, s15, s16, s17, s18, s19, s20, s21, s22, s23, s24, s25, s26, s27, s28, s29⟩
      go_simp
      with_reducible rfl
    rotate_left
    · simp only [Act.put, List.setIfInBounds_toArray, List.set_cons_zero, List.set_cons_succ, i64_w, i32_w]
      rfl
    refine one_ (i := 3) (N := some 10) #[true, true, true, true, false, false, false, false, false, false, false, false, false, false, false, false, false, false, false, false, false, false, false, false, false, false, false, false, false, false, false, false, false] rfl rfl (by kernel_rfl) (by decide) (fun K hK => ?_)
    refine value_ (w1 := wd.alloc (.cells #[.int .u64 x.f0, .int .u64 x.f1, .string x.f2, .int .i64 x.f3, .string x.f4, .string x.f5, .int .u64 x.f6, .int .i64 x.f7, .slice xA8 x.f8.length xc8, .slice xA9 x.f9.length xc9, .int .u64 y.f0, .int .u64 y.f1, .string y.f2, .int .i64 y.f3, .string y.f4, .string y.f5, .int .u64 y.f6, .int .i64 y.f7, .slice yA8 y.f8.length yc8, .slice yA9 y.f9.length yc9, .int .u64 z.f0, .int .u64 z.f1, .string z.f2, .int .i64 z.f3, .string z.f4, .string z.f5, .int .u64 z.f6, .int .i64 z.f7, .slice zA8 z.f8.length zc8, .slice zA9 z.f9.length zc9] 69)) (v := .slice (some ⟨wd.heap.size, 0, none⟩) 3 3) (by rfl) rfl ?_ ?_
    · go_simp
      try rfl
    have hbx := blk_new wd (.cells #[.int .u64 x.f0, .int .u64 x.f1, .string x.f2, .int .i64 x.f3, .string x.f4, .string x.f5, .int .u64 x.f6, .int .i64 x.f7, .slice xA8 x.f8.length xc8, .slice xA9 x.f9.length xc9, .int .u64 y.f0, .int .u64 y.f1, .string y.f2, .int .i64 y.f3, .string y.f4, .string y.f5, .int .u64 y.f6, .int .i64 y.f7, .slice yA8 y.f8.length yc8, .slice yA9 y.f9.length yc9, .int .u64 z.f0, .int .u64 z.f1, .string z.f2, .int .i64 z.f3, .string z.f4, .string z.f5, .int .u64 z.f6, .int .i64 z.f7, .slice zA8 z.f8.length zc8, .slice zA9 z.f9.length zc9] 69)
    have hbb := below_alloc (Below.refl wd.heap.size wd) (.cells #[.int .u64 x.f0, .int .u64 x.f1, .string x.f2, .int .i64 x.f3, .string x.f4, .string x.f5, .int .u64 x.f6, .int .i64 x.f7, .slice xA8 x.f8.length xc8, .slice xA9 x.f9.length xc9, .int .u64 y.f0, .int .u64 y.f1, .string y.f2, .int .i64 y.f3, .string y.f4, .string y.f5, .int .u64 y.f6, .int .i64 y.f7, .slice yA8 y.f8.length yc8, .slice yA9 y.f9.length yc9, .int .u64 z.f0, .int .u64 z.f1, .string z.f2, .int .i64 z.f3, .string z.f4, .string z.f5, .int .u64 z.f6, .int .i64 z.f7, .slice zA8 z.f8.length zc8, .slice zA9 z.f9.length zc9] 69)
    generalize wd.alloc (.cells #[.int .u64 x.f0, .int .u64 x.f1, .string x.f2, .int .i64 x.f3, .string x.f4, .string x.f5, .int .u64 x.f6, .int .i64 x.f7, .slice xA8 x.f8.length xc8, .slice xA9 x.f9.length xc9, .int .u64 y.f0, .int .u64 y.f1, .string y.f2, .int .i64 y.f3, .string y.f4, .string y.f5, .int .u64 y.f6, .int .i64 y.f7, .slice yA8 y.f8.length yc8, .slice yA9 y.f9.length yc9, .int .u64 z.f0, .int .u64 z.f1, .string z.f2, .int .i64 z.f3, .string z.f4, .string z.f5, .int .u64 z.f6, .int .i64 z.f7, .slice zA8 z.f8.length zc8, .slice zA9 z.f9.length zc9] 69) = w6 at hbx hbb ⊢
    generalize hg6 : wd.heap.size = g6 at hbx ⊢
    have K6 := Aside0.mk (lit3 w6 g6 69 x xA8 xc8 xA9 xc9 y yA8 yc8 yA9 yc9 z zA8 zc8 zA9 zc9 hbx (Rx.out.below (below_step HB.out hbb)) (Ry.out.below (below_step HB.out hbb)) (Rz.out.below (below_step HB.out hbb)))
    clear hbx hg6
    have nx_ := Aside0.mk (blk_below BKx.out hbb)
    have ny_ := Aside0.mk (blk_below BKy.out hbb)
    have nz_ := Aside0.mk (blk_below BKz.out hbb)
    have nb_ := Aside0.mk (below_step HB.out hbb)
    clear BKx BKy BKz HB 
    have BKx := nx_
    have BKy := ny_
    have BKz := nz_
    have HB := nb_
    clear nx_ ny_ nz_ nb_  hbb
    refine hK.out _ _ ⟨(blk_cell BKx.out 0).trans rfl, (blk_cell BKx.out 1).trans rfl, (blk_cell BKx.out 2).trans rfl, (blk_cell BKx.out 3).trans rfl, (blk_cell BKx.out 4).trans rfl, (blk_cell BKx.out 5).trans rfl, (blk_cell BKx.out 6).trans rfl, (blk_cell BKx.out 7).trans rfl, (blk_cell BKx.out 8).trans rfl, (blk_cell BKx.out 9).trans rfl, (blk_cell BKy.out 0).trans rfl, (blk_cell BKy.out 1).trans rfl, (blk_cell BKy.out 2).trans rfl, (blk_cell BKy.out 3).trans rfl, (blk_cell BKy.out 4).trans rfl, (blk_cell BKy.out 5).trans rfl, (blk_cell BKy.out 6).trans rfl, (blk_cell BKy.out 7).trans rfl, (blk_cell BKy.out 8).trans rfl, (blk_cell BKy.out 9).trans rfl, (blk_cell BKz.out 0).trans rfl, (blk_cell BKz.out 1).trans rfl, (blk_cell BKz.out 2).trans rfl, (blk_cell BKz.out 3).trans rfl, (blk_cell BKz.out 4).trans rfl, (blk_cell BKz.out 5).trans rfl, (blk_cell BKz.out 6).trans rfl, (blk_cell BKz.out 7).trans rfl, (blk_cell BKz.out 8).trans rfl, (blk_cell BKz.out 9).trans rfl⟩ (fun hHeld => ?_)
    clear hK K
    refine norm_ (a' := ?_) ?_ ?_
    rotate_left
    · show Act.put _ (some 10) _ = _
      simp only [Act.put, List.setIfInBounds_toArray, List.set_cons_zero, List.set_cons_succ, i64_w, i32_w]
      rfl
    refine one_ (i := 4) (N := some 11) #[true, true, true, true, true, false, false, false, false, false, false, false, false, false, false, false, false, false, false, false, false, false, false, false, false, false, false, false, false, false, false, false, false] rfl rfl (by kernel_rfl) (by decide) (fun K hK => ?_)
    refine goes_ Try.func73 (by kernel_rfl) rfl #[.slice (some ⟨g6, 0, none⟩) 3 3] (by rfl) rfl rfl (by first | (simp only [List.map_toArray, List.map_cons, List.map_nil]; done) | (simp only [List.map_toArray, List.map_cons, List.map_nil]; rfl)) ?_
    with_reducible refine (light3 g6 x y z false _ K6.out HS.out HL.out).mono ?_
    rintro e w7 ⟨rfl, hb⟩
    refine ⟨_, rfl, ?_⟩
    have nx_ := Aside0.mk (blk_below BKx.out hb)
    have ny_ := Aside0.mk (blk_below BKy.out hb)
    have nz_ := Aside0.mk (blk_below BKz.out hb)
    have nb_ := Aside0.mk (below_step HB.out hb)
    clear BKx BKy BKz HB 
    have BKx := nx_
    have BKy := ny_
    have BKz := nz_
    have HB := nb_
    clear nx_ ny_ nz_ nb_  hb
    refine hK.out _ _ ⟨(blk_cell BKx.out 0).trans rfl, (blk_cell BKx.out 1).trans rfl, (blk_cell BKx.out 2).trans rfl, (blk_cell BKx.out 3).trans rfl, (blk_cell BKx.out 4).trans rfl, (blk_cell BKx.out 5).trans rfl, (blk_cell BKx.out 6).trans rfl, (blk_cell BKx.out 7).trans rfl, (blk_cell BKx.out 8).trans rfl, (blk_cell BKx.out 9).trans rfl, (blk_cell BKy.out 0).trans rfl, (blk_cell BKy.out 1).trans rfl, (blk_cell BKy.out 2).trans rfl, (blk_cell BKy.out 3).trans rfl, (blk_cell BKy.out 4).trans rfl, (blk_cell BKy.out 5).trans rfl, (blk_cell BKy.out 6).trans rfl, (blk_cell BKy.out 7).trans rfl, (blk_cell BKy.out 8).trans rfl, (blk_cell BKy.out 9).trans rfl, (blk_cell BKz.out 0).trans rfl, (blk_cell BKz.out 1).trans rfl, (blk_cell BKz.out 2).trans rfl, (blk_cell BKz.out 3).trans rfl, (blk_cell BKz.out 4).trans rfl, (blk_cell BKz.out 5).trans rfl, (blk_cell BKz.out 6).trans rfl, (blk_cell BKz.out 7).trans rfl, (blk_cell BKz.out 8).trans rfl, (blk_cell BKz.out 9).trans rfl⟩ (fun hHeld => ?_)
    clear hK K
    refine norm_ (a' := ?_) ?_ ?_
    rotate_left
    · show Act.put _ (some 11) _ = _
      simp only [Act.put, List.setIfInBounds_toArray, List.set_cons_zero, List.set_cons_succ, i64_w, i32_w]
      rfl
    refine pure_ (i := 5) (N := some 12) (v := ?_) (a' := ?_) #[true, true, true, true, true, true, false, false, false, false, false, false, false, false, false, false, false, false, false, false, false, false, false, false, false, false, false, false, false, false, false, false, false] rfl rfl (by kernel_rfl) (fun _ _ _ h => h) (Or.inl ⟨by rfl, ?_⟩) ?_ ?_
    rotate_left
    · intro w'
      go_simp
      with_reducible rfl
    rotate_left
    · simp only [Act.put, List.setIfInBounds_toArray, List.set_cons_zero, List.set_cons_succ, i64_w, i32_w]
      rfl
    refine pure_ (i := 6) (N := some 13) (v := ?_) (a' := ?_) #[true, true, true, true, true, true, true, false, false, false, false, false, false, false, false, false, false, false, false, false, false, false, false, false, false, false, false, false, false, false, false, false, false] rfl rfl (by kernel_rfl) (fun _ _ _ h => h) (Or.inl ⟨by rfl, ?_⟩) ?_ ?_
    rotate_left
    · intro w'
      go_simp
      with_reducible rfl
    rotate_left
    · simp only [Act.put, List.setIfInBounds_toArray, List.set_cons_zero, List.set_cons_succ, i64_w, i32_w]
      rfl
    refine pure_ (i := 7) (N := some 14) (v := undef) (a' := ?_) #[true, true, true, true, true, true, true, true, false, false, false, false, false, false, false, false, false, false, false, false, false, false, false, false, false, false, false, false, false, false, false, false, false] rfl rfl (by kernel_rfl) (fun _ _ _ h => h) (Or.inr ⟨by rfl, rfl⟩) ?_ ?_
    rotate_left
    · simp only [Act.put, List.setIfInBounds_toArray, List.set_cons_zero, List.set_cons_succ, i64_w, i32_w]
      rfl
    refine pure_ (i := 8) (N := some 15) (v := undef) (a' := ?_) #[true, true, true, true, true, true, true, true, true, false, false, false, false, false, false, false, false, false, false, false, false, false, false, false, false, false, false, false, false, false, false, false, false] rfl rfl (by kernel_rfl) (fun _ _ _ h => h) (Or.inr ⟨by rfl, rfl⟩) ?_ ?_
    rotate_left
    · simp only [Act.put, List.setIfInBounds_toArray, List.set_cons_zero, List.set_cons_succ, i64_w, i32_w]
      rfl
    refine pure_ (i := 9) (N := some 16) (v := undef) (a' := ?_) #[true, true, true, true, true, true, true, true, true, true, false, false, false, false, false, false, false, false, false, false, false, false, false, false, false, false, false, false, false, false, false, false, false] rfl rfl (by kernel_rfl) (fun _ _ _ h => h) (Or.inr ⟨by rfl, rfl⟩) ?_ ?_
    rotate_left
    · simp only [Act.put, List.setIfInBounds_toArray, List.set_cons_zero, List.set_cons_succ, i64_w, i32_w]
      rfl
    refine pure_ (i := 10) (N := some 17) (v := undef) (a' := ?_) #[true, true, true, true, true, true, true, true, true, true, true, false, false, false, false, false, false, false, false, false, false, false, false, false, false, false, false, false, false, false, false, false, false] rfl rfl (by kernel_rfl) (fun _ _ _ h => h) (Or.inr ⟨by rfl, rfl⟩) ?_ ?_
    rotate_left
    · simp only [Act.put, List.setIfInBounds_toArray, List.set_cons_zero, List.set_cons_succ, i64_w, i32_w]
      rfl
    refine pure_ (i := 11) (N := some 18) (v := undef) (a' := ?_) #[true, true, true, true, true, true, true, true, true, true, true, true, false, false, false, false, false, false, false, false, false, false, false, false, false, false, false, false, false, false, false, false, false] rfl rfl (by kernel_rfl) (fun _ _ _ h => h) (Or.inr ⟨by rfl, rfl⟩) ?_ ?_
    rotate_left
    · simp only [Act.put, List.setIfInBounds_toArray, List.set_cons_zero, List.set_cons_succ, i64_w, i32_w]
      rfl
    refine pure_ (i := 12) (N := some 19) (v := undef) (a' := ?_) #[true, true, true, true, true, true, true, true, true, true, true, true, true, false, false, false, false, false, false, false, false, false, false, false, false, false, false, false, false, false, false, false, false] rfl rfl (by kernel_rfl) (fun _ _ _ h => h) (Or.inr ⟨by rfl, rfl⟩) ?_ ?_
    rotate_left
    · simp only [Act.put, List.setIfInBounds_toArray, List.set_cons_zero, List.set_cons_succ, i64_w, i32_w]
      rfl
    refine pure_ (i := 13) (N := some 20) (v := undef) (a' := ?_) #[true, true, true, true, true, true, true, true, true, true, true, true, true, true, false, false, false, false, false, false, false, false, false, false, false, false, false, false, false, false, false, false, false] rfl rfl (by kernel_rfl) (fun _ _ _ h => h) (Or.inr ⟨by rfl, rfl⟩) ?_ ?_
    rotate_left
    · simp only [Act.put, List.setIfInBounds_toArray, List.set_cons_zero, List.set_cons_succ, i64_w, i32_w]
      rfl
    refine pure_ (i := 14) (N := some 21) (v := undef) (a' := ?_) #[true, true, true, true, true, true, true, true, true, true, true, true, true, true, true, false, false, false, false, false, false, false, false, false, false, false, false, false, false, false, false, false, false] rfl rfl (by kernel_rfl) (fun _ _ _ h => h) (Or.inr ⟨by rfl, rfl⟩) ?_ ?_
    rotate_left
    · simp only [Act.put, List.setIfInBounds_toArray, List.set_cons_zero, List.set_cons_succ, i64_w, i32_w]
      rfl
    refine pure_ (i := 15) (N := some 22) (v := undef) (a' := ?_) #[true, true, true, true, true, true, true, true, true, true, true, true, true, true, true, true, false, false, false, false, false, false, false, false, false, false, false, false, false, false, false, false, false] rfl rfl (by kernel_rfl) (fun _ _ _ h => h) (Or.inr ⟨by rfl, rfl⟩) ?_ ?_
    rotate_left
    · simp only [Act.put, List.setIfInBounds_toArray, List.set_cons_zero, List.set_cons_succ, i64_w, i32_w]
      rfl
    refine pure_ (i := 16) (N := some 23) (v := undef) (a' := ?_) #[true, true, true, true, true, true, true, true, true, true, true, true, true, true, true, true, true, false, false, false, false, false, false, false, false, false, false, false, false, false, false, false, false] rfl rfl (by kernel_rfl) (fun _ _ _ h => h) (Or.inr ⟨by rfl, rfl⟩) ?_ ?_
    rotate_left
    · simp only [Act.put, List.setIfInBounds_toArray, List.set_cons_zero, List.set_cons_succ, i64_w, i32_w]
      rfl
    refine pure_ (i := 17) (N := some 24) (v := undef) (a' := ?_) #[true, true, true, true, true, true, true, true, true, true, true, true, true, true, true, true, true, true, false, false, false, false, false, false, false, false, false, false, false, false, false, false, false] rfl rfl (by kernel_rfl) (fun _ _ _ h => h) (Or.inr ⟨by rfl, rfl⟩) ?_ ?_
    rotate_left
    · simp only [Act.put, List.setIfInBounds_toArray, List.set_cons_zero, List.set_cons_succ, i64_w, i32_w]
      rfl
    refine pure_ (i := 18) (N := some 25) (v := undef) (a' := ?_) #[true, true, true, true, true, true, true, true, true, true, true, true, true, true, true, true, true, true, true, false, false, false, false, false, false, false, false, false, false, false, false, false, false] rfl rfl (by kernel_rfl) (fun _ _ _ h => h) (Or.inr ⟨by rfl, rfl⟩) ?_ ?_
    rotate_left
    · simp only [Act.put, List.setIfInBounds_toArray, List.set_cons_zero, List.set_cons_succ, i64_w, i32_w]
      rfl
    refine pure_ (i := 19) (N := some 26) (v := undef) (a' := ?_) #[true, true, true, true, true, true, true, true, true, true, true, true, true, true, true, true, true, true, true, true, false, false, false, false, false, false, false, false, false, false, false, false, false] rfl rfl (by kernel_rfl) (fun _ _ _ h => h) (Or.inr ⟨by rfl, rfl⟩) ?_ ?_
    rotate_left
    · simp only [Act.put, List.setIfInBounds_toArray, List.set_cons_zero, List.set_cons_succ, i64_w, i32_w]
      rfl
    refine pure_ (i := 20) (N := some 27) (v := undef) (a' := ?_) #[true, true, true, true, true, true, true, true, true, true, true, true, true, true, true, true, true, true, true, true, true, false, false, false, false, false, false, false, false, false, false, false, false] rfl rfl (by kernel_rfl) (fun _ _ _ h => h) (Or.inr ⟨by rfl, rfl⟩) ?_ ?_
    rotate_left
    · simp only [Act.put, List.setIfInBounds_toArray, List.set_cons_zero, List.set_cons_succ, i64_w, i32_w]
      rfl
    refine pure_ (i := 21) (N := some 28) (v := undef) (a' := ?_) #[true, true, true, true, true, true, true, true, true, true, true, true, true, true, true, true, true, true, true, true, true, true, false, false, false, false, false, false, false, false, false, false, false] rfl rfl (by kernel_rfl) (fun _ _ _ h => h) (Or.inr ⟨by rfl, rfl⟩) ?_ ?_
    rotate_left
    · simp only [Act.put, List.setIfInBounds_toArray, List.set_cons_zero, List.set_cons_succ, i64_w, i32_w]
      rfl
    refine pure_ (i := 22) (N := some 29) (v := undef) (a' := ?_) #[true, true, true, true, true, true, true, true, true, true, true, true, true, true, true, true, true, true, true, true, true, true, true, false, false, false, false, false, false, false, false, false, false] rfl rfl (by kernel_rfl) (fun _ _ _ h => h) (Or.inr ⟨by rfl, rfl⟩) ?_ ?_
    rotate_left
    · simp only [Act.put, List.setIfInBounds_toArray, List.set_cons_zero, List.set_cons_succ, i64_w, i32_w]
      rfl
    refine pure_ (i := 23) (N := some 30) (v := undef) (a' := ?_) #[true, true, true, true, true, true, true, true, true, true, true, true, true, true, true, true, true, true, true, true, true, true, true, true, false, false, false, false, false, false, false, false, false] rfl rfl (by kernel_rfl) (fun _ _ _ h => h) (Or.inr ⟨by rfl, rfl⟩) ?_ ?_
    rotate_left
    · simp only [Act.put, List.setIfInBounds_toArray, List.set_cons_zero, List.set_cons_succ, i64_w, i32_w]
      rfl
    refine pure_ (i := 24) (N := some 31) (v := undef) (a' := ?_) #[true, true, true, true, true, true, true, true, true, true, true, true, true, true, true, true, true, true, true, true, true, true, true, true, true, false, false, false, false, false, false, false, false] rfl rfl (by kernel_rfl) (fun _ _ _ h => h) (Or.inr ⟨by rfl, rfl⟩) ?_ ?_
    rotate_left
    · simp only [Act.put, List.setIfInBounds_toArray, List.set_cons_zero, List.set_cons_succ, i64_w, i32_w]
      rfl
    refine pure_ (i := 25) (N := some 32) (v := undef) (a' := ?_) #[true, true, true, true, true, true, true, true, true, true, true, true, true, true, true, true, true, true, true, true, true, true, true, true, true, true, false, false, false, false, false, false, false] rfl rfl (by kernel_rfl) (fun _ _ _ h => h) (Or.inr ⟨by rfl, rfl⟩) ?_ ?_
    rotate_left
    · simp only [Act.put, List.setIfInBounds_toArray, List.set_cons_zero, List.set_cons_succ, i64_w, i32_w]
      rfl
    refine pure_ (i := 26) (N := some 33) (v := undef) (a' := ?_) #[true, true, true, true, true, true, true, true, true, true, true, true, true, true, true, true, true, true, true, true, true, true, true, true, true, true, true, false, false, false, false, false, false] rfl rfl (by kernel_rfl) (fun _ _ _ h => h) (Or.inr ⟨by rfl, rfl⟩) ?_ ?_
    rotate_left
    · simp only [Act.put, List.setIfInBounds_toArray, List.set_cons_zero, List.set_cons_succ, i64_w, i32_w]
      rfl
    refine pure_ (i := 27) (N := some 34) (v := undef) (a' := ?_) #[true, true, true, true, true, true, true, true, true, true, true, true, true, true, true, true, true, true, true, true, true, true, true, true, true, true, true, true, false, false, false, false, false] rfl rfl (by kernel_rfl) (fun _ _ _ h => h) (Or.inr ⟨by rfl, rfl⟩) ?_ ?_
    rotate_left
    · simp only [Act.put, List.setIfInBounds_toArray, List.set_cons_zero, List.set_cons_succ, i64_w, i32_w]
      rfl
    refine pure_ (i := 28) (N := some 35) (v := undef) (a' := ?_) #[true, true, true, true, true, true, true, true, true, true, true, true, true, true, true, true, true, true, true, true, true, true, true, true, true, true, true, true, true, false, false, false, false] rfl rfl (by kernel_rfl) (fun _ _ _ h => h) (Or.inr ⟨by rfl, rfl⟩) ?_ ?_
    rotate_left
    · simp only [Act.put, List.setIfInBounds_toArray, List.set_cons_zero, List.set_cons_succ, i64_w, i32_w]
      rfl
    refine pure_ (i := 29) (N := some 36) (v := undef) (a' := ?_) #[true, true, true, true, true, true, true, true, true, true, true, true, true, true, true, true, true, true, true, true, true, true, true, true, true, true, true, true, true, true, false, false, false] rfl rfl (by kernel_rfl) (fun _ _ _ h => h) (Or.inr ⟨by rfl, rfl⟩) ?_ ?_
    rotate_left
    · simp only [Act.put, List.setIfInBounds_toArray, List.set_cons_zero, List.set_cons_succ, i64_w, i32_w]
      rfl
    refine pure_ (i := 30) (N := some 37) (v := undef) (a' := ?_) #[true, true, true, true, true, true, true, true, true, true, true, true, true, true, true, true, true, true, true, true, true, true, true, true, true, true, true, true, true, true, true, false, false] rfl rfl (by kernel_rfl) (fun _ _ _ h => h) (Or.inr ⟨by rfl, rfl⟩) ?_ ?_
    rotate_left
    · simp only [Act.put, List.setIfInBounds_toArray, List.set_cons_zero, List.set_cons_succ, i64_w, i32_w]
      rfl
    refine pure_ (i := 31) (N := some 38) (v := ?_) (a' := ?_) #[true, true, true, true, true, true, true, true, true, true, true, true, true, true, true, true, true, true, true, true, true, true, true, true, true, true, true, true, true, true, true, true, false] rfl rfl (by kernel_rfl) (fun _ _ _ h => h) (Or.inl ⟨by rfl, ?_⟩) ?_ ?_
    rotate_left
    · intro w'
      go_simp
      with_reducible rfl
    rotate_left
    · simp only [Act.put, List.setIfInBounds_toArray, List.set_cons_zero, List.set_cons_succ, i64_w, i32_w]
      rfl
    refine pure_ (i := 32) (N := some 6) (v := ?_) (a' := ?_) #[true, true, true, true, true, true, true, true, true, true, true, true, true, true, true, true, true, true, true, true, true, true, true, true, true, true, true, true, true, true, true, true, true] rfl rfl (by kernel_rfl) (fun _ _ _ h => h) (Or.inl ⟨by rfl, ?_⟩) ?_ ?_
    rotate_left
    · intro w'
      go_simp
      with_reducible rfl
    rotate_left
    · simp only [Act.put, List.setIfInBounds_toArray, List.set_cons_zero, List.set_cons_succ, i64_w, i32_w]
      rfl
    refine done_ (by kernel_rfl) ?_
    go_wp2
    go_ret
    exact ⟨rfl, HB.out⟩
structure okW (x : S69) : Prop where
  s0 : 0 ≤ x.f0 ∧ x.f0 ≤ 18446744073709551615
  s1 : 0 ≤ x.f1 ∧ x.f1 ≤ 18446744073709551615
  s6 : 0 ≤ x.f6 ∧ x.f6 ≤ 18446744073709551615
  s3 : -9223372036854775808 ≤ x.f3 ∧ x.f3 ≤ 9223372036854775807
  s7 : -9223372036854775808 ≤ x.f7 ∧ x.f7 ≤ 9223372036854775807
  small : smallX x
  b8 : B255 x.f8
  b9 : B255 x.f9
theorem okW.ok {x : S69} (h : okW x) (hb : x.f2.size + x.f4.size + x.f5.size + x.f8.length + x.f9.length ≤ 5000) : okX x := ⟨h.s0, h.s1, h.s6, h.s3, h.s7, by omega, h.b8, h.b9⟩
theorem light_mem {l : List S69} (h : lightP l = true) : l.length ≤ 100 ∧ ∀ y ∈ l, y.f2.size + y.f4.size + y.f5.size + y.f8.length + y.f9.length ≤ 5000 := by
  unfold lightP at h
  rw [Bool.and_eq_true, List.all_eq_true, decide_eq_true_eq] at h
  exact ⟨h.2, fun y hy => of_decide_eq_true (h.1 y hy)⟩
end Go.Proofs.Ytlnpmodhejakiaa.AV
namespace Go.Proofs.Ytlnpmodhejakiaa.PV
open Go.RowKit Go.Proofs.YtlnpmodhejakiaaW.PrintWords Go.Proofs.YtlnpmodhejakiaaW.PrintLast Go.Proofs.YtlnpmodhejakiaaW.PrintMore Go.Proofs.Ytlnpmodhejakiaa.D Go.Proofs.Ytlnpmodhejakiaa.AV
open Go.Proofs.Ytlnpmodhejakiaa.PV (S69)
open Classical in
noncomputable def stelelaw14_AuditShows.f (a0_0 : Int) (a0_1 : Int) (a0_2 : ByteArray) (a0_3 : Int) (a0_4 : ByteArray) (a0_5 : ByteArray) (a0_6 : Int) (a0_7 : Int) (l0_8 : List Int) (l0_9 : List Int) (a1_0 : Int) (a1_1 : Int) (a1_2 : ByteArray) (a1_3 : Int) (a1_4 : ByteArray) (a1_5 : ByteArray) (a1_6 : Int) (a1_7 : Int) (l1_8 : List Int) (l1_9 : List Int) (a2_0 : Int) (a2_1 : Int) (a2_2 : ByteArray) (a2_3 : Int) (a2_4 : ByteArray) (a2_5 : ByteArray) (a2_6 : Int) (a2_7 : Int) (l2_8 : List Int) (l2_9 : List Int) : Option Bool := if okW ⟨a0_0, a0_1, a0_2, a0_3, a0_4, a0_5, a0_6, a0_7, l0_8, l0_9⟩ ∧ okW ⟨a1_0, a1_1, a1_2, a1_3, a1_4, a1_5, a1_6, a1_7, l1_8, l1_9⟩ ∧ okW ⟨a2_0, a2_1, a2_2, a2_3, a2_4, a2_5, a2_6, a2_7, l2_8, l2_9⟩ then some true else none
theorem stelelaw14_AuditShows.calls (a0_0 : Int) (a0_1 : Int) (a0_2 : ByteArray) (a0_3 : Int) (a0_4 : ByteArray) (a0_5 : ByteArray) (a0_6 : Int) (a0_7 : Int) (A0_8 : Option Addr) (c0_8 : Nat) (l0_8 : List Int) (A0_9 : Option Addr) (c0_9 : Nat) (l0_9 : List Int) (a1_0 : Int) (a1_1 : Int) (a1_2 : ByteArray) (a1_3 : Int) (a1_4 : ByteArray) (a1_5 : ByteArray) (a1_6 : Int) (a1_7 : Int) (A1_8 : Option Addr) (c1_8 : Nat) (l1_8 : List Int) (A1_9 : Option Addr) (c1_9 : Nat) (l1_9 : List Int) (a2_0 : Int) (a2_1 : Int) (a2_2 : ByteArray) (a2_3 : Int) (a2_4 : ByteArray) (a2_5 : ByteArray) (a2_6 : Int) (a2_7 : Int) (A2_8 : Option Addr) (c2_8 : Nat) (l2_8 : List Int) (A2_9 : Option Addr) (c2_9 : Nat) (l2_9 : List Int) (r : Bool) (w : World) (hr0_8 : Kd.C (Kd.int .u8) w A0_8 l0_8.length l0_8) (hc0_8 : l0_8.length ≤ c0_8) (hr0_9 : Kd.C (Kd.int .u8) w A0_9 l0_9.length l0_9) (hc0_9 : l0_9.length ≤ c0_9) (hr1_8 : Kd.C (Kd.int .u8) w A1_8 l1_8.length l1_8) (hc1_8 : l1_8.length ≤ c1_8) (hr1_9 : Kd.C (Kd.int .u8) w A1_9 l1_9.length l1_9) (hc1_9 : l1_9.length ≤ c1_9) (hr2_8 : Kd.C (Kd.int .u8) w A2_8 l2_8.length l2_8) (hc2_8 : l2_8.length ≤ c2_8) (hr2_9 : Kd.C (Kd.int .u8) w A2_9 l2_9.length l2_9) (hc2_9 : l2_9.length ≤ c2_9) (h : stelelaw14_AuditShows.f a0_0 a0_1 a0_2 a0_3 a0_4 a0_5 a0_6 a0_7 l0_8 l0_9 a1_0 a1_1 a1_2 a1_3 a1_4 a1_5 a1_6 a1_7 l1_8 l1_9 a2_0 a2_1 a2_2 a2_3 a2_4 a2_5 a2_6 a2_7 l2_8 l2_9 = some r) :
    Calls Try.prog 19 #[.agg #[.int .u64 a0_0, .int .u64 a0_1, .string a0_2, .int .i64 a0_3, .string a0_4, .string a0_5, .int .u64 a0_6, .int .i64 a0_7, .slice A0_8 l0_8.length c0_8, .slice A0_9 l0_9.length c0_9], .agg #[.int .u64 a1_0, .int .u64 a1_1, .string a1_2, .int .i64 a1_3, .string a1_4, .string a1_5, .int .u64 a1_6, .int .i64 a1_7, .slice A1_8 l1_8.length c1_8, .slice A1_9 l1_9.length c1_9], .agg #[.int .u64 a2_0, .int .u64 a2_1, .string a2_2, .int .i64 a2_3, .string a2_4, .string a2_5, .int .u64 a2_6, .int .i64 a2_7, .slice A2_8 l2_8.length c2_8, .slice A2_9 l2_9.length c2_9]] w fun e w' => e = .returned (.bool r) ∧ Below w.heap.size w w' := by
  unfold stelelaw14_AuditShows.f at h
  split at h
  · rename_i hh
    obtain rfl := Option.some.inj h
    have hall : ∀ u ∈ [(⟨a0_0, a0_1, a0_2, a0_3, a0_4, a0_5, a0_6, a0_7, l0_8, l0_9⟩ : S69), ⟨a1_0, a1_1, a1_2, a1_3, a1_4, a1_5, a1_6, a1_7, l1_8, l1_9⟩, ⟨a2_0, a2_1, a2_2, a2_3, a2_4, a2_5, a2_6, a2_7, l2_8, l2_9⟩], okW u := by
      intro u hu
      simp only [List.mem_cons, List.not_mem_nil, or_false] at hu
      rcases hu with rfl | rfl | rfl
      · exact hh.1
      · exact hh.2.1
      · exact hh.2.2
    exact shows_any ⟨a0_0, a0_1, a0_2, a0_3, a0_4, a0_5, a0_6, a0_7, l0_8, l0_9⟩ A0_8 c0_8 A0_9 c0_9 ⟨a1_0, a1_1, a1_2, a1_3, a1_4, a1_5, a1_6, a1_7, l1_8, l1_9⟩ A1_8 c1_8 A1_9 c1_9 ⟨a2_0, a2_1, a2_2, a2_3, a2_4, a2_5, a2_6, a2_7, l2_8, l2_9⟩ A2_8 c2_8 A2_9 c2_9 w ⟨hr0_8, hc0_8, hr0_9, hc0_9⟩ ⟨hr1_8, hc1_8, hr1_9, hc1_9⟩ ⟨hr2_8, hc2_8, hr2_9, hc2_9⟩ (fun u hu => (hall u hu).small) (fun hL u hu => (hall u hu).ok ((light_mem hL).2 u hu))
  · cases h
end Go.Proofs.Ytlnpmodhejakiaa.PV
