/- The law AuditEdited: its function. -/
import Derived.Test.YtlnpmodhejakiaaZAudE
import Derived.Test.YtlnpmodhejakiaaZWb
import Derived.Test.YtlnpmodhejakiaaZShab
import Derived.Test.YtlnpmodhejakiaaZAudBb
import Derived.Test.YtlnpmodhejakiaaZAudRb
namespace Go.Proofs.Ytlnpmodhejakiaa.AV
open Go.RowKit Go.Proofs.YtlnpmodhejakiaaW.PrintWords Go.Proofs.YtlnpmodhejakiaaW.PrintLast Go.Proofs.YtlnpmodhejakiaaW.PrintMore Go.Proofs.Ytlnpmodhejakiaa.Sha Go.Proofs.Ytlnpmodhejakiaa.D Go.Proofs.Ytlnpmodhejakiaa.PC Go.Proofs.Ytlnpmodhejakiaa.CP Go.Proofs.Ytlnpmodhejakiaa.PV
set_option linter.unusedVariables false
set_option linter.unusedSimpArgs false
theorem rowsC {wd W : World} {A : Option Addr} {n : Nat} {l : List S69} (hC : Kd.C k69 wd A n l) (hb : Below wd.heap.size wd W) : ReadsRow (k69.K wd) k69.sz W A n l := ReadsRow.imp_ hC hb (fun _ _ h => h)
theorem verE (A : Option Addr) (c : Nat) (l : List S69) (v : Int) (B : Option Addr) (d : Nat) (y1 : S69) (w : World) (hC : Kd.C k69 w A l.length l) (hc : l.length ≤ c) (hD : Kd.C (Kd.int .u8) w B 32 (digP y1)) (hd : 32 ≤ d) (hl : l.length ≤ 1000) (hs : ∀ y ∈ l, okX y) (hv : verP l 0 [] (digP y1) = v) :
    Calls Try.prog 78 #[.slice A l.length c, .slice B 32 d] w fun e w' => e = .returned (.int .i64 v) ∧ Below w.heap.size w w' := by
  have h := ver_c A c l B d (digP y1) w hC hc
  rw [digP_len, hv] at h
  exact h hD hd hl hs (sha256_bd' _)
structure Gath (l : List S69) (i : Nat) (all : List S69) : Prop where
  g : Grown all
  len : all.length ≤ i
  bulk : ∀ y ∈ all, y.f2.size + y.f4.size + y.f5.size + y.f8.length + y.f9.length ≤ 5032
theorem Gath.nil (l : List S69) : Gath l 0 [] := ⟨grown_nil, Nat.le_refl _, fun _ h => by cases h⟩
theorem Gath.skip {l all : List S69} {i : Nat} (h : Gath l i all) : Gath l (i + 1) all := ⟨h.g, Nat.le_succ_of_le h.len, h.bulk⟩
theorem Gath.step {l all : List S69} {i : Nat} {y : S69} (h : Gath l i all) (hi : i ≤ 1000) (hy : okX y) (hb : y.f2.size + y.f4.size + y.f5.size + y.f8.length + y.f9.length ≤ 5000) (hr : rightP (nextP all y) = true) : Gath l (i + 1) (all ++ [nextP all y]) := by
  have hl := h.len
  refine ⟨(grown_next all (by omega) h.g y hy hb hr).1, by rw [List.length_append, List.length_singleton]; omega, fun u hu => ?_⟩
  rcases List.mem_append.1 hu with hu | hu
  · exact h.bulk u hu
  · obtain rfl := List.mem_singleton.1 hu
    have := next_bulk all y
    omega
theorem lenA {n : Nat} (h : n ≤ 100) : (n + 1) * 136 ≤ 140737488355328 := by omega
theorem stepI2 (i n : Nat) (h : (i : Int) < (n : Int)) (hn : n ≤ 100) : Value.int .i64 (wrap64 ((i : Int) + 1)) = .int .i64 ((i + 1 : Nat) : Int) := by
  rw [show wrap64 ((i : Int) + 1) = ((i + 1 : Nat) : Int) from by unfold wrap64; omega]
theorem stepM2 (i n : Nat) (h : (i : Int) < (n : Int)) (hn : n ≤ 100) : n - (intOf (.int .i64 (wrap64 ((i : Int) + 1)))).toNat < n - (intOf (.int .i64 (i : Int))).toNat := by
  rw [stepI2 i n h hn]
  show n - (((i + 1 : Nat) : Int)).toNat < n - ((i : Int)).toNat
  rw [Int.toNat_natCast, Int.toNat_natCast]
  omega
theorem cuts69 (ad : Addr) (n c k : Nat) (hk : k < n) (hc : n ≤ c) : (∀ W : World, (Instr.slice 67 (.slice (some ad) n c) none (some (.int .i64 (k : Int))) none).run Try.prog W = .ok (.slice (some ad) k c) W) ∧
    (∀ W : World, (Instr.slice 67 (.slice (some ad) n c) (some (.int .i64 ((k : Int) + 1))) none none).run Try.prog W = .ok (.slice (if c = k + 1 then some ad else (some ad).map (fun x => x.add ((k + 1) * 10))) (n - (k + 1)) (c - (k + 1))) W) := by
  obtain ⟨i0, hi0, hz0⟩ := Option.map_eq_some_iff.1 info69'
  simp only [Prod.mk.injEq] at hz0
  have hs1 := cut_to (P := Try.prog) 67 69 .i64 Try.underlying67 hi0 (some ad) n c (k : Int) (by omega) (by omega) hc
  have hs2 := cut_from (P := Try.prog) 67 69 .i64 Try.underlying67 hi0 10 hz0.2.1 (some ad) n c ((k : Int) + 1) (by omega) (by omega)
  rw [show (k : Int).toNat = k by omega] at hs1
  rw [show ((k : Int) + 1).toNat = k + 1 by omega] at hs2
  exact ⟨hs1, hs2⟩
theorem len0 {k n : Nat} (h : k < n) (hn : n ≤ 100) : (([] : List S69).length + k) * 136 ≤ 140737488355328 := by simp only [List.length_nil]; omega
theorem len1 {l : List S69} (k : Nat) (hn : l.length ≤ 100) : ((l.take k).length + 1) * 136 ≤ 140737488355328 := by rw [List.length_take]; omega
theorem len2 {l : List S69} {k : Nat} (z : S69) (h : k < l.length) (hn : l.length ≤ 100) : ((l.take k ++ [z]).length + (l.length - (k + 1))) * 136 ≤ 140737488355328 := by rw [List.length_append, List.length_take, List.length_singleton]; omega
theorem sk3 {k n : Nat} (h : k < n) (hn : n ≤ 100) : wrap64 ((k : Int) + 1) = (k : Int) + 1 := by unfold wrap64; omega
theorem sk4 {k n : Nat} (h : k < n) (hn : n ≤ 100) : IntKind.i64.wrap ((k : Int) + 1) = (k : Int) + 1 := IntWalk.i64_in _ (by omega)
theorem le1000 {n : Nat} (h : n ≤ 100) : n ≤ 1000 := by omega
theorem editL_le {l : List S69} {k : Nat} (z : S69) (h : k < l.length) (hn : l.length ≤ 100) : (editL l k z).length ≤ 1000 := by rw [editL_len l k z h]; omega
theorem verE_same {l m : List S69} {h : List Int} (e : m = l) (hv : verP l 0 [] h = 0) : verP m 0 [] h = 0 := by rw [e]; exact hv
theorem rcoll_f (A : Option Addr) (ca : Nat) (a : List S69) (B : Option Addr) (cb : Nat) (b : List S69) (f : Bool) (hf : foundP a b = f) (w : World) (hC : Kd.C k69 w A a.length a) (hc : a.length ≤ ca) (hD : Kd.C k69 w B b.length b) (hd : b.length ≤ cb) (hla : a.length ≤ 1000) (hlb : b.length ≤ 1000) (hsa : ∀ y ∈ a, okX y) (hsb : ∀ y ∈ b, okX y) :
    Calls Try.prog 83 #[.slice A a.length ca, .slice B b.length cb] w fun e w' => ∃ u v, e = .returned (.tuple #[u, v, .bool f]) ∧ Below w.heap.size w w' :=
  (rcoll_c A ca a B cb b w hC hc hD hd hla hlb hsa hsb).mono fun e w' h => by rw [← hf]; exact CollPost_found h
structure SwOk (x y : S69) : Prop where
  f2 : okX ⟨y.f0, y.f1, x.f2, y.f3, y.f4, y.f5, y.f6, y.f7, y.f8, y.f9⟩
  f1 : okX ⟨y.f0, x.f1, y.f2, y.f3, y.f4, y.f5, y.f6, y.f7, y.f8, y.f9⟩
  f3 : okX ⟨y.f0, y.f1, y.f2, x.f3, y.f4, y.f5, y.f6, y.f7, y.f8, y.f9⟩
  f5 : okX ⟨y.f0, y.f1, y.f2, y.f3, y.f4, x.f5, y.f6, y.f7, y.f8, y.f9⟩
  f8 : okX ⟨y.f0, y.f1, y.f2, y.f3, y.f4, y.f5, y.f6, y.f7, x.f8, y.f9⟩
  f0 : okX ⟨x.f0, y.f1, y.f2, y.f3, y.f4, y.f5, y.f6, y.f7, y.f8, y.f9⟩
  f9 : okX ⟨y.f0, y.f1, y.f2, y.f3, y.f4, y.f5, y.f6, y.f7, y.f8, x.f9⟩
theorem switch_ok {x y : S69} (hy : okX y) (hb : y.f2.size + y.f4.size + y.f5.size + y.f8.length + y.f9.length ≤ 5032) (hx : okX x) (hbx : x.f2.size + x.f4.size + x.f5.size + x.f8.length + x.f9.length ≤ 5000) : SwOk x y := by
  obtain ⟨s0, s1, s6, s3, s7, bulk, b8, b9⟩ := hy
  obtain ⟨t0, t1, t6, t3, t7, bulkx, c8, c9⟩ := hx
  exact ⟨⟨s0, s1, s6, s3, s7, by show x.f2.size + y.f4.size + y.f5.size + y.f8.length + y.f9.length ≤ _; omega, b8, b9⟩, ⟨s0, t1, s6, s3, s7, bulk, b8, b9⟩, ⟨s0, s1, s6, t3, s7, bulk, b8, b9⟩, ⟨s0, s1, s6, s3, s7, by show y.f2.size + y.f4.size + x.f5.size + y.f8.length + y.f9.length ≤ _; omega, b8, b9⟩, ⟨s0, s1, s6, s3, s7, by show y.f2.size + y.f4.size + y.f5.size + x.f8.length + y.f9.length ≤ _; omega, c8, b9⟩, ⟨t0, s1, s6, s3, s7, bulk, b8, b9⟩, ⟨s0, s1, s6, s3, s7, by show y.f2.size + y.f4.size + y.f5.size + y.f8.length + x.f9.length ≤ _; omega, b8, c9⟩⟩
theorem head_set {w : World} {g i : Nat} {v : Value} {B : Option Addr} {n : Nat} {l : List Int} (h : ∃ wh, Kd.C (Kd.int .u8) wh B n l ∧ Below wh.heap.size wh w ∧ wh.heap.size ≤ g) : Kd.C (Kd.int .u8) (w.setCell ⟨g, i, none⟩ v) B n l := by
  obtain ⟨wh, h1, h2, h3⟩ := h
  exact Kd.C_below h1 (below_set h2 h3)
set_option maxHeartbeats 128000000 in
set_option maxRecDepth 100000 in
theorem edited_any (A : Option Addr) (c : Nat) (l : List S69) (ai how : Int) (x : S69) (A8 : Option Addr) (c8 : Nat) (A9 : Option Addr) (c9 : Nat) (w : World) (hC : Kd.C k69 w A l.length l) (hc : l.length ≤ c) (hR : RecC w x A8 c8 A9 c9)
    (hl : (l.length + 1) * 136 ≤ 140737488355328) (hs : ∀ u ∈ l ++ [x], smallX u) (hk : lightP (l ++ [x]) = true → l.length ≤ 100 ∧ ∀ u ∈ l ++ [x], okX u ∧ u.f2.size + u.f4.size + u.f5.size + u.f8.length + u.f9.length ≤ 5000) (hai : ai ≤ 9223372036854775807) :
    Calls Try.prog 18 #[.slice A l.length c, .int .i64 ai, .int .i64 how, .agg #[.int .u64 x.f0, .int .u64 x.f1, .string x.f2, .int .i64 x.f3, .string x.f4, .string x.f5, .int .u64 x.f6, .int .i64 x.f7, .slice A8 x.f8.length c8, .slice A9 x.f9.length c9]] w fun e w' => e = .returned (.bool true) ∧ Below w.heap.size w w' := by
  have hu69 := Try.underlying69
  have HB := Aside0.mk (Below.refl w.heap.size w)
  have HC := Aside0.mk hC
  have Hc := Aside0.mk hc
  have RX := Aside0.mk hR
  have HS := Aside0.mk hs
  have HLN := Aside0.mk hl
  have HLL := Aside0.mk (show (l ++ [x]).length ≤ 140737488355328 by rw [List.length_append, List.length_singleton]; omega)
  obtain ⟨b, hb⟩ : ∃ b, lightP (l ++ [x]) = b := ⟨_, rfl⟩
  have HL := Aside0.mk hb
  rw [hb] at hk
  have HK := Aside0.mk hk
  clear hC hc hR hl hs hk hb
  go_enter Try.func18, Try.ntmps18
  go_upto_region 1 with (first | ((with_reducible refine gate_dst (N := 7) rfl ?_); refine box_event ?hg (N := 7) ?hd (cs := #[.int .u64 x.f0, .int .u64 x.f1, .string x.f2, .int .i64 x.f3, .string x.f4, .string x.f5, .int .u64 x.f6, .int .i64 x.f7, .slice A8 x.f8.length c8, .slice A9 x.f9.length c9]) (t := 69) ?hr ?_; (case hd => rfl); (case hg => rfl); (case hr => first | (go_simp; done) | (go_simp; rfl)); intro g7 hg w3 hbox hb; have BK7 := Aside0.mk hbox; have nb_ := Aside0.mk (below_step HB.out hb); clear HB; have HB := nb_; clear nb_ hbox hb hg))
  (try simp only [Act.put, List.setIfInBounds_toArray, List.set_cons_zero, List.set_cons_succ])
  go_cut [25] (fun v25 wc => v25 = .bool (!b) ∧ Aside0 (wc.heap[g7]? = some (.cells #[.int .u64 x.f0, .int .u64 x.f1, .string x.f2, .int .i64 x.f3, .string x.f4, .string x.f5, .int .u64 x.f6, .int .i64 x.f7, .slice A8 x.f8.length c8, .slice A9 x.f9.length c9] 69 (0, 0))) ∧ Aside0 (Below w.heap.size w wc))
  case first =>
    cases b with
    | false =>
      have T7 := Aside0.mk (fun (w' : World) (h : w'.heap[g7]? = some (.cells #[.int .u64 x.f0, .int .u64 x.f1, .string x.f2, .int .i64 x.f3, .string x.f4, .string x.f5, .int .u64 x.f6, .int .i64 x.f7, .slice A8 x.f8.length c8, .slice A9 x.f9.length c9] 69 (0, 0))) => (show w'.cell? ⟨g7, 0, none⟩ = some (.int .u64 x.f0) ∧ w'.cell? ⟨g7, 1, none⟩ = some (.int .u64 x.f1) ∧ w'.cell? ⟨g7, 2, none⟩ = some (.string x.f2) ∧ w'.cell? ⟨g7, 3, none⟩ = some (.int .i64 x.f3) ∧ w'.cell? ⟨g7, 4, none⟩ = some (.string x.f4) ∧ w'.cell? ⟨g7, 5, none⟩ = some (.string x.f5) ∧ w'.cell? ⟨g7, 6, none⟩ = some (.int .u64 x.f6) ∧ w'.cell? ⟨g7, 7, none⟩ = some (.int .i64 x.f7) ∧ w'.cell? ⟨g7, 8, none⟩ = some (.slice A8 x.f8.length c8) ∧ w'.cell? ⟨g7, 9, none⟩ = some (.slice A9 x.f9.length c9) from ⟨(blk_cell h 0).trans rfl, (blk_cell h 1).trans rfl, (blk_cell h 2).trans rfl, (blk_cell h 3).trans rfl, (blk_cell h 4).trans rfl, (blk_cell h 5).trans rfl, (blk_cell h 6).trans rfl, (blk_cell h 7).trans rfl, (blk_cell h 8).trans rfl, (blk_cell h 9).trans rfl⟩)); have b7_ := Aside0.mk (blk_drew BK7.out); have hb_ := Aside0.mk (below_drew1 HB.out); have HD := Aside0.mk (Below.refl (World.drew w3).heap.size (World.drew w3)); have HBd := hb_; clear BK7 HB; have BK7 := b7_; clear b7_ hb_
      refine start_ (n := 8) (S := fun w' => w'.cell? ⟨g7, 0, none⟩ = some (.int .u64 x.f0) ∧ w'.cell? ⟨g7, 1, none⟩ = some (.int .u64 x.f1) ∧ w'.cell? ⟨g7, 2, none⟩ = some (.string x.f2) ∧ w'.cell? ⟨g7, 3, none⟩ = some (.int .i64 x.f3) ∧ w'.cell? ⟨g7, 4, none⟩ = some (.string x.f4) ∧ w'.cell? ⟨g7, 5, none⟩ = some (.string x.f5) ∧ w'.cell? ⟨g7, 6, none⟩ = some (.int .u64 x.f6) ∧ w'.cell? ⟨g7, 7, none⟩ = some (.int .i64 x.f7) ∧ w'.cell? ⟨g7, 8, none⟩ = some (.slice A8 x.f8.length c8) ∧ w'.cell? ⟨g7, 9, none⟩ = some (.slice A9 x.f9.length c9)) (ds := []) #[false, false, false, false, false, false, false, false] (by kernel_rfl) rfl rfl (T7.out _ (blk_below BK7.out HD.out)) (fun hHeld => ?_); generalize World.drew w3 = wd at BK7 HBd HD hHeld ⊢; refine pure_ (i := 1) (N := some 19) (v := ?_) (a' := ?_) #[false, true, false, false, false, false, false, false] rfl rfl (by kernel_rfl) (fun _ _ _ h => h) (Or.inl ⟨by rfl, ?_⟩) ?_ ?_; rotate_left
      · intro w'
        go_simp
        with_reducible rfl
      rotate_left
      · simp only [Act.put, List.setIfInBounds_toArray, List.set_cons_zero, List.set_cons_succ, i64_w, i32_w]
        rfl
      refine take_ (i := 3) (N := some 21) (v := ?_) (a' := ?_) #[false, true, false, true, false, false, false, false] rfl rfl (by kernel_rfl) (fun _ _ _ h => h) (Or.inl ⟨by rfl, ?_⟩) hHeld ?_ ?_; rotate_left
      · rintro w' ⟨s0, s1, s2, s3, s4, s5, s6, s7, s8, s9⟩
        go_simp
        with_reducible rfl
      rotate_left
      · simp only [Act.put, List.setIfInBounds_toArray, List.set_cons_zero, List.set_cons_succ, i64_w, i32_w]
        rfl
      refine join_ (σ := Value × Value × Nat) 3 #[true, true, true, true, true, false, false, false] (fun s => [(18, s.1), (20, s.2.1), (22, .slice (some ⟨s.2.2, 0, none⟩) 1 1)]) (fun s w' => (Kd.fixed k69 w).R 69 w' wd.heap.size (fun _ => True) s.2.1 l ∧ w'.heap[s.2.2]? = some (.cells #[.int .u64 x.f0, .int .u64 x.f1, .string x.f2, .int .i64 x.f3, .string x.f4, .string x.f5, .int .u64 x.f6, .int .i64 x.f7, .slice A8 x.f8.length c8, .slice A9 x.f9.length c9] 69 (0, 0)) ∧ Below wd.heap.size wd w') ?_ ?_; rotate_left
      · intro hCont
        refine two_ (i := 0) (j := 4) (Ni := some 18) (Nj := some 22) #[true, true, false, true, false, false, false, false] #[false, true, false, true, true, false, false, false] rfl rfl rfl rfl (by kernel_rfl) (by decide) (by decide) (fun K hK => ?_) (fun K hK => ?_)
        · skip
          refine value_ (w1 := wd.alloc (.cells #[] 69)) (v := .slice (some ⟨wd.heap.size, 0, none⟩) 0 0) (by rfl) rfl ?_ ?_
          · go_simp
            try rfl
          have hbx := blk_new wd (.cells #[] 69); have hbb := below_alloc (Below.refl wd.heap.size wd) (.cells #[] 69); generalize wd.alloc (.cells #[] 69) = wa0 at hbx hbb ⊢; have HO := Aside0.mk (row_empty w wa0 wd.heap.size wd.heap.size hbx HD.out.size); have hd_ := Aside0.mk (below_step HD.out hbb); clear HD; have HD := hd_; clear hd_; obtain ⟨v5, hv5⟩ : ∃ v, Value.slice (some ⟨wd.heap.size, 0, none⟩) 0 0 = v := ⟨_, rfl⟩; rw [hv5] at HO ⊢; have HV5 := Aside0.mk hv5; clear hv5 hbx hbb; refine hK.out _ _ (T7.out _ (blk_below BK7.out HD.out)) (fun hHeld => ?_); clear hK K; refine norm_ (a' := ?_) ?_ ?_; rotate_left
          · show Act.put _ (some 18) _ = _
            simp only [Act.put, List.setIfInBounds_toArray, List.set_cons_zero, List.set_cons_succ, i64_w, i32_w]
            rfl
          refine two_ (i := 2) (j := 4) (Ni := some 20) (Nj := some 22) #[true, true, true, true, false, false, false, false] #[true, true, false, true, true, false, false, false] rfl rfl rfl rfl (by kernel_rfl) (by decide) (by decide) (fun K hK => ?_) (fun K hK => ?_)
          · skip
            refine rows_step k69 w wd.heap.size (by rfl) (.tmp 18) (.tmp 19) 67 69 _ 136 (by rfl) Try.underlying67 info69' rfl (by decide) (by omega) v5 [] l A l.length c (by rfl) (by rfl) HO.out (rows_came HC.out (below_step HBd.out HD.out)) HD.out HD.out.size (by have := HLN.out; simp only [List.length_nil]; omega) ?_; intro v7 wc1 hO hb hg; clear HO HD HV5; have HO := Aside0.mk hO; have HD := Aside0.mk hb; clear hO hb hg; refine hK.out _ _ (T7.out _ (blk_below BK7.out HD.out)) (fun hHeld => ?_); clear hK K; refine norm_ (a' := ?_) ?_ ?_; rotate_left
            · show Act.put _ (some 20) _ = _
              simp only [Act.put, List.setIfInBounds_toArray, List.set_cons_zero, List.set_cons_succ, i64_w, i32_w]
              rfl
            refine one_ (i := 4) (N := some 22) #[true, true, true, true, true, false, false, false] rfl rfl (by kernel_rfl) (by decide) (fun K hK => ?_); refine value_ (w1 := wc1.alloc (.cells #[.int .u64 x.f0, .int .u64 x.f1, .string x.f2, .int .i64 x.f3, .string x.f4, .string x.f5, .int .u64 x.f6, .int .i64 x.f7, .slice A8 x.f8.length c8, .slice A9 x.f9.length c9] 69)) (v := .slice (some ⟨wc1.heap.size, 0, none⟩) 1 1) (by rfl) rfl ?_ ?_
            · go_simp
              try rfl
            have hbx := blk_new wc1 (.cells #[.int .u64 x.f0, .int .u64 x.f1, .string x.f2, .int .i64 x.f3, .string x.f4, .string x.f5, .int .u64 x.f6, .int .i64 x.f7, .slice A8 x.f8.length c8, .slice A9 x.f9.length c9] 69); have hbb := below_alloc (Below.refl wc1.heap.size wc1) (.cells #[.int .u64 x.f0, .int .u64 x.f1, .string x.f2, .int .i64 x.f3, .string x.f4, .string x.f5, .int .u64 x.f6, .int .i64 x.f7, .slice A8 x.f8.length c8, .slice A9 x.f9.length c9] 69); generalize wc1.alloc (.cells #[.int .u64 x.f0, .int .u64 x.f1, .string x.f2, .int .i64 x.f3, .string x.f4, .string x.f5, .int .u64 x.f6, .int .i64 x.f7, .slice A8 x.f8.length c8, .slice A9 x.f9.length c9] 69) = wb2 at hbx hbb ⊢; have o_ := Aside0.mk (Kd.R_below HO.out hbb); clear HO; have HO := o_; clear o_; have hd_ := Aside0.mk (below_step HD.out hbb); clear HD; have HD := hd_; clear hd_; obtain ⟨g9, hg9⟩ : ∃ g, wc1.heap.size = g := ⟨_, rfl⟩; rw [hg9] at hbx ⊢; have BK9 := Aside0.mk hbx; clear hbx hbb hg9; refine hK.out _ _ (T7.out _ (blk_below BK7.out HD.out)) (fun hHeld => ?_); clear hK K; refine norm_ (a' := ?_) ?_ ?_; rotate_left
            · show Act.put _ (some 22) _ = _
              simp only [Act.put, List.setIfInBounds_toArray, List.set_cons_zero, List.set_cons_succ, i64_w, i32_w]
              rfl
            exact norm_ (by simp only [putAll, Act.put, List.setIfInBounds_toArray, List.set_cons_zero, List.set_cons_succ]) (hCont (v5, v7, g9) _ ⟨HO.out, BK9.out, HD.out⟩)
          · skip
            refine value_ (w1 := wa0.alloc (.cells #[.int .u64 x.f0, .int .u64 x.f1, .string x.f2, .int .i64 x.f3, .string x.f4, .string x.f5, .int .u64 x.f6, .int .i64 x.f7, .slice A8 x.f8.length c8, .slice A9 x.f9.length c9] 69)) (v := .slice (some ⟨wa0.heap.size, 0, none⟩) 1 1) (by rfl) rfl ?_ ?_
            · go_simp
              try rfl
            have hbx := blk_new wa0 (.cells #[.int .u64 x.f0, .int .u64 x.f1, .string x.f2, .int .i64 x.f3, .string x.f4, .string x.f5, .int .u64 x.f6, .int .i64 x.f7, .slice A8 x.f8.length c8, .slice A9 x.f9.length c9] 69); have hbb := below_alloc (Below.refl wa0.heap.size wa0) (.cells #[.int .u64 x.f0, .int .u64 x.f1, .string x.f2, .int .i64 x.f3, .string x.f4, .string x.f5, .int .u64 x.f6, .int .i64 x.f7, .slice A8 x.f8.length c8, .slice A9 x.f9.length c9] 69); generalize wa0.alloc (.cells #[.int .u64 x.f0, .int .u64 x.f1, .string x.f2, .int .i64 x.f3, .string x.f4, .string x.f5, .int .u64 x.f6, .int .i64 x.f7, .slice A8 x.f8.length c8, .slice A9 x.f9.length c9] 69) = wb1 at hbx hbb ⊢; have N59 := Aside0.mk (show some wa0.heap.size ≠ v5.ownBlock from (by rw [← HV5.out]; intro h_; injection h_ with h_; exact absurd h_ (Nat.ne_of_gt (own_ltR HO.out _ (by rw [← HV5.out]; rfl))))); have o_ := Aside0.mk (Kd.R_below HO.out hbb); clear HO; have HO := o_; clear o_; have hd_ := Aside0.mk (below_step HD.out hbb); clear HD; have HD := hd_; clear hd_; obtain ⟨g9, hg9⟩ : ∃ g, wa0.heap.size = g := ⟨_, rfl⟩; rw [hg9] at hbx N59 ⊢; have BK9 := Aside0.mk hbx; clear hbx hbb hg9; refine hK.out _ _ (T7.out _ (blk_below BK7.out HD.out)) (fun hHeld => ?_); clear hK K; refine norm_ (a' := ?_) ?_ ?_; rotate_left
            · show Act.put _ (some 22) _ = _
              simp only [Act.put, List.setIfInBounds_toArray, List.set_cons_zero, List.set_cons_succ, i64_w, i32_w]
              rfl
            refine one_ (i := 2) (N := some 20) #[true, true, true, true, true, false, false, false] rfl rfl (by kernel_rfl) (by decide) (fun K hK => ?_); refine rows_step k69 w wd.heap.size (by rfl) (.tmp 18) (.tmp 19) 67 69 _ 136 (by rfl) Try.underlying67 info69' rfl (by decide) (by omega) v5 [] l A l.length c (by rfl) (by rfl) HO.out (rows_came HC.out (below_step HBd.out HD.out)) HD.out HD.out.size (by have := HLN.out; simp only [List.length_nil]; omega) ?_; intro v7 wc2 hO hb hg; have b9_ := Aside0.mk ((hg.block g9 (blk_lt BK9.out) N59.out).trans BK9.out); clear BK9 N59; have BK9 := b9_; clear b9_; clear HO HD HV5; have HO := Aside0.mk hO; have HD := Aside0.mk hb; clear hO hb hg; refine hK.out _ _ (T7.out _ (blk_below BK7.out HD.out)) (fun hHeld => ?_); clear hK K; refine norm_ (a' := ?_) ?_ ?_; rotate_left
            · show Act.put _ (some 20) _ = _
              simp only [Act.put, List.setIfInBounds_toArray, List.set_cons_zero, List.set_cons_succ, i64_w, i32_w]
              rfl
            exact norm_ (by simp only [putAll, Act.put, List.setIfInBounds_toArray, List.set_cons_zero, List.set_cons_succ]) (hCont (v5, v7, g9) _ ⟨HO.out, BK9.out, HD.out⟩)
        · skip
          refine value_ (w1 := wd.alloc (.cells #[.int .u64 x.f0, .int .u64 x.f1, .string x.f2, .int .i64 x.f3, .string x.f4, .string x.f5, .int .u64 x.f6, .int .i64 x.f7, .slice A8 x.f8.length c8, .slice A9 x.f9.length c9] 69)) (v := .slice (some ⟨wd.heap.size, 0, none⟩) 1 1) (by rfl) rfl ?_ ?_
          · go_simp
            try rfl
          have hbx := blk_new wd (.cells #[.int .u64 x.f0, .int .u64 x.f1, .string x.f2, .int .i64 x.f3, .string x.f4, .string x.f5, .int .u64 x.f6, .int .i64 x.f7, .slice A8 x.f8.length c8, .slice A9 x.f9.length c9] 69); have hbb := below_alloc (Below.refl wd.heap.size wd) (.cells #[.int .u64 x.f0, .int .u64 x.f1, .string x.f2, .int .i64 x.f3, .string x.f4, .string x.f5, .int .u64 x.f6, .int .i64 x.f7, .slice A8 x.f8.length c8, .slice A9 x.f9.length c9] 69); generalize wd.alloc (.cells #[.int .u64 x.f0, .int .u64 x.f1, .string x.f2, .int .i64 x.f3, .string x.f4, .string x.f5, .int .u64 x.f6, .int .i64 x.f7, .slice A8 x.f8.length c8, .slice A9 x.f9.length c9] 69) = wb0 at hbx hbb ⊢; have hd_ := Aside0.mk (below_step HD.out hbb); clear HD; have HD := hd_; clear hd_; obtain ⟨g9, hg9⟩ : ∃ g, wd.heap.size = g := ⟨_, rfl⟩; rw [hg9] at hbx ⊢; have BK9 := Aside0.mk hbx; clear hbx hbb hg9; refine hK.out _ _ (T7.out _ (blk_below BK7.out HD.out)) (fun hHeld => ?_); clear hK K; refine norm_ (a' := ?_) ?_ ?_; rotate_left
          · show Act.put _ (some 22) _ = _
            simp only [Act.put, List.setIfInBounds_toArray, List.set_cons_zero, List.set_cons_succ, i64_w, i32_w]
            rfl
          refine one_ (i := 0) (N := some 18) #[true, true, false, true, true, false, false, false] rfl rfl (by kernel_rfl) (by decide) (fun K hK => ?_); refine value_ (w1 := wb0.alloc (.cells #[] 69)) (v := .slice (some ⟨wb0.heap.size, 0, none⟩) 0 0) (by rfl) rfl ?_ ?_
          · go_simp
            try rfl
          have hbx := blk_new wb0 (.cells #[] 69); have hbb := below_alloc (Below.refl wb0.heap.size wb0) (.cells #[] 69); generalize wb0.alloc (.cells #[] 69) = wa1 at hbx hbb ⊢; have N59 := Aside0.mk (show some g9 ≠ (Value.slice (some ⟨wb0.heap.size, 0, none⟩) 0 0).ownBlock from (by intro h_; injection h_ with h_; exact absurd h_ (Nat.ne_of_lt (blk_lt BK9.out)))); have HO := Aside0.mk (row_empty w wa1 wd.heap.size wb0.heap.size hbx HD.out.size); have b9_ := Aside0.mk (blk_below BK9.out hbb); clear BK9; have BK9 := b9_; clear b9_; have hd_ := Aside0.mk (below_step HD.out hbb); clear HD; have HD := hd_; clear hd_; obtain ⟨v5, hv5⟩ : ∃ v, Value.slice (some ⟨wb0.heap.size, 0, none⟩) 0 0 = v := ⟨_, rfl⟩; rw [hv5] at HO N59 ⊢; have HV5 := Aside0.mk hv5; clear hv5 hbx hbb; refine hK.out _ _ (T7.out _ (blk_below BK7.out HD.out)) (fun hHeld => ?_); clear hK K; refine norm_ (a' := ?_) ?_ ?_; rotate_left
          · show Act.put _ (some 18) _ = _
            simp only [Act.put, List.setIfInBounds_toArray, List.set_cons_zero, List.set_cons_succ, i64_w, i32_w]
            rfl
          refine one_ (i := 2) (N := some 20) #[true, true, true, true, true, false, false, false] rfl rfl (by kernel_rfl) (by decide) (fun K hK => ?_); refine rows_step k69 w wd.heap.size (by rfl) (.tmp 18) (.tmp 19) 67 69 _ 136 (by rfl) Try.underlying67 info69' rfl (by decide) (by omega) v5 [] l A l.length c (by rfl) (by rfl) HO.out (rows_came HC.out (below_step HBd.out HD.out)) HD.out HD.out.size (by have := HLN.out; simp only [List.length_nil]; omega) ?_; intro v7 wc2 hO hb hg; have b9_ := Aside0.mk ((hg.block g9 (blk_lt BK9.out) N59.out).trans BK9.out); clear BK9 N59; have BK9 := b9_; clear b9_; clear HO HD HV5; have HO := Aside0.mk hO; have HD := Aside0.mk hb; clear hO hb hg; refine hK.out _ _ (T7.out _ (blk_below BK7.out HD.out)) (fun hHeld => ?_); clear hK K; refine norm_ (a' := ?_) ?_ ?_; rotate_left
          · show Act.put _ (some 20) _ = _
            simp only [Act.put, List.setIfInBounds_toArray, List.set_cons_zero, List.set_cons_succ, i64_w, i32_w]
            rfl
          exact norm_ (by simp only [putAll, Act.put, List.setIfInBounds_toArray, List.set_cons_zero, List.set_cons_succ]) (hCont (v5, v7, g9) _ ⟨HO.out, BK9.out, HD.out⟩)
      rintro ⟨v5, v7, g9⟩ we ⟨hO, hB9, hD⟩; have HO := Aside0.mk hO; have BK9 := Aside0.mk hB9; clear HD; have HD := Aside0.mk hD; clear hO hB9 hD; have hHeld : we.cell? ⟨g7, 0, none⟩ = some (.int .u64 x.f0) ∧ we.cell? ⟨g7, 1, none⟩ = some (.int .u64 x.f1) ∧ we.cell? ⟨g7, 2, none⟩ = some (.string x.f2) ∧ we.cell? ⟨g7, 3, none⟩ = some (.int .i64 x.f3) ∧ we.cell? ⟨g7, 4, none⟩ = some (.string x.f4) ∧ we.cell? ⟨g7, 5, none⟩ = some (.string x.f5) ∧ we.cell? ⟨g7, 6, none⟩ = some (.int .u64 x.f6) ∧ we.cell? ⟨g7, 7, none⟩ = some (.int .i64 x.f7) ∧ we.cell? ⟨g7, 8, none⟩ = some (.slice A8 x.f8.length c8) ∧ we.cell? ⟨g7, 9, none⟩ = some (.slice A9 x.f9.length c9) := (T7.out _ (blk_below BK7.out HD.out)); refine norm_ (a' := ?_) ?_ ?_; rotate_left
      · simp only [putAll, Act.put, List.setIfInBounds_toArray, List.set_cons_zero, List.set_cons_succ]
        rfl
      refine one_ (i := 5) (N := some 23) #[true, true, true, true, true, true, false, false] rfl rfl (by kernel_rfl) (by decide) (fun K hK => ?_); refine rows_step k69 w wd.heap.size (by rfl) (.tmp 20) (.tmp 22) 67 69 _ 136 (by rfl) Try.underlying67 info69' rfl (by decide) (by omega) v7 l [x] (some ⟨g9, 0, none⟩) 1 1 (by rfl) (by rfl) HO.out (row_one w we g9 69 x [.int .u64 x.f0, .int .u64 x.f1, .string x.f2, .int .i64 x.f3, .string x.f4, .string x.f5, .int .u64 x.f6, .int .i64 x.f7, .slice A8 x.f8.length c8, .slice A9 x.f9.length c9] RX.out.k BK9.out) HD.out HD.out.size (by have := HLN.out; omega) ?_; intro v10 wf hO hb hg; clear HO HD BK9; have HD := Aside0.mk hb; obtain ⟨A10, c10, rfl, hc10, hC10⟩ := rows_read hO (below_step HBd.out HD.out); have C10 := Aside0.mk hC10; have L10 := Aside0.mk hc10; clear hO hb hg hC10 hc10; refine hK.out _ _ (T7.out _ (blk_below BK7.out HD.out)) (fun hHeld => ?_); clear hK K; refine norm_ (a' := ?_) ?_ ?_; rotate_left
      · show Act.put _ (some 23) _ = _
        simp only [Act.put, List.setIfInBounds_toArray, List.set_cons_zero, List.set_cons_succ, i64_w, i32_w]
        rfl
      refine one_ (i := 6) (N := some 24) #[true, true, true, true, true, true, true, false] rfl rfl (by kernel_rfl) (by decide) (fun K hK => ?_); refine goes_ Try.func73 (by kernel_rfl) rfl #[.slice A10 (l ++ [x]).length c10] (by rfl) rfl rfl (by first | (simp only [List.map_toArray, List.map_cons, List.map_nil]; done) | (simp only [List.map_toArray, List.map_cons, List.map_nil]; rfl)) ?_
      with_reducible refine (lightB A10 c10 (l ++ [x]) false _ C10.out L10.out HLL.out HS.out HL.out).mono ?_
      rintro e wg ⟨rfl, hb⟩; refine ⟨_, rfl, ?_⟩; clear C10 L10; have hd_ := Aside0.mk (below_step HD.out hb); clear HD; have HD := hd_; clear hd_; clear hb; refine hK.out _ _ (T7.out _ (blk_below BK7.out HD.out)) (fun hHeld => ?_); clear hK K; refine norm_ (a' := ?_) ?_ ?_; rotate_left
      · show Act.put _ (some 24) _ = _
        simp only [Act.put, List.setIfInBounds_toArray, List.set_cons_zero, List.set_cons_succ, i64_w, i32_w]
        rfl
      refine pure_ (i := 7) (N := some 25) (v := ?_) (a' := ?_) #[true, true, true, true, true, true, true, true] rfl rfl (by kernel_rfl) (fun _ _ _ h => h) (Or.inl ⟨by rfl, ?_⟩) ?_ ?_; rotate_left
      · intro w'
        go_simp
        with_reducible rfl
      rotate_left
      · simp only [Act.put, List.setIfInBounds_toArray, List.set_cons_zero, List.set_cons_succ, i64_w, i32_w]
        rfl
      refine done_ (by kernel_rfl) ?_; go_wp2; go_meet
      case rel => exact ⟨rfl, ⟨blk_below BK7.out HD.out⟩, ⟨below_step HBd.out HD.out⟩⟩
    | true =>
      have T7 := Aside0.mk (fun (w' : World) (h : w'.heap[g7]? = some (.cells #[.int .u64 x.f0, .int .u64 x.f1, .string x.f2, .int .i64 x.f3, .string x.f4, .string x.f5, .int .u64 x.f6, .int .i64 x.f7, .slice A8 x.f8.length c8, .slice A9 x.f9.length c9] 69 (0, 0))) => (show w'.cell? ⟨g7, 0, none⟩ = some (.int .u64 x.f0) ∧ w'.cell? ⟨g7, 1, none⟩ = some (.int .u64 x.f1) ∧ w'.cell? ⟨g7, 2, none⟩ = some (.string x.f2) ∧ w'.cell? ⟨g7, 3, none⟩ = some (.int .i64 x.f3) ∧ w'.cell? ⟨g7, 4, none⟩ = some (.string x.f4) ∧ w'.cell? ⟨g7, 5, none⟩ = some (.string x.f5) ∧ w'.cell? ⟨g7, 6, none⟩ = some (.int .u64 x.f6) ∧ w'.cell? ⟨g7, 7, none⟩ = some (.int .i64 x.f7) ∧ w'.cell? ⟨g7, 8, none⟩ = some (.slice A8 x.f8.length c8) ∧ w'.cell? ⟨g7, 9, none⟩ = some (.slice A9 x.f9.length c9) from ⟨(blk_cell h 0).trans rfl, (blk_cell h 1).trans rfl, (blk_cell h 2).trans rfl, (blk_cell h 3).trans rfl, (blk_cell h 4).trans rfl, (blk_cell h 5).trans rfl, (blk_cell h 6).trans rfl, (blk_cell h 7).trans rfl, (blk_cell h 8).trans rfl, (blk_cell h 9).trans rfl⟩)); have b7_ := Aside0.mk (blk_drew BK7.out); have hb_ := Aside0.mk (below_drew1 HB.out); have HD := Aside0.mk (Below.refl (World.drew w3).heap.size (World.drew w3)); have HBd := hb_; clear BK7 HB; have BK7 := b7_; clear b7_ hb_
      refine start_ (n := 8) (S := fun w' => w'.cell? ⟨g7, 0, none⟩ = some (.int .u64 x.f0) ∧ w'.cell? ⟨g7, 1, none⟩ = some (.int .u64 x.f1) ∧ w'.cell? ⟨g7, 2, none⟩ = some (.string x.f2) ∧ w'.cell? ⟨g7, 3, none⟩ = some (.int .i64 x.f3) ∧ w'.cell? ⟨g7, 4, none⟩ = some (.string x.f4) ∧ w'.cell? ⟨g7, 5, none⟩ = some (.string x.f5) ∧ w'.cell? ⟨g7, 6, none⟩ = some (.int .u64 x.f6) ∧ w'.cell? ⟨g7, 7, none⟩ = some (.int .i64 x.f7) ∧ w'.cell? ⟨g7, 8, none⟩ = some (.slice A8 x.f8.length c8) ∧ w'.cell? ⟨g7, 9, none⟩ = some (.slice A9 x.f9.length c9)) (ds := []) #[false, false, false, false, false, false, false, false] (by kernel_rfl) rfl rfl (T7.out _ (blk_below BK7.out HD.out)) (fun hHeld => ?_); generalize World.drew w3 = wd at BK7 HBd HD hHeld ⊢; refine pure_ (i := 1) (N := some 19) (v := ?_) (a' := ?_) #[false, true, false, false, false, false, false, false] rfl rfl (by kernel_rfl) (fun _ _ _ h => h) (Or.inl ⟨by rfl, ?_⟩) ?_ ?_; rotate_left
      · intro w'
        go_simp
        with_reducible rfl
      rotate_left
      · simp only [Act.put, List.setIfInBounds_toArray, List.set_cons_zero, List.set_cons_succ, i64_w, i32_w]
        rfl
      refine take_ (i := 3) (N := some 21) (v := ?_) (a' := ?_) #[false, true, false, true, false, false, false, false] rfl rfl (by kernel_rfl) (fun _ _ _ h => h) (Or.inl ⟨by rfl, ?_⟩) hHeld ?_ ?_; rotate_left
      · rintro w' ⟨s0, s1, s2, s3, s4, s5, s6, s7, s8, s9⟩
        go_simp
        with_reducible rfl
      rotate_left
      · simp only [Act.put, List.setIfInBounds_toArray, List.set_cons_zero, List.set_cons_succ, i64_w, i32_w]
        rfl
      refine join_ (σ := Value × Value × Nat) 3 #[true, true, true, true, true, false, false, false] (fun s => [(18, s.1), (20, s.2.1), (22, .slice (some ⟨s.2.2, 0, none⟩) 1 1)]) (fun s w' => (Kd.fixed k69 w).R 69 w' wd.heap.size (fun _ => True) s.2.1 l ∧ w'.heap[s.2.2]? = some (.cells #[.int .u64 x.f0, .int .u64 x.f1, .string x.f2, .int .i64 x.f3, .string x.f4, .string x.f5, .int .u64 x.f6, .int .i64 x.f7, .slice A8 x.f8.length c8, .slice A9 x.f9.length c9] 69 (0, 0)) ∧ Below wd.heap.size wd w') ?_ ?_; rotate_left
      · intro hCont
        refine two_ (i := 0) (j := 4) (Ni := some 18) (Nj := some 22) #[true, true, false, true, false, false, false, false] #[false, true, false, true, true, false, false, false] rfl rfl rfl rfl (by kernel_rfl) (by decide) (by decide) (fun K hK => ?_) (fun K hK => ?_)
        · skip
          refine value_ (w1 := wd.alloc (.cells #[] 69)) (v := .slice (some ⟨wd.heap.size, 0, none⟩) 0 0) (by rfl) rfl ?_ ?_
          · go_simp
            try rfl
          have hbx := blk_new wd (.cells #[] 69); have hbb := below_alloc (Below.refl wd.heap.size wd) (.cells #[] 69); generalize wd.alloc (.cells #[] 69) = wa0 at hbx hbb ⊢; have HO := Aside0.mk (row_empty w wa0 wd.heap.size wd.heap.size hbx HD.out.size); have hd_ := Aside0.mk (below_step HD.out hbb); clear HD; have HD := hd_; clear hd_; obtain ⟨v5, hv5⟩ : ∃ v, Value.slice (some ⟨wd.heap.size, 0, none⟩) 0 0 = v := ⟨_, rfl⟩; rw [hv5] at HO ⊢; have HV5 := Aside0.mk hv5; clear hv5 hbx hbb; refine hK.out _ _ (T7.out _ (blk_below BK7.out HD.out)) (fun hHeld => ?_); clear hK K; refine norm_ (a' := ?_) ?_ ?_; rotate_left
          · show Act.put _ (some 18) _ = _
            simp only [Act.put, List.setIfInBounds_toArray, List.set_cons_zero, List.set_cons_succ, i64_w, i32_w]
            rfl
          refine two_ (i := 2) (j := 4) (Ni := some 20) (Nj := some 22) #[true, true, true, true, false, false, false, false] #[true, true, false, true, true, false, false, false] rfl rfl rfl rfl (by kernel_rfl) (by decide) (by decide) (fun K hK => ?_) (fun K hK => ?_)
          · skip
            refine rows_step k69 w wd.heap.size (by rfl) (.tmp 18) (.tmp 19) 67 69 _ 136 (by rfl) Try.underlying67 info69' rfl (by decide) (by omega) v5 [] l A l.length c (by rfl) (by rfl) HO.out (rows_came HC.out (below_step HBd.out HD.out)) HD.out HD.out.size (by have := HLN.out; simp only [List.length_nil]; omega) ?_; intro v7 wc1 hO hb hg; clear HO HD HV5; have HO := Aside0.mk hO; have HD := Aside0.mk hb; clear hO hb hg; refine hK.out _ _ (T7.out _ (blk_below BK7.out HD.out)) (fun hHeld => ?_); clear hK K; refine norm_ (a' := ?_) ?_ ?_; rotate_left
            · show Act.put _ (some 20) _ = _
              simp only [Act.put, List.setIfInBounds_toArray, List.set_cons_zero, List.set_cons_succ, i64_w, i32_w]
              rfl
            refine one_ (i := 4) (N := some 22) #[true, true, true, true, true, false, false, false] rfl rfl (by kernel_rfl) (by decide) (fun K hK => ?_); refine value_ (w1 := wc1.alloc (.cells #[.int .u64 x.f0, .int .u64 x.f1, .string x.f2, .int .i64 x.f3, .string x.f4, .string x.f5, .int .u64 x.f6, .int .i64 x.f7, .slice A8 x.f8.length c8, .slice A9 x.f9.length c9] 69)) (v := .slice (some ⟨wc1.heap.size, 0, none⟩) 1 1) (by rfl) rfl ?_ ?_
            · go_simp
              try rfl
            have hbx := blk_new wc1 (.cells #[.int .u64 x.f0, .int .u64 x.f1, .string x.f2, .int .i64 x.f3, .string x.f4, .string x.f5, .int .u64 x.f6, .int .i64 x.f7, .slice A8 x.f8.length c8, .slice A9 x.f9.length c9] 69); have hbb := below_alloc (Below.refl wc1.heap.size wc1) (.cells #[.int .u64 x.f0, .int .u64 x.f1, .string x.f2, .int .i64 x.f3, .string x.f4, .string x.f5, .int .u64 x.f6, .int .i64 x.f7, .slice A8 x.f8.length c8, .slice A9 x.f9.length c9] 69); generalize wc1.alloc (.cells #[.int .u64 x.f0, .int .u64 x.f1, .string x.f2, .int .i64 x.f3, .string x.f4, .string x.f5, .int .u64 x.f6, .int .i64 x.f7, .slice A8 x.f8.length c8, .slice A9 x.f9.length c9] 69) = wb2 at hbx hbb ⊢; have o_ := Aside0.mk (Kd.R_below HO.out hbb); clear HO; have HO := o_; clear o_; have hd_ := Aside0.mk (below_step HD.out hbb); clear HD; have HD := hd_; clear hd_; obtain ⟨g9, hg9⟩ : ∃ g, wc1.heap.size = g := ⟨_, rfl⟩; rw [hg9] at hbx ⊢; have BK9 := Aside0.mk hbx; clear hbx hbb hg9; refine hK.out _ _ (T7.out _ (blk_below BK7.out HD.out)) (fun hHeld => ?_); clear hK K; refine norm_ (a' := ?_) ?_ ?_; rotate_left
            · show Act.put _ (some 22) _ = _
              simp only [Act.put, List.setIfInBounds_toArray, List.set_cons_zero, List.set_cons_succ, i64_w, i32_w]
              rfl
            exact norm_ (by simp only [putAll, Act.put, List.setIfInBounds_toArray, List.set_cons_zero, List.set_cons_succ]) (hCont (v5, v7, g9) _ ⟨HO.out, BK9.out, HD.out⟩)
          · skip
            refine value_ (w1 := wa0.alloc (.cells #[.int .u64 x.f0, .int .u64 x.f1, .string x.f2, .int .i64 x.f3, .string x.f4, .string x.f5, .int .u64 x.f6, .int .i64 x.f7, .slice A8 x.f8.length c8, .slice A9 x.f9.length c9] 69)) (v := .slice (some ⟨wa0.heap.size, 0, none⟩) 1 1) (by rfl) rfl ?_ ?_
            · go_simp
              try rfl
            have hbx := blk_new wa0 (.cells #[.int .u64 x.f0, .int .u64 x.f1, .string x.f2, .int .i64 x.f3, .string x.f4, .string x.f5, .int .u64 x.f6, .int .i64 x.f7, .slice A8 x.f8.length c8, .slice A9 x.f9.length c9] 69); have hbb := below_alloc (Below.refl wa0.heap.size wa0) (.cells #[.int .u64 x.f0, .int .u64 x.f1, .string x.f2, .int .i64 x.f3, .string x.f4, .string x.f5, .int .u64 x.f6, .int .i64 x.f7, .slice A8 x.f8.length c8, .slice A9 x.f9.length c9] 69); generalize wa0.alloc (.cells #[.int .u64 x.f0, .int .u64 x.f1, .string x.f2, .int .i64 x.f3, .string x.f4, .string x.f5, .int .u64 x.f6, .int .i64 x.f7, .slice A8 x.f8.length c8, .slice A9 x.f9.length c9] 69) = wb1 at hbx hbb ⊢; have N59 := Aside0.mk (show some wa0.heap.size ≠ v5.ownBlock from (by rw [← HV5.out]; intro h_; injection h_ with h_; exact absurd h_ (Nat.ne_of_gt (own_ltR HO.out _ (by rw [← HV5.out]; rfl))))); have o_ := Aside0.mk (Kd.R_below HO.out hbb); clear HO; have HO := o_; clear o_; have hd_ := Aside0.mk (below_step HD.out hbb); clear HD; have HD := hd_; clear hd_; obtain ⟨g9, hg9⟩ : ∃ g, wa0.heap.size = g := ⟨_, rfl⟩; rw [hg9] at hbx N59 ⊢; have BK9 := Aside0.mk hbx; clear hbx hbb hg9; refine hK.out _ _ (T7.out _ (blk_below BK7.out HD.out)) (fun hHeld => ?_); clear hK K; refine norm_ (a' := ?_) ?_ ?_; rotate_left
            · show Act.put _ (some 22) _ = _
              simp only [Act.put, List.setIfInBounds_toArray, List.set_cons_zero, List.set_cons_succ, i64_w, i32_w]
              rfl
            refine one_ (i := 2) (N := some 20) #[true, true, true, true, true, false, false, false] rfl rfl (by kernel_rfl) (by decide) (fun K hK => ?_); refine rows_step k69 w wd.heap.size (by rfl) (.tmp 18) (.tmp 19) 67 69 _ 136 (by rfl) Try.underlying67 info69' rfl (by decide) (by omega) v5 [] l A l.length c (by rfl) (by rfl) HO.out (rows_came HC.out (below_step HBd.out HD.out)) HD.out HD.out.size (by have := HLN.out; simp only [List.length_nil]; omega) ?_; intro v7 wc2 hO hb hg; have b9_ := Aside0.mk ((hg.block g9 (blk_lt BK9.out) N59.out).trans BK9.out); clear BK9 N59; have BK9 := b9_; clear b9_; clear HO HD HV5; have HO := Aside0.mk hO; have HD := Aside0.mk hb; clear hO hb hg; refine hK.out _ _ (T7.out _ (blk_below BK7.out HD.out)) (fun hHeld => ?_); clear hK K; refine norm_ (a' := ?_) ?_ ?_; rotate_left
            · show Act.put _ (some 20) _ = _
              simp only [Act.put, List.setIfInBounds_toArray, List.set_cons_zero, List.set_cons_succ, i64_w, i32_w]
              rfl
            exact norm_ (by simp only [putAll, Act.put, List.setIfInBounds_toArray, List.set_cons_zero, List.set_cons_succ]) (hCont (v5, v7, g9) _ ⟨HO.out, BK9.out, HD.out⟩)
        · skip
          refine value_ (w1 := wd.alloc (.cells #[.int .u64 x.f0, .int .u64 x.f1, .string x.f2, .int .i64 x.f3, .string x.f4, .string x.f5, .int .u64 x.f6, .int .i64 x.f7, .slice A8 x.f8.length c8, .slice A9 x.f9.length c9] 69)) (v := .slice (some ⟨wd.heap.size, 0, none⟩) 1 1) (by rfl) rfl ?_ ?_
          · go_simp
            try rfl
          have hbx := blk_new wd (.cells #[.int .u64 x.f0, .int .u64 x.f1, .string x.f2, .int .i64 x.f3, .string x.f4, .string x.f5, .int .u64 x.f6, .int .i64 x.f7, .slice A8 x.f8.length c8, .slice A9 x.f9.length c9] 69); have hbb := below_alloc (Below.refl wd.heap.size wd) (.cells #[.int .u64 x.f0, .int .u64 x.f1, .string x.f2, .int .i64 x.f3, .string x.f4, .string x.f5, .int .u64 x.f6, .int .i64 x.f7, .slice A8 x.f8.length c8, .slice A9 x.f9.length c9] 69); generalize wd.alloc (.cells #[.int .u64 x.f0, .int .u64 x.f1, .string x.f2, .int .i64 x.f3, .string x.f4, .string x.f5, .int .u64 x.f6, .int .i64 x.f7, .slice A8 x.f8.length c8, .slice A9 x.f9.length c9] 69) = wb0 at hbx hbb ⊢; have hd_ := Aside0.mk (below_step HD.out hbb); clear HD; have HD := hd_; clear hd_; obtain ⟨g9, hg9⟩ : ∃ g, wd.heap.size = g := ⟨_, rfl⟩; rw [hg9] at hbx ⊢; have BK9 := Aside0.mk hbx; clear hbx hbb hg9; refine hK.out _ _ (T7.out _ (blk_below BK7.out HD.out)) (fun hHeld => ?_); clear hK K; refine norm_ (a' := ?_) ?_ ?_; rotate_left
          · show Act.put _ (some 22) _ = _
            simp only [Act.put, List.setIfInBounds_toArray, List.set_cons_zero, List.set_cons_succ, i64_w, i32_w]
            rfl
          refine one_ (i := 0) (N := some 18) #[true, true, false, true, true, false, false, false] rfl rfl (by kernel_rfl) (by decide) (fun K hK => ?_); refine value_ (w1 := wb0.alloc (.cells #[] 69)) (v := .slice (some ⟨wb0.heap.size, 0, none⟩) 0 0) (by rfl) rfl ?_ ?_
          · go_simp
            try rfl
          have hbx := blk_new wb0 (.cells #[] 69); have hbb := below_alloc (Below.refl wb0.heap.size wb0) (.cells #[] 69); generalize wb0.alloc (.cells #[] 69) = wa1 at hbx hbb ⊢; have N59 := Aside0.mk (show some g9 ≠ (Value.slice (some ⟨wb0.heap.size, 0, none⟩) 0 0).ownBlock from (by intro h_; injection h_ with h_; exact absurd h_ (Nat.ne_of_lt (blk_lt BK9.out)))); have HO := Aside0.mk (row_empty w wa1 wd.heap.size wb0.heap.size hbx HD.out.size); have b9_ := Aside0.mk (blk_below BK9.out hbb); clear BK9; have BK9 := b9_; clear b9_; have hd_ := Aside0.mk (below_step HD.out hbb); clear HD; have HD := hd_; clear hd_; obtain ⟨v5, hv5⟩ : ∃ v, Value.slice (some ⟨wb0.heap.size, 0, none⟩) 0 0 = v := ⟨_, rfl⟩; rw [hv5] at HO N59 ⊢; have HV5 := Aside0.mk hv5; clear hv5 hbx hbb; refine hK.out _ _ (T7.out _ (blk_below BK7.out HD.out)) (fun hHeld => ?_); clear hK K; refine norm_ (a' := ?_) ?_ ?_; rotate_left
          · show Act.put _ (some 18) _ = _
            simp only [Act.put, List.setIfInBounds_toArray, List.set_cons_zero, List.set_cons_succ, i64_w, i32_w]
            rfl
          refine one_ (i := 2) (N := some 20) #[true, true, true, true, true, false, false, false] rfl rfl (by kernel_rfl) (by decide) (fun K hK => ?_); refine rows_step k69 w wd.heap.size (by rfl) (.tmp 18) (.tmp 19) 67 69 _ 136 (by rfl) Try.underlying67 info69' rfl (by decide) (by omega) v5 [] l A l.length c (by rfl) (by rfl) HO.out (rows_came HC.out (below_step HBd.out HD.out)) HD.out HD.out.size (by have := HLN.out; simp only [List.length_nil]; omega) ?_; intro v7 wc2 hO hb hg; have b9_ := Aside0.mk ((hg.block g9 (blk_lt BK9.out) N59.out).trans BK9.out); clear BK9 N59; have BK9 := b9_; clear b9_; clear HO HD HV5; have HO := Aside0.mk hO; have HD := Aside0.mk hb; clear hO hb hg; refine hK.out _ _ (T7.out _ (blk_below BK7.out HD.out)) (fun hHeld => ?_); clear hK K; refine norm_ (a' := ?_) ?_ ?_; rotate_left
          · show Act.put _ (some 20) _ = _
            simp only [Act.put, List.setIfInBounds_toArray, List.set_cons_zero, List.set_cons_succ, i64_w, i32_w]
            rfl
          exact norm_ (by simp only [putAll, Act.put, List.setIfInBounds_toArray, List.set_cons_zero, List.set_cons_succ]) (hCont (v5, v7, g9) _ ⟨HO.out, BK9.out, HD.out⟩)
      rintro ⟨v5, v7, g9⟩ we ⟨hO, hB9, hD⟩; have HO := Aside0.mk hO; have BK9 := Aside0.mk hB9; clear HD; have HD := Aside0.mk hD; clear hO hB9 hD; have hHeld : we.cell? ⟨g7, 0, none⟩ = some (.int .u64 x.f0) ∧ we.cell? ⟨g7, 1, none⟩ = some (.int .u64 x.f1) ∧ we.cell? ⟨g7, 2, none⟩ = some (.string x.f2) ∧ we.cell? ⟨g7, 3, none⟩ = some (.int .i64 x.f3) ∧ we.cell? ⟨g7, 4, none⟩ = some (.string x.f4) ∧ we.cell? ⟨g7, 5, none⟩ = some (.string x.f5) ∧ we.cell? ⟨g7, 6, none⟩ = some (.int .u64 x.f6) ∧ we.cell? ⟨g7, 7, none⟩ = some (.int .i64 x.f7) ∧ we.cell? ⟨g7, 8, none⟩ = some (.slice A8 x.f8.length c8) ∧ we.cell? ⟨g7, 9, none⟩ = some (.slice A9 x.f9.length c9) := (T7.out _ (blk_below BK7.out HD.out)); refine norm_ (a' := ?_) ?_ ?_; rotate_left
      · simp only [putAll, Act.put, List.setIfInBounds_toArray, List.set_cons_zero, List.set_cons_succ]
        rfl
      refine one_ (i := 5) (N := some 23) #[true, true, true, true, true, true, false, false] rfl rfl (by kernel_rfl) (by decide) (fun K hK => ?_); refine rows_step k69 w wd.heap.size (by rfl) (.tmp 20) (.tmp 22) 67 69 _ 136 (by rfl) Try.underlying67 info69' rfl (by decide) (by omega) v7 l [x] (some ⟨g9, 0, none⟩) 1 1 (by rfl) (by rfl) HO.out (row_one w we g9 69 x [.int .u64 x.f0, .int .u64 x.f1, .string x.f2, .int .i64 x.f3, .string x.f4, .string x.f5, .int .u64 x.f6, .int .i64 x.f7, .slice A8 x.f8.length c8, .slice A9 x.f9.length c9] RX.out.k BK9.out) HD.out HD.out.size (by have := HLN.out; omega) ?_; intro v10 wf hO hb hg; clear HO HD BK9; have HD := Aside0.mk hb; obtain ⟨A10, c10, rfl, hc10, hC10⟩ := rows_read hO (below_step HBd.out HD.out); have C10 := Aside0.mk hC10; have L10 := Aside0.mk hc10; clear hO hb hg hC10 hc10; refine hK.out _ _ (T7.out _ (blk_below BK7.out HD.out)) (fun hHeld => ?_); clear hK K; refine norm_ (a' := ?_) ?_ ?_; rotate_left
      · show Act.put _ (some 23) _ = _
        simp only [Act.put, List.setIfInBounds_toArray, List.set_cons_zero, List.set_cons_succ, i64_w, i32_w]
        rfl
      refine one_ (i := 6) (N := some 24) #[true, true, true, true, true, true, true, false] rfl rfl (by kernel_rfl) (by decide) (fun K hK => ?_); refine goes_ Try.func73 (by kernel_rfl) rfl #[.slice A10 (l ++ [x]).length c10] (by rfl) rfl rfl (by first | (simp only [List.map_toArray, List.map_cons, List.map_nil]; done) | (simp only [List.map_toArray, List.map_cons, List.map_nil]; rfl)) ?_
      with_reducible refine (lightB A10 c10 (l ++ [x]) true _ C10.out L10.out HLL.out HS.out HL.out).mono ?_
      rintro e wg ⟨rfl, hb⟩; refine ⟨_, rfl, ?_⟩; clear C10 L10; have hd_ := Aside0.mk (below_step HD.out hb); clear HD; have HD := hd_; clear hd_; clear hb; refine hK.out _ _ (T7.out _ (blk_below BK7.out HD.out)) (fun hHeld => ?_); clear hK K; refine norm_ (a' := ?_) ?_ ?_; rotate_left
      · show Act.put _ (some 24) _ = _
        simp only [Act.put, List.setIfInBounds_toArray, List.set_cons_zero, List.set_cons_succ, i64_w, i32_w]
        rfl
      refine pure_ (i := 7) (N := some 25) (v := ?_) (a' := ?_) #[true, true, true, true, true, true, true, true] rfl rfl (by kernel_rfl) (fun _ _ _ h => h) (Or.inl ⟨by rfl, ?_⟩) ?_ ?_; rotate_left
      · intro w'
        go_simp
        with_reducible rfl
      rotate_left
      · simp only [Act.put, List.setIfInBounds_toArray, List.set_cons_zero, List.set_cons_succ, i64_w, i32_w]
        rfl
      refine done_ (by kernel_rfl) ?_; go_wp2; go_meet
      case rel => exact ⟨rfl, ⟨blk_below BK7.out HD.out⟩, ⟨below_step HBd.out HD.out⟩⟩
  case rest =>
    obtain ⟨rfl, BK7, HB⟩ := hcut
    cases b with
    | false =>
      go_wp2_with (go_at_call 74; (with_reducible refine (alive14 _).mono ?_); rintro e wz ⟨rfl, hb⟩; have HZ := Aside0.mk (below_step HB.out hb); clear hb)
      go_ret
      exact ⟨rfl, HZ.out⟩
    | true =>
      have hk := HK.out rfl; have LL := Aside0.mk hk.1; have OK := Aside0.mk hk.2; clear hk HK HL HS; go_wp2
      go_loopw [9, 10] (fun v9 v10 wr => ∃ (i : Nat) (all : List S69), v10 = .int .i64 (i : Int) ∧ i ≤ l.length ∧ Aside0 (Gath l i all) ∧ Aside0 ((k69m w).R 69 wr w.heap.size (fun k => k ≠ g7) v9 all) ∧ Aside0 (wr.heap[g7]? = some (.cells #[.int .u64 x.f0, .int .u64 x.f1, .string x.f2, .int .i64 x.f3, .string x.f4, .string x.f5, .int .u64 x.f6, .int .i64 x.f7, .slice A8 x.f8.length c8, .slice A9 x.f9.length c9] 69 (0, 0))) ∧ Aside0 (Below w.heap.size w wr)) (fun _ v _ => l.length - (intOf v).toNat)
      case atStart => exact ⟨0, [], rfl, Nat.zero_le _, ⟨Gath.nil l⟩, ⟨Kd.R_nil _ _ _ _ _⟩, BK7, HB⟩
      case round =>
        clear BK7 HB; obtain ⟨i, all, rfl, hi, HG, HO, BK7, HB⟩ := hrel; obtain ⟨Ao, co, rfl, hco, hCA⟩ := rowsm_read HO.out HB.out; have CA := Aside0.mk hCA; have CO := Aside0.mk hco; have HAL := Aside0.mk (show all.length ≤ 100 by have := HG.out.len; have := LL.out; omega); clear hCA hco
        by_cases hlt : i < l.length
        · have d0 : decide ((i : Int) < (l.length : Int)) = true := decide_eq_true (by omega)
          have d1 : decide (i < l.length) = true := decide_eq_true hlt
          have p1 : (i : Int) < (l.length : Int) := by omega
          obtain ⟨ad, E8, e8, E9, e9, hA, hx0, hx1, hx2, hx3, hx4, hx5, hx6, hx7, hx8, hx9, l8, C8, l9, C9⟩ := at_T69 HC.out (i : Int) (by omega) (by omega)
          subst hA
          have ky := OK.out (rd_T69 l (i : Int)) (by rw [rdT l i hlt]; exact List.mem_append_left _ (List.getElem_mem _)); rw [Int.toNat_natCast] at hx0 hx1 hx2 hx3 hx4 hx5 hx6 hx7 hx8 hx9; obtain ⟨y, hy⟩ : ∃ y, rd_T69 l (i : Int) = y := ⟨_, rfl⟩; rw [hy] at hx0 hx1 hx2 hx3 hx4 hx5 hx6 hx7 hx8 hx9 l8 C8 l9 C9 ky; have RY := Aside0.mk (show RecC w y E8 e8 E9 e9 from ⟨C8, l8, C9, l9⟩); have NX := Aside0.mk (rnext_m Ao co all y E8 e8 E9 e9 wr CA.out CO.out (by have := HAL.out; omega) HG.out.g.ok (RY.out.below HB.out)); have GN := Aside0.mk (fun h => HG.out.step (by have := LL.out; omega) ky.1 ky.2 h); have NK := Aside0.mk (okX_next all HG.out.g.ok y ky.1 ky.2); have N8 := Aside0.mk (nextP_8 all y); obtain ⟨n, hn⟩ : ∃ n, nextP all y = n := ⟨_, rfl⟩; rw [hn] at NX GN NK N8; have K8 := Aside0.mk (show Kd.C (Kd.int .u8) w E8 n.f8.length n.f8 by rw [N8.out]; exact C8); have M8 := Aside0.mk (show n.f8.length ≤ e8 by rw [N8.out]; exact l8); have G7 := Aside0.mk (blk_lt BK7.out); have GR := Aside0.mk (own_ltR HO.out); have GS := Aside0.mk HB.out.size; have hx0 := (HB.out.cell (World.block_lt_of_cell? w _ hx0)).trans hx0; have hx1 := (HB.out.cell (World.block_lt_of_cell? w _ hx1)).trans hx1; have hx2 := (HB.out.cell (World.block_lt_of_cell? w _ hx2)).trans hx2; have hx3 := (HB.out.cell (World.block_lt_of_cell? w _ hx3)).trans hx3; have hx4 := (HB.out.cell (World.block_lt_of_cell? w _ hx4)).trans hx4; have hx5 := (HB.out.cell (World.block_lt_of_cell? w _ hx5)).trans hx5; have hx6 := (HB.out.cell (World.block_lt_of_cell? w _ hx6)).trans hx6; have hx7 := (HB.out.cell (World.block_lt_of_cell? w _ hx7)).trans hx7; have hx8 := (HB.out.cell (World.block_lt_of_cell? w _ hx8)).trans hx8; have hx9 := (HB.out.cell (World.block_lt_of_cell? w _ hx9)).trans hx9; clear hlt hy hn ky l8 C8 l9 C9 N8
          go_upto_region 7 with (fail)
          go_cut [11] from 27 to 44 (fun v11 wc => ∃ g11 B9 d9, v11 = .pointer (some ⟨g11, 0, none⟩) ∧ Aside0 (wc.heap[g11]? = some (.cells #[.int .u64 n.f0, .int .u64 n.f1, .string n.f2, .int .i64 n.f3, .string n.f4, .string n.f5, .int .u64 n.f6, .int .i64 n.f7, .slice E8 n.f8.length e8, .slice B9 n.f9.length d9] 69 (0, 0))) ∧ Aside0 (wc.heap[g7]? = some (.cells #[.int .u64 x.f0, .int .u64 x.f1, .string x.f2, .int .i64 x.f3, .string x.f4, .string x.f5, .int .u64 x.f6, .int .i64 x.f7, .slice A8 x.f8.length c8, .slice A9 x.f9.length c9] 69 (0, 0))) ∧ Aside0 ((k69m w).R 69 wc w.heap.size (fun k => k ≠ g7) (.slice Ao all.length co) all) ∧ Aside0 (Kd.R (Kd.int .u8) 5 wc wr.heap.size (fun _ => True) (.slice B9 n.f9.length d9) n.f9) ∧ Aside0 (Below w.heap.size w wc))
          case first =>
            go_wp2_with (first
              | (go_at_call 77; (with_reducible refine (NX.out).mono ?_); rintro e w1 ⟨B9, d9, rfl, hR9, hb⟩; have R9 := Aside0.mk hR9; have b7_ := Aside0.mk (blk_below BK7.out hb); have o_ := Aside0.mk (Kd.R_below HO.out hb); have nb_ := Aside0.mk (below_step HB.out hb); clear BK7 HO HB hb hR9; have BK7 := b7_; have HO := o_; have HB := nb_; clear b7_ o_ nb_)
              | ((with_reducible refine gate_dst (N := 11) rfl ?_); refine box_event ?hg (N := 11) ?hd (cs := #[.int .u64 0, .int .u64 0, .string ⟨#[]⟩, .int .i64 0, .string ⟨#[]⟩, .string ⟨#[]⟩, .int .u64 0, .int .i64 0, .slice none 0 0, .slice none 0 0]) (t := 69) ?hr ?_; (case hd => rfl); (case hg => rfl); (case hr => first | (go_simp; done) | (go_simp; rfl)); intro g11 hg w2 hbox hb; have BK11 := Aside0.mk hbox; have G11 := Aside0.mk (by rw [hg]; exact Nat.le_refl _ : w1.heap.size ≤ g11); have N711 := Aside0.mk (by rw [hg]; exact Nat.ne_of_lt (blk_lt BK7.out) : g7 ≠ g11); have HF := Aside0.mk hb; have b7_ := Aside0.mk (blk_below BK7.out hb); clear BK7; have BK7 := b7_; clear b7_ hbox hb hg; obtain ⟨hz0, hz1, hz2, hz3, hz4, hz5, hz6, hz7, hz8, hz9, fz0, fz1, fz2, fz3, fz4, fz5, fz6, fz7, fz8, fz9⟩ := cells10 BK11.out))
            go_meet
            case rel => exact ⟨g11, B9, d9, rfl, ⟨by refine blk_put (cs := #[.int .u64 n.f0, .int .u64 n.f1, .string n.f2, .int .i64 n.f3, .string n.f4, .string n.f5, .int .u64 n.f6, .int .i64 n.f7, .slice E8 n.f8.length e8, .slice none 0 0]) ?_ 9 _ rfl; refine blk_put (cs := #[.int .u64 n.f0, .int .u64 n.f1, .string n.f2, .int .i64 n.f3, .string n.f4, .string n.f5, .int .u64 n.f6, .int .i64 n.f7, .slice none 0 0, .slice none 0 0]) ?_ 8 _ rfl; refine blk_put (cs := #[.int .u64 n.f0, .int .u64 n.f1, .string n.f2, .int .i64 n.f3, .string n.f4, .string n.f5, .int .u64 n.f6, .int .i64 0, .slice none 0 0, .slice none 0 0]) ?_ 7 _ rfl; refine blk_put (cs := #[.int .u64 n.f0, .int .u64 n.f1, .string n.f2, .int .i64 n.f3, .string n.f4, .string n.f5, .int .u64 0, .int .i64 0, .slice none 0 0, .slice none 0 0]) ?_ 6 _ rfl; refine blk_put (cs := #[.int .u64 n.f0, .int .u64 n.f1, .string n.f2, .int .i64 n.f3, .string n.f4, .string ⟨#[]⟩, .int .u64 0, .int .i64 0, .slice none 0 0, .slice none 0 0]) ?_ 5 _ rfl; refine blk_put (cs := #[.int .u64 n.f0, .int .u64 n.f1, .string n.f2, .int .i64 n.f3, .string ⟨#[]⟩, .string ⟨#[]⟩, .int .u64 0, .int .i64 0, .slice none 0 0, .slice none 0 0]) ?_ 4 _ rfl; refine blk_put (cs := #[.int .u64 n.f0, .int .u64 n.f1, .string n.f2, .int .i64 0, .string ⟨#[]⟩, .string ⟨#[]⟩, .int .u64 0, .int .i64 0, .slice none 0 0, .slice none 0 0]) ?_ 3 _ rfl; refine blk_put (cs := #[.int .u64 n.f0, .int .u64 n.f1, .string ⟨#[]⟩, .int .i64 0, .string ⟨#[]⟩, .string ⟨#[]⟩, .int .u64 0, .int .i64 0, .slice none 0 0, .slice none 0 0]) ?_ 2 _ rfl; refine blk_put (cs := #[.int .u64 n.f0, .int .u64 0, .string ⟨#[]⟩, .int .i64 0, .string ⟨#[]⟩, .string ⟨#[]⟩, .int .u64 0, .int .i64 0, .slice none 0 0, .slice none 0 0]) ?_ 1 _ rfl; refine blk_put (cs := #[.int .u64 0, .int .u64 0, .string ⟨#[]⟩, .int .i64 0, .string ⟨#[]⟩, .string ⟨#[]⟩, .int .u64 0, .int .i64 0, .slice none 0 0, .slice none 0 0]) ?_ 0 _ rfl; exact BK11.out⟩, ⟨by (iterate 10 (refine blk_far ?_ N711.out _)); exact BK7.out⟩, ⟨Kd.R_below HO.out (by (iterate 10 (refine below_set ?_ G11.out)); exact HF.out)⟩, ⟨Kd.R_below R9.out (by (iterate 10 (refine below_set ?_ G11.out)); exact HF.out)⟩, ⟨below_step HB.out (by (iterate 10 (refine below_set ?_ G11.out)); exact HF.out)⟩⟩
          case rest =>
            clear HO BK7 HB; obtain ⟨g11, B9, d9, rfl, BK11, BK7, HO, R9, HB⟩ := hcut; obtain ⟨hc0, hc1, hc2, hc3, hc4, hc5, hc6, hc7, hc8, hc9, fc0, fc1, fc2, fc3, fc4, fc5, fc6, fc7, fc8, fc9⟩ := cells10 BK11.out; have RN := Aside0.mk (show RecC wc n E8 e8 B9 d9 from ⟨Kd.C_below K8.out HB.out, M8.out, (Kd.R_reads' R9.out).2.2, (Kd.R_reads' R9.out).2.1⟩); obtain ⟨q, hq⟩ : ∃ q, rightP n = q := ⟨_, rfl⟩; have RR := Aside0.mk (rright_c n E8 e8 B9 d9 wc RN.out NK.out); rw [hq] at RR; have GN2 := Aside0.mk (show q = true → Gath l (i + 1) (all ++ [n]) from fun h => GN.out (hq.trans h)); clear hq GN
            cases q with
            | true =>
              have GN3 := Aside0.mk (GN2.out rfl); clear GN2
              go_wp2_with (first
                | (go_at_call 80; (with_reducible refine (RR.out).mono ?_); rintro e w3 ⟨rfl, hb⟩; have b11_ := Aside0.mk (blk_below BK11.out hb); have b7_ := Aside0.mk (blk_below BK7.out hb); have o_ := Aside0.mk (Kd.R_below HO.out hb); have r_ := Aside0.mk (Kd.R_below R9.out hb); have nb_ := Aside0.mk (below_step HB.out hb); clear BK11 BK7 HO R9 HB hb; have BK11 := b11_; have BK7 := b7_; have HO := o_; have R9 := r_; have HB := nb_; clear b11_ b7_ o_ r_ nb_; obtain ⟨hd0, hd1, hd2, hd3, hd4, hd5, hd6, hd7, hd8, hd9, fd0, fd1, fd2, fd3, fd4, fd5, fd6, fd7, fd8, fd9⟩ := cells10 BK11.out)
                | ((with_reducible refine gate_builtin (b := .append) (xs := #[.tmp 41, .tmp 43]) rfl ?_); at_builtin; go_loud (refine Kd.R_append (k69m w) (w0 := w) w.heap.size rfl (.tmp 41) (.tmp 43) 67 69 (.agg #[.int .u64 0, .int .u64 0, .string ⟨#[]⟩, .int .i64 0, .string ⟨#[]⟩, .string ⟨#[]⟩, .int .u64 0, .int .i64 0, .slice none 0 0, .slice none 0 0]) 136 rfl Try.underlying67 info69' rfl (by show 0 < 10; omega) (by omega) (.slice Ao all.length co) all n [.int .u64 n.f0, .int .u64 n.f1, .string n.f2, .int .i64 n.f3, .string n.f4, .string n.f5, .int .u64 n.f6, .int .i64 n.f7, .slice E8 n.f8.length e8, .slice B9 n.f9.length d9] (fun k => k ≠ g7) (fun k => wr.heap.size ≤ k) rfl rfl ?aP ?aK ?aF ?aO ?aB ?aS ?aL ?_; (case aP => exact k69m_mkM w _ _ _ n M8.out K8.out (Kd.R_mono (Kd.R_lower (Kd.R_bound R9.out) GS.out) (fun k hk => hk.2.1))); (case aK => exact fun k hk => ⟨Nat.ne_of_gt (Nat.lt_of_lt_of_le G7.out hk), fun e => absurd (GR.out k e.symm) (Nat.not_lt.2 hk)⟩); (case aF => exact fun k hk => Nat.ne_of_gt (Nat.lt_of_lt_of_le (blk_lt BK7.out) hk)); (case aO => exact HO.out); (case aB => exact HB.out); (case aS => exact HB.out.size); (case aL => exact lenA HAL.out); intro v9 w4 hO hB hg hat; have b7_ := Aside0.mk ((hg.block g7 (blk_lt BK7.out) (fun e => HO.out.1 g7 e.symm rfl)).trans BK7.out); clear BK7 HO HB; have BK7 := b7_; have HO := Aside0.mk hO; have HB := Aside0.mk hB; clear b7_ hO hB hg hat)))
              go_roundw
              case measure => exact stepM2 i l.length p1 LL.out
              case rel => refine ⟨_, _, _, _, _, _, _, _, _, _, _, _, _, _, _, _, _, _, _, _, _, ?_, rfl⟩; exact ⟨i + 1, all ++ [n], stepI2 i l.length p1 LL.out, Int.ofNat_lt.1 p1, GN3, HO, BK7, HB⟩
            | false =>
              go_wp2_with (go_at_call 80; (with_reducible refine (RR.out).mono ?_); rintro e w3 ⟨rfl, hb⟩; have b7_ := Aside0.mk (blk_below BK7.out hb); have o_ := Aside0.mk (Kd.R_below HO.out hb); have nb_ := Aside0.mk (below_step HB.out hb); clear BK7 HO HB hb; have BK7 := b7_; have HO := o_; have HB := nb_; clear b7_ o_ nb_)
              go_roundw
              case measure => exact stepM2 i l.length p1 LL.out
              case rel => refine ⟨_, _, _, _, _, _, _, _, _, _, _, _, _, _, _, _, _, _, _, _, _, ?_, rfl⟩; exact ⟨i + 1, all, stepI2 i l.length p1 LL.out, Int.ofNat_lt.1 p1, ⟨(HG.out).skip⟩, HO, BK7, HB⟩
        · have d0 : decide ((i : Int) < (l.length : Int)) = false := decide_eq_false (by omega)
          have d1 : decide (i < l.length) = false := decide_eq_false hlt
          by_cases ha : ai < 0
          · have a0 : decide (ai < 0) = true := decide_eq_true ha
            go_wp2_with (go_at_call 74; (with_reducible refine (alive14 _).mono ?_); rintro e wz ⟨rfl, hb⟩; have HZ := Aside0.mk (below_step HB.out hb); clear hb)
            go_ret
            exact ⟨rfl, HZ.out⟩
          · have a0 : decide (ai < 0) = false := decide_eq_false ha
            by_cases hb : (all.length : Int) ≤ ai
            · have a1 : decide ((all.length : Int) ≤ ai) = true := decide_eq_true hb
              go_wp2_with (go_at_call 74; (with_reducible refine (alive14 _).mono ?_); rintro e wz ⟨rfl, hb⟩; have HZ := Aside0.mk (below_step HB.out hb); clear hb)
              go_ret
              exact ⟨rfl, HZ.out⟩
            · obtain ⟨k, rfl⟩ := Int.eq_ofNat_of_zero_le (show 0 ≤ ai by omega)
              have hk : k < all.length := by omega
              have a1 : decide ((all.length : Int) ≤ (k : Int)) = false := decide_eq_false hb; have a2 : decide (all.length ≤ k) = false := decide_eq_false (by omega); have HKL := Aside0.mk hk; have OKA := Aside0.mk HG.out.g.ok; obtain ⟨ad, L8, l8, L9, l9, hA, hx0, hx1, hx2, hx3, hx4, hx5, hx6, hx7, hx8, hx9, m8, D8, m9, D9⟩ := at_T69 CA.out ((all.length : Int) - 1) (by omega) (by omega)
              subst hA
              obtain ⟨ad', Y8, y8, Y9, y9, hA, hy0, hy1, hy2, hy3, hy4, hy5, hy6, hy7, hy8, hy9, n8, E8, n9, E9⟩ := at_T69 CA.out (k : Int) (by omega) (by omega)
              cases hA
              rw [show ((all.length : Int) - 1).toNat = all.length - 1 by omega] at hx0 hx1 hx2 hx3 hx4 hx5 hx6 hx7 hx8 hx9; rw [Int.toNat_natCast] at hy0 hy1 hy2 hy3 hy4 hy5 hy6 hy7 hy8 hy9; have k1 := OKA.out (rd_T69 all ((all.length : Int) - 1)) (by rw [show (all.length : Int) - 1 = ((all.length - 1 : Nat) : Int) by omega, rdT all _ (by omega)]; exact List.getElem_mem _); have k2 := OKA.out (rd_T69 all (k : Int)) (by rw [rdT all k hk]; exact List.getElem_mem _); have kb2 := HG.out.bulk (rd_T69 all (k : Int)) (by rw [rdT all k hk]; exact List.getElem_mem _); have ex := OK.out x (List.mem_append_right _ (List.mem_singleton_self _)); obtain ⟨y1, h1⟩ : ∃ y1, rd_T69 all ((all.length : Int) - 1) = y1 := ⟨_, rfl⟩; obtain ⟨y, h2⟩ : ∃ y, rd_T69 all (k : Int) = y := ⟨_, rfl⟩; have ELS := Aside0.mk (fun z h => edited_same (z := z) hk h); have EL0 := Aside0.mk (edited_last HG.out.g (show 0 < all.length by omega) h1); have ELD := Aside0.mk (fun z h h' => edited_diff (z := z) HG.out.g hk h1 h h'); rw [h1] at hx0 hx1 hx2 hx3 hx4 hx5 hx6 hx7 hx8 hx9 m8 D8 m9 D9 k1; rw [h2] at hy0 hy1 hy2 hy3 hy4 hy5 hy6 hy7 hy8 hy9 n8 E8 n9 E9 k2 kb2 ELS ELD; have RL := Aside0.mk (show RecC wr y1 L8 l8 L9 l9 from ⟨D8, m8, D9, m9⟩); have RY := Aside0.mk (show RecC wr y Y8 y8 Y9 y9 from ⟨E8, n8, E9, n9⟩); have K1 := Aside0.mk k1; have K2 := Aside0.mk k2; have KB2 := Aside0.mk kb2; have EX := Aside0.mk ex; have HY0 := Aside0.mk hy0; have HY1 := Aside0.mk hy1; have HY2 := Aside0.mk hy2; have HY3 := Aside0.mk hy3; have HY4 := Aside0.mk hy4; have HY5 := Aside0.mk hy5; have HY6 := Aside0.mk hy6; have HY7 := Aside0.mk hy7; have HY8 := Aside0.mk hy8; have HY9 := Aside0.mk hy9
              have p1 : (0 : Int) ≤ (all.length : Int) - 1 := by omega
              have p1' : (1 : Int) ≤ (all.length : Int) := by omega
              have q1 : (all.length : Int) - 1 < (all.length : Int) := by omega
              have e0 : decide (0 < (all.length : Int)) = true := decide_eq_true (by omega); have e1 : decide (0 < all.length) = true := decide_eq_true (by omega)
              have hl63 : (all.length : Int) ≤ 1000 := by have := HAL.out; omega
              have hkk : (k : Int) < (all.length : Int) := by omega
              have RXr := Aside0.mk (RX.out.below HB.out); clear hlt ha hb hk k1 k2 kb2 ex h1 h2 m8 D8 m9 D9 n8 E8 n9 E9 HO HG hy0 hy1 hy2 hy3 hy4 hy5 hy6 hy7 hy8 hy9
              go_upto_region 12 with (fail)
              go_cut [12] (fun v12 wc => ∃ Bh dh, v12 = .slice Bh 32 dh ∧ Aside0 (Kd.C (Kd.int .u8) wc Bh 32 (digP y1)) ∧ Aside0 (32 ≤ dh) ∧ Aside0 (wc.heap[g7]? = some (.cells #[.int .u64 x.f0, .int .u64 x.f1, .string x.f2, .int .i64 x.f3, .string x.f4, .string x.f5, .int .u64 x.f6, .int .i64 x.f7, .slice A8 x.f8.length c8, .slice A9 x.f9.length c9] 69 (0, 0))) ∧ Aside0 (Below wr.heap.size wr wc))
              case first =>
                go_wp2_with (go_at_call 82; (with_reducible refine (rdigC y1 L8 l8 L9 l9 wr RL.out K1.out).mono ?_); rintro e w1 ⟨Bh, dh, rfl, hC1, hd1, hb⟩; have HHC := Aside0.mk hC1; have HHD := Aside0.mk hd1; have b7_ := Aside0.mk (blk_below BK7.out hb); have HB2 := Aside0.mk hb; clear hb hC1 hd1)
                go_meet
                case rel => exact ⟨Bh, dh, rfl, HHC, HHD, b7_, HB2⟩
              case rest =>
                clear BK7 hx0 hx1 hx2 hx3 hx4 hx5 hx6 hx7 hx8 hx9; obtain ⟨Bh, dh, rfl, HHC, HHD, BK7, HB2⟩ := hcut; have hy0 := (HB2.out.cell (World.block_lt_of_cell? wr _ HY0.out)).trans HY0.out; have hy1 := (HB2.out.cell (World.block_lt_of_cell? wr _ HY1.out)).trans HY1.out; have hy2 := (HB2.out.cell (World.block_lt_of_cell? wr _ HY2.out)).trans HY2.out; have hy3 := (HB2.out.cell (World.block_lt_of_cell? wr _ HY3.out)).trans HY3.out; have hy4 := (HB2.out.cell (World.block_lt_of_cell? wr _ HY4.out)).trans HY4.out; have hy5 := (HB2.out.cell (World.block_lt_of_cell? wr _ HY5.out)).trans HY5.out; have hy6 := (HB2.out.cell (World.block_lt_of_cell? wr _ HY6.out)).trans HY6.out; have hy7 := (HB2.out.cell (World.block_lt_of_cell? wr _ HY7.out)).trans HY7.out; have hy8 := (HB2.out.cell (World.block_lt_of_cell? wr _ HY8.out)).trans HY8.out; have hy9 := (HB2.out.cell (World.block_lt_of_cell? wr _ HY9.out)).trans HY9.out
                go_upto_region 13 with (fail)
                go_cut [13] (fun v13 wq => ∃ g13, v13 = .pointer (some ⟨g13, 0, none⟩) ∧ Aside0 (wq.heap[g13]? = some (.cells #[.int .u64 y.f0, .int .u64 y.f1, .string y.f2, .int .i64 y.f3, .string y.f4, .string y.f5, .int .u64 y.f6, .int .i64 y.f7, .slice Y8 y.f8.length y8, .slice Y9 y.f9.length y9] 69 (0, 0))) ∧ Aside0 (wq.heap[g7]? = some (.cells #[.int .u64 x.f0, .int .u64 x.f1, .string x.f2, .int .i64 x.f3, .string x.f4, .string x.f5, .int .u64 x.f6, .int .i64 x.f7, .slice A8 x.f8.length c8, .slice A9 x.f9.length c9] 69 (0, 0))) ∧ Aside0 (g7 ≠ g13) ∧ Aside0 (wr.heap.size ≤ g13) ∧ Aside0 (∃ wh, Kd.C (Kd.int .u8) wh Bh 32 (digP y1) ∧ Below wh.heap.size wh wq ∧ wh.heap.size ≤ g13) ∧ Aside0 (Below wr.heap.size wr wq))
                case first =>
                  go_wp2_with (first | ((with_reducible refine gate_dst (N := 13) rfl ?_); refine box_event ?hg (N := 13) ?hd (cs := #[.int .u64 0, .int .u64 0, .string ⟨#[]⟩, .int .i64 0, .string ⟨#[]⟩, .string ⟨#[]⟩, .int .u64 0, .int .i64 0, .slice none 0 0, .slice none 0 0]) (t := 69) ?hr ?_; (case hd => rfl); (case hg => rfl); (case hr => first | (go_simp; done) | (go_simp; rfl)); intro g13 hg w2 hbox hb; have BK13 := Aside0.mk hbox; have G13 := Aside0.mk (by rw [hg]; exact Nat.le_refl _ : wc.heap.size ≤ g13); have GE13 := Aside0.mk (by rw [hg]; exact HB2.out.size : wr.heap.size ≤ g13); have N13 := Aside0.mk (by rw [hg]; exact Nat.ne_of_lt (blk_lt BK7.out) : g7 ≠ g13); have HF := Aside0.mk hb; have b7_ := Aside0.mk (blk_below BK7.out hb); clear BK7; have BK7 := b7_; clear b7_ hbox hb hg; obtain ⟨hz0, hz1, hz2, hz3, hz4, hz5, hz6, hz7, hz8, hz9, fz0, fz1, fz2, fz3, fz4, fz5, fz6, fz7, fz8, fz9⟩ := cells10 BK13.out))
                  go_meet
                  case rel => exact ⟨g13, rfl, ⟨by refine blk_put (cs := #[.int .u64 y.f0, .int .u64 y.f1, .string y.f2, .int .i64 y.f3, .string y.f4, .string y.f5, .int .u64 y.f6, .int .i64 y.f7, .slice Y8 y.f8.length y8, .slice none 0 0]) ?_ 9 _ rfl; refine blk_put (cs := #[.int .u64 y.f0, .int .u64 y.f1, .string y.f2, .int .i64 y.f3, .string y.f4, .string y.f5, .int .u64 y.f6, .int .i64 y.f7, .slice none 0 0, .slice none 0 0]) ?_ 8 _ rfl; refine blk_put (cs := #[.int .u64 y.f0, .int .u64 y.f1, .string y.f2, .int .i64 y.f3, .string y.f4, .string y.f5, .int .u64 y.f6, .int .i64 0, .slice none 0 0, .slice none 0 0]) ?_ 7 _ rfl; refine blk_put (cs := #[.int .u64 y.f0, .int .u64 y.f1, .string y.f2, .int .i64 y.f3, .string y.f4, .string y.f5, .int .u64 0, .int .i64 0, .slice none 0 0, .slice none 0 0]) ?_ 6 _ rfl; refine blk_put (cs := #[.int .u64 y.f0, .int .u64 y.f1, .string y.f2, .int .i64 y.f3, .string y.f4, .string ⟨#[]⟩, .int .u64 0, .int .i64 0, .slice none 0 0, .slice none 0 0]) ?_ 5 _ rfl; refine blk_put (cs := #[.int .u64 y.f0, .int .u64 y.f1, .string y.f2, .int .i64 y.f3, .string ⟨#[]⟩, .string ⟨#[]⟩, .int .u64 0, .int .i64 0, .slice none 0 0, .slice none 0 0]) ?_ 4 _ rfl; refine blk_put (cs := #[.int .u64 y.f0, .int .u64 y.f1, .string y.f2, .int .i64 0, .string ⟨#[]⟩, .string ⟨#[]⟩, .int .u64 0, .int .i64 0, .slice none 0 0, .slice none 0 0]) ?_ 3 _ rfl; refine blk_put (cs := #[.int .u64 y.f0, .int .u64 y.f1, .string ⟨#[]⟩, .int .i64 0, .string ⟨#[]⟩, .string ⟨#[]⟩, .int .u64 0, .int .i64 0, .slice none 0 0, .slice none 0 0]) ?_ 2 _ rfl; refine blk_put (cs := #[.int .u64 y.f0, .int .u64 0, .string ⟨#[]⟩, .int .i64 0, .string ⟨#[]⟩, .string ⟨#[]⟩, .int .u64 0, .int .i64 0, .slice none 0 0, .slice none 0 0]) ?_ 1 _ rfl; refine blk_put (cs := #[.int .u64 0, .int .u64 0, .string ⟨#[]⟩, .int .i64 0, .string ⟨#[]⟩, .string ⟨#[]⟩, .int .u64 0, .int .i64 0, .slice none 0 0, .slice none 0 0]) ?_ 0 _ rfl; exact BK13.out⟩, ⟨by (iterate 10 (refine blk_far ?_ N13.out _)); exact BK7.out⟩, N13, GE13, ⟨_, HHC.out, (by (iterate 10 (refine below_set ?_ G13.out)); exact HF.out), G13.out⟩, ⟨below_step HB2.out (by (iterate 10 (refine below_set ?_ G13.out)); exact HF.out)⟩⟩
                case rest =>
                  clear hy0 hy1 hy2 hy3 hy4 hy5 hy6 hy7 hy8 hy9 BK7 HB2 HHC; obtain ⟨g13, rfl, BK13, BK7, N13, GE13, HHC, HB2⟩ := hcut
                  go_upto_block 2 with (fail)
                  go_cut [] (fun wq => ∃ z Z8 z8 Z9 z9, Aside0 (okX z) ∧ Aside0 (wq.heap[g13]? = some (.cells #[.int .u64 z.f0, .int .u64 z.f1, .string z.f2, .int .i64 z.f3, .string z.f4, .string z.f5, .int .u64 z.f6, .int .i64 z.f7, .slice Z8 z.f8.length z8, .slice Z9 z.f9.length z9] 69 (0, 0))) ∧ Aside0 (RecC wq z Z8 z8 Z9 z9) ∧ Aside0 (Kd.C (Kd.int .u8) wq Bh 32 (digP y1)) ∧ Aside0 (Below wr.heap.size wr wq))
                  case first =>
                    obtain ⟨hp0, hp1, hp2, hp3, hp4, hp5, hp6, hp7, hp8, hp9, fp0, fp1, fp2, fp3, fp4, fp5, fp6, fp7, fp8, fp9⟩ := cells10 BK7.out; obtain ⟨hq0, hq1, hq2, hq3, hq4, hq5, hq6, hq7, hq8, hq9, fq0, fq1, fq2, fq3, fq4, fq5, fq6, fq7, fq8, fq9⟩ := cells10 BK13.out; have n13 := N13.out; have n13' := Ne.symm N13.out; have SW := Aside0.mk (switch_ok K2.out KB2.out EX.out.1 EX.out.2)
                    by_cases w0 : how = 0
                    · have u0 : (how == 0) = true := by rw [w0]; rfl
                      go_wp2; go_meet
                      case rel =>
                        have HBX : Below wr.heap.size wr (wc.setCell ⟨g13, 2, none⟩ (.string x.f2)) := below_set HB2.out GE13.out
                        exact ⟨⟨y.f0, y.f1, x.f2, y.f3, y.f4, y.f5, y.f6, y.f7, y.f8, y.f9⟩, Y8, y8, Y9, y9, ⟨SW.out.f2⟩, ⟨by refine blk_put (cs := #[.int .u64 y.f0, .int .u64 y.f1, .string y.f2, .int .i64 y.f3, .string y.f4, .string y.f5, .int .u64 y.f6, .int .i64 y.f7, .slice Y8 y.f8.length y8, .slice Y9 y.f9.length y9]) ?_ 2 _ rfl; exact BK13.out⟩, ⟨⟨(RY.out.below HBX).C8, (RY.out).h8, (RY.out.below HBX).C9, (RY.out).h9⟩⟩, ⟨head_set HHC.out⟩, ⟨HBX⟩⟩
                    · have u0 : (how == 0) = false := by rw [beq_eq_false_iff_ne]; exact w0
                      by_cases w1 : how = 1
                      · have u1 : (how == 1) = true := by rw [w1]; rfl
                        go_wp2; go_meet
                        case rel =>
                          have HBX : Below wr.heap.size wr (wc.setCell ⟨g13, 1, none⟩ (.int .u64 x.f1)) := below_set HB2.out GE13.out
                          exact ⟨⟨y.f0, x.f1, y.f2, y.f3, y.f4, y.f5, y.f6, y.f7, y.f8, y.f9⟩, Y8, y8, Y9, y9, ⟨SW.out.f1⟩, ⟨by refine blk_put (cs := #[.int .u64 y.f0, .int .u64 y.f1, .string y.f2, .int .i64 y.f3, .string y.f4, .string y.f5, .int .u64 y.f6, .int .i64 y.f7, .slice Y8 y.f8.length y8, .slice Y9 y.f9.length y9]) ?_ 1 _ rfl; exact BK13.out⟩, ⟨⟨(RY.out.below HBX).C8, (RY.out).h8, (RY.out.below HBX).C9, (RY.out).h9⟩⟩, ⟨head_set HHC.out⟩, ⟨HBX⟩⟩
                      · have u1 : (how == 1) = false := by rw [beq_eq_false_iff_ne]; exact w1
                        by_cases w2 : how = 2
                        · have u2 : (how == 2) = true := by rw [w2]; rfl
                          go_wp2; go_meet
                          case rel =>
                            have HBX : Below wr.heap.size wr (wc.setCell ⟨g13, 3, none⟩ (.int .i64 x.f3)) := below_set HB2.out GE13.out
                            exact ⟨⟨y.f0, y.f1, y.f2, x.f3, y.f4, y.f5, y.f6, y.f7, y.f8, y.f9⟩, Y8, y8, Y9, y9, ⟨SW.out.f3⟩, ⟨by refine blk_put (cs := #[.int .u64 y.f0, .int .u64 y.f1, .string y.f2, .int .i64 y.f3, .string y.f4, .string y.f5, .int .u64 y.f6, .int .i64 y.f7, .slice Y8 y.f8.length y8, .slice Y9 y.f9.length y9]) ?_ 3 _ rfl; exact BK13.out⟩, ⟨⟨(RY.out.below HBX).C8, (RY.out).h8, (RY.out.below HBX).C9, (RY.out).h9⟩⟩, ⟨head_set HHC.out⟩, ⟨HBX⟩⟩
                        · have u2 : (how == 2) = false := by rw [beq_eq_false_iff_ne]; exact w2
                          by_cases w3 : how = 3
                          · have u3 : (how == 3) = true := by rw [w3]; rfl
                            go_wp2; go_meet
                            case rel =>
                              have HBX : Below wr.heap.size wr (wc.setCell ⟨g13, 5, none⟩ (.string x.f5)) := below_set HB2.out GE13.out
                              exact ⟨⟨y.f0, y.f1, y.f2, y.f3, y.f4, x.f5, y.f6, y.f7, y.f8, y.f9⟩, Y8, y8, Y9, y9, ⟨SW.out.f5⟩, ⟨by refine blk_put (cs := #[.int .u64 y.f0, .int .u64 y.f1, .string y.f2, .int .i64 y.f3, .string y.f4, .string y.f5, .int .u64 y.f6, .int .i64 y.f7, .slice Y8 y.f8.length y8, .slice Y9 y.f9.length y9]) ?_ 5 _ rfl; exact BK13.out⟩, ⟨⟨(RY.out.below HBX).C8, (RY.out).h8, (RY.out.below HBX).C9, (RY.out).h9⟩⟩, ⟨head_set HHC.out⟩, ⟨HBX⟩⟩
                          · have u3 : (how == 3) = false := by rw [beq_eq_false_iff_ne]; exact w3
                            by_cases w4 : how = 4
                            · have u4 : (how == 4) = true := by rw [w4]; rfl
                              go_wp2; go_meet
                              case rel =>
                                have HBX : Below wr.heap.size wr (wc.setCell ⟨g13, 8, none⟩ (.slice A8 x.f8.length c8)) := below_set HB2.out GE13.out
                                exact ⟨⟨y.f0, y.f1, y.f2, y.f3, y.f4, y.f5, y.f6, y.f7, x.f8, y.f9⟩, A8, c8, Y9, y9, ⟨SW.out.f8⟩, ⟨by refine blk_put (cs := #[.int .u64 y.f0, .int .u64 y.f1, .string y.f2, .int .i64 y.f3, .string y.f4, .string y.f5, .int .u64 y.f6, .int .i64 y.f7, .slice Y8 y.f8.length y8, .slice Y9 y.f9.length y9]) ?_ 8 _ rfl; exact BK13.out⟩, ⟨⟨(RXr.out.below HBX).C8, (RXr.out).h8, (RY.out.below HBX).C9, (RY.out).h9⟩⟩, ⟨head_set HHC.out⟩, ⟨HBX⟩⟩
                            · have u4 : (how == 4) = false := by rw [beq_eq_false_iff_ne]; exact w4
                              by_cases w5 : how = 5
                              · have u5 : (how == 5) = true := by rw [w5]; rfl
                                go_wp2; go_meet
                                case rel =>
                                  have HBX : Below wr.heap.size wr (wc.setCell ⟨g13, 0, none⟩ (.int .u64 x.f0)) := below_set HB2.out GE13.out
                                  exact ⟨⟨x.f0, y.f1, y.f2, y.f3, y.f4, y.f5, y.f6, y.f7, y.f8, y.f9⟩, Y8, y8, Y9, y9, ⟨SW.out.f0⟩, ⟨by refine blk_put (cs := #[.int .u64 y.f0, .int .u64 y.f1, .string y.f2, .int .i64 y.f3, .string y.f4, .string y.f5, .int .u64 y.f6, .int .i64 y.f7, .slice Y8 y.f8.length y8, .slice Y9 y.f9.length y9]) ?_ 0 _ rfl; exact BK13.out⟩, ⟨⟨(RY.out.below HBX).C8, (RY.out).h8, (RY.out.below HBX).C9, (RY.out).h9⟩⟩, ⟨head_set HHC.out⟩, ⟨HBX⟩⟩
                              · have u5 : (how == 5) = false := by rw [beq_eq_false_iff_ne]; exact w5
                                go_wp2; go_meet
                                case rel =>
                                  have HBX : Below wr.heap.size wr (wc.setCell ⟨g13, 9, none⟩ (.slice A9 x.f9.length c9)) := below_set HB2.out GE13.out
                                  exact ⟨⟨y.f0, y.f1, y.f2, y.f3, y.f4, y.f5, y.f6, y.f7, y.f8, x.f9⟩, Y8, y8, A9, c9, ⟨SW.out.f9⟩, ⟨by refine blk_put (cs := #[.int .u64 y.f0, .int .u64 y.f1, .string y.f2, .int .i64 y.f3, .string y.f4, .string y.f5, .int .u64 y.f6, .int .i64 y.f7, .slice Y8 y.f8.length y8, .slice Y9 y.f9.length y9]) ?_ 9 _ rfl; exact BK13.out⟩, ⟨⟨(RY.out.below HBX).C8, (RY.out).h8, (RXr.out.below HBX).C9, (RXr.out).h9⟩⟩, ⟨head_set HHC.out⟩, ⟨HBX⟩⟩
                  case rest =>
                    clear BK13 BK7 HHC HB2 N13; obtain ⟨z, Z8, z8, Z9, z9, KZ, BK13, RZ0, HHC, HB2⟩ := hcut; have HTK0 := Aside0.mk (rows_take (Kd.C_below CA.out HB2.out) k (Nat.le_of_lt HKL.out)); have HTD0 := Aside0.mk (rows_drop (Kd.C_below CA.out HB2.out) (k + 1) co HKL.out CO.out); obtain ⟨hs1, hs2⟩ := cuts69 ad all.length co k HKL.out CO.out; obtain ⟨Ad, hAd⟩ : ∃ A, (if co = k + 1 then some ad else (some ad).map (fun x => x.add ((k + 1) * 10))) = A := ⟨_, rfl⟩; rw [hAd] at hs2 HTD0; have hw1 := sk3 HKL.out HAL.out; have hw2 := sk4 HKL.out HAL.out; have hk0 : (0 : Int) ≤ (k : Int) := Int.natCast_nonneg k; clear hAd
                    go_upto_region 28 with (fail)
                    go_cut [14] (fun v14 wq => ∃ Ae ce, v14 = .slice Ae (editL all k z).length ce ∧ Aside0 ((editL all k z).length ≤ ce) ∧ Aside0 (Kd.C k69 wq Ae (editL all k z).length (editL all k z)) ∧ Aside0 (wq.heap[g13]? = some (.cells #[.int .u64 z.f0, .int .u64 z.f1, .string z.f2, .int .i64 z.f3, .string z.f4, .string z.f5, .int .u64 z.f6, .int .i64 z.f7, .slice Z8 z.f8.length z8, .slice Z9 z.f9.length z9] 69 (0, 0))) ∧ Aside0 (RecC wq z Z8 z8 Z9 z9) ∧ Aside0 (Kd.C (Kd.int .u8) wq Bh 32 (digP y1)) ∧ Aside0 (Below wr.heap.size wr wq))
                    case first =>
                      have T13 := Aside0.mk (fun (w' : World) (h : w'.heap[g13]? = some (.cells #[.int .u64 z.f0, .int .u64 z.f1, .string z.f2, .int .i64 z.f3, .string z.f4, .string z.f5, .int .u64 z.f6, .int .i64 z.f7, .slice Z8 z.f8.length z8, .slice Z9 z.f9.length z9] 69 (0, 0))) => (show w'.cell? ⟨g13, 0, none⟩ = some (.int .u64 z.f0) ∧ w'.cell? ⟨g13, 1, none⟩ = some (.int .u64 z.f1) ∧ w'.cell? ⟨g13, 2, none⟩ = some (.string z.f2) ∧ w'.cell? ⟨g13, 3, none⟩ = some (.int .i64 z.f3) ∧ w'.cell? ⟨g13, 4, none⟩ = some (.string z.f4) ∧ w'.cell? ⟨g13, 5, none⟩ = some (.string z.f5) ∧ w'.cell? ⟨g13, 6, none⟩ = some (.int .u64 z.f6) ∧ w'.cell? ⟨g13, 7, none⟩ = some (.int .i64 z.f7) ∧ w'.cell? ⟨g13, 8, none⟩ = some (.slice Z8 z.f8.length z8) ∧ w'.cell? ⟨g13, 9, none⟩ = some (.slice Z9 z.f9.length z9) from ⟨(blk_cell h 0).trans rfl, (blk_cell h 1).trans rfl, (blk_cell h 2).trans rfl, (blk_cell h 3).trans rfl, (blk_cell h 4).trans rfl, (blk_cell h 5).trans rfl, (blk_cell h 6).trans rfl, (blk_cell h 7).trans rfl, (blk_cell h 8).trans rfl, (blk_cell h 9).trans rfl⟩)); have b13_ := Aside0.mk (blk_drew BK13.out); have RZ := Aside0.mk (RZ0.out.below (below_drew1 (Below.refl wc.heap.size wc))); have HD := Aside0.mk (Below.refl (World.drew wc).heap.size (World.drew wc)); have HTK := Aside0.mk (Kd.C_below HTK0.out (below_drew1 (Below.refl wc.heap.size wc))); have HTD := Aside0.mk (Kd.C_below HTD0.out (below_drew1 (Below.refl wc.heap.size wc))); have hc_ := Aside0.mk (Kd.C_below HHC.out (below_drew1 (Below.refl wc.heap.size wc))); have hb_ := Aside0.mk (below_step HB2.out (below_drew1 (Below.refl wc.heap.size wc))); clear BK13 HHC HB2 RZ0 HTK0 HTD0; have BK13 := b13_; have HHC := hc_; have HB2 := hb_; clear b13_ hc_ hb_
                      refine start_ (n := 14) (S := fun w' => w'.cell? ⟨g13, 0, none⟩ = some (.int .u64 z.f0) ∧ w'.cell? ⟨g13, 1, none⟩ = some (.int .u64 z.f1) ∧ w'.cell? ⟨g13, 2, none⟩ = some (.string z.f2) ∧ w'.cell? ⟨g13, 3, none⟩ = some (.int .i64 z.f3) ∧ w'.cell? ⟨g13, 4, none⟩ = some (.string z.f4) ∧ w'.cell? ⟨g13, 5, none⟩ = some (.string z.f5) ∧ w'.cell? ⟨g13, 6, none⟩ = some (.int .u64 z.f6) ∧ w'.cell? ⟨g13, 7, none⟩ = some (.int .i64 z.f7) ∧ w'.cell? ⟨g13, 8, none⟩ = some (.slice Z8 z.f8.length z8) ∧ w'.cell? ⟨g13, 9, none⟩ = some (.slice Z9 z.f9.length z9)) (ds := []) #[false, false, false, false, false, false, false, false, false, false, false, false, false, false] (by kernel_rfl) rfl rfl (T13.out _ (blk_below BK13.out HD.out)) (fun hHeld => ?_); generalize World.drew wc = wd at BK13 RZ HD HTK HTD HHC HB2 hHeld ⊢; refine pure_ (i := 1) (N := some 100) (v := ?_) (a' := ?_) #[false, true, false, false, false, false, false, false, false, false, false, false, false, false] rfl rfl (by kernel_rfl) (fun _ _ _ h => h) (Or.inl ⟨by rfl, ?_⟩) ?_ ?_; rotate_left
                      · intro w'
                        go_simp
                        with_reducible rfl
                      rotate_left
                      · simp only [Act.put, List.setIfInBounds_toArray, List.set_cons_zero, List.set_cons_succ, i64_w, i32_w]
                        rfl
                      refine pure_ (i := 2) (N := some 101) (v := ?_) (a' := ?_) #[false, true, true, false, false, false, false, false, false, false, false, false, false, false] rfl rfl (by kernel_rfl) (fun _ _ _ h => h) (Or.inl ⟨by rfl, ?_⟩) ?_ ?_; rotate_left
                      · intro w'
                        go_simp
                        with_reducible rfl
                      rotate_left
                      · simp only [Act.put, List.setIfInBounds_toArray, List.set_cons_zero, List.set_cons_succ, i64_w, i32_w]
                        rfl
                      refine pure_ (i := 3) (N := some 102) (v := ?_) (a' := ?_) #[false, true, true, true, false, false, false, false, false, false, false, false, false, false] rfl rfl (by kernel_rfl) (fun _ _ _ h => h) (Or.inl ⟨by rfl, ?_⟩) ?_ ?_; rotate_left
                      · intro w'
                        go_simp
                        with_reducible rfl
                      rotate_left
                      · simp only [Act.put, List.setIfInBounds_toArray, List.set_cons_zero, List.set_cons_succ, i64_w, i32_w]
                        rfl
                      refine pure_ (i := 8) (N := some 107) (v := ?_) (a' := ?_) #[false, true, true, true, false, false, false, false, true, false, false, false, false, false] rfl rfl (by kernel_rfl) (fun _ _ _ h => h) (Or.inl ⟨by rfl, ?_⟩) ?_ ?_; rotate_left
                      · intro w'
                        go_simp
                        with_reducible rfl
                      rotate_left
                      · simp only [Act.put, List.setIfInBounds_toArray, List.set_cons_zero, List.set_cons_succ, i64_w, i32_w]
                        rfl
                      refine pure_ (i := 9) (N := some 108) (v := ?_) (a' := ?_) #[false, true, true, true, false, false, false, false, true, true, false, false, false, false] rfl rfl (by kernel_rfl) (fun _ _ _ h => h) (Or.inl ⟨by rfl, ?_⟩) ?_ ?_; rotate_left
                      · intro w'
                        go_simp
                        with_reducible rfl
                      rotate_left
                      · simp only [Act.put, List.setIfInBounds_toArray, List.set_cons_zero, List.set_cons_succ, i64_w, i32_w]
                        rfl
                      refine pure_ (i := 10) (N := some 109) (v := ?_) (a' := ?_) #[false, true, true, true, false, false, false, false, true, true, true, false, false, false] rfl rfl (by kernel_rfl) (fun _ _ _ h => h) (Or.inl ⟨by rfl, ?_⟩) ?_ ?_; rotate_left
                      · intro w'
                        go_simp
                        with_reducible rfl
                      rotate_left
                      · simp only [Act.put, List.setIfInBounds_toArray, List.set_cons_zero, List.set_cons_succ, i64_w, i32_w]
                        rfl
                      refine pure_ (i := 11) (N := some 110) (v := ?_) (a' := ?_) #[false, true, true, true, false, false, false, false, true, true, true, true, false, false] rfl rfl (by kernel_rfl) (fun _ _ _ h => h) (Or.inl ⟨by rfl, ?_⟩) ?_ ?_; rotate_left
                      · intro w'
                        go_simp
                        with_reducible rfl
                      rotate_left
                      · simp only [Act.put, List.setIfInBounds_toArray, List.set_cons_zero, List.set_cons_succ, i64_w, i32_w]
                        rfl
                      refine take_ (i := 5) (N := some 104) (v := ?_) (a' := ?_) #[false, true, true, true, false, true, false, false, true, true, true, true, false, false] rfl rfl (by kernel_rfl) (fun _ _ _ h => h) (Or.inl ⟨by rfl, ?_⟩) hHeld ?_ ?_; rotate_left
                      · rintro w' ⟨s0, s1, s2, s3, s4, s5, s6, s7, s8, s9⟩
                        go_simp
                        with_reducible rfl
                      rotate_left
                      · simp only [Act.put, List.setIfInBounds_toArray, List.set_cons_zero, List.set_cons_succ, i64_w, i32_w]
                        rfl
                      refine join_ (σ := Value × Value × Nat) 3 #[true, true, true, true, true, true, true, false, true, true, true, true, false, false] (fun s => [(99, s.1), (103, s.2.1), (105, .slice (some ⟨s.2.2, 0, none⟩) 1 1)]) (fun s w' => (Kd.fixed k69 wd).R 69 w' wd.heap.size (fun _ => True) s.2.1 (all.take k) ∧ w'.heap[s.2.2]? = some (.cells #[.int .u64 z.f0, .int .u64 z.f1, .string z.f2, .int .i64 z.f3, .string z.f4, .string z.f5, .int .u64 z.f6, .int .i64 z.f7, .slice Z8 z.f8.length z8, .slice Z9 z.f9.length z9] 69 (0, 0)) ∧ Below wd.heap.size wd w') ?_ ?_; rotate_left
                      · intro hCont
                        refine two_ (i := 0) (j := 6) (Ni := some 99) (Nj := some 105) #[true, true, true, true, false, true, false, false, true, true, true, true, false, false] #[false, true, true, true, false, true, true, false, true, true, true, true, false, false] rfl rfl rfl rfl (by kernel_rfl) (by decide) (by decide) (fun K hK => ?_) (fun K hK => ?_)
                        · skip
                          refine value_ (w1 := wd.alloc (.cells #[] 69)) (v := .slice (some ⟨wd.heap.size, 0, none⟩) 0 0) (by rfl) rfl ?_ ?_
                          · go_simp
                            try rfl
                          have hbx := blk_new wd (.cells #[] 69); have hbb := below_alloc (Below.refl wd.heap.size wd) (.cells #[] 69); generalize wd.alloc (.cells #[] 69) = wa0 at hbx hbb ⊢; have HO := Aside0.mk (row_empty wd wa0 wd.heap.size wd.heap.size hbx HD.out.size); have hd_ := Aside0.mk (below_step HD.out hbb); clear HD; have HD := hd_; clear hd_; obtain ⟨v5, hv5⟩ : ∃ v, Value.slice (some ⟨wd.heap.size, 0, none⟩) 0 0 = v := ⟨_, rfl⟩; rw [hv5] at HO ⊢; have HV5 := Aside0.mk hv5; clear hv5 hbx hbb; refine hK.out _ _ (T13.out _ (blk_below BK13.out HD.out)) (fun hHeld => ?_); clear hK K; refine norm_ (a' := ?_) ?_ ?_; rotate_left
                          · show Act.put _ (some 99) _ = _
                            simp only [Act.put, List.setIfInBounds_toArray, List.set_cons_zero, List.set_cons_succ, i64_w, i32_w]
                            rfl
                          refine two_ (i := 4) (j := 6) (Ni := some 103) (Nj := some 105) #[true, true, true, true, true, true, false, false, true, true, true, true, false, false] #[true, true, true, true, false, true, true, false, true, true, true, true, false, false] rfl rfl rfl rfl (by kernel_rfl) (by decide) (by decide) (fun K hK => ?_) (fun K hK => ?_)
                          · skip
                            refine rows_step k69 wd wd.heap.size (by rfl) (.tmp 99) (.tmp 102) 67 69 _ 136 (by rfl) Try.underlying67 info69' rfl (by decide) (by omega) v5 [] (all.take k) (some ad) k co (by rfl) (by rfl) HO.out (rowsC HTK.out HD.out) HD.out HD.out.size (by exact len0 HKL.out HAL.out) ?_; intro v7 wc1 hO hb hg; clear HO HD HV5; have HO := Aside0.mk hO; have HD := Aside0.mk hb; clear hO hb hg; refine hK.out _ _ (T13.out _ (blk_below BK13.out HD.out)) (fun hHeld => ?_); clear hK K; refine norm_ (a' := ?_) ?_ ?_; rotate_left
                            · show Act.put _ (some 103) _ = _
                              simp only [Act.put, List.setIfInBounds_toArray, List.set_cons_zero, List.set_cons_succ, i64_w, i32_w]
                              rfl
                            refine one_ (i := 6) (N := some 105) #[true, true, true, true, true, true, true, false, true, true, true, true, false, false] rfl rfl (by kernel_rfl) (by decide) (fun K hK => ?_); refine value_ (w1 := wc1.alloc (.cells #[.int .u64 z.f0, .int .u64 z.f1, .string z.f2, .int .i64 z.f3, .string z.f4, .string z.f5, .int .u64 z.f6, .int .i64 z.f7, .slice Z8 z.f8.length z8, .slice Z9 z.f9.length z9] 69)) (v := .slice (some ⟨wc1.heap.size, 0, none⟩) 1 1) (by rfl) rfl ?_ ?_
                            · go_simp
                              try rfl
                            have hbx := blk_new wc1 (.cells #[.int .u64 z.f0, .int .u64 z.f1, .string z.f2, .int .i64 z.f3, .string z.f4, .string z.f5, .int .u64 z.f6, .int .i64 z.f7, .slice Z8 z.f8.length z8, .slice Z9 z.f9.length z9] 69); have hbb := below_alloc (Below.refl wc1.heap.size wc1) (.cells #[.int .u64 z.f0, .int .u64 z.f1, .string z.f2, .int .i64 z.f3, .string z.f4, .string z.f5, .int .u64 z.f6, .int .i64 z.f7, .slice Z8 z.f8.length z8, .slice Z9 z.f9.length z9] 69); generalize wc1.alloc (.cells #[.int .u64 z.f0, .int .u64 z.f1, .string z.f2, .int .i64 z.f3, .string z.f4, .string z.f5, .int .u64 z.f6, .int .i64 z.f7, .slice Z8 z.f8.length z8, .slice Z9 z.f9.length z9] 69) = wb2 at hbx hbb ⊢; have o_ := Aside0.mk (Kd.R_below HO.out hbb); clear HO; have HO := o_; clear o_; have hd_ := Aside0.mk (below_step HD.out hbb); clear HD; have HD := hd_; clear hd_; obtain ⟨g9, hg9⟩ : ∃ g, wc1.heap.size = g := ⟨_, rfl⟩; rw [hg9] at hbx ⊢; have BK9 := Aside0.mk hbx; clear hbx hbb hg9; refine hK.out _ _ (T13.out _ (blk_below BK13.out HD.out)) (fun hHeld => ?_); clear hK K; refine norm_ (a' := ?_) ?_ ?_; rotate_left
                            · show Act.put _ (some 105) _ = _
                              simp only [Act.put, List.setIfInBounds_toArray, List.set_cons_zero, List.set_cons_succ, i64_w, i32_w]
                              rfl
                            exact norm_ (by simp only [putAll, Act.put, List.setIfInBounds_toArray, List.set_cons_zero, List.set_cons_succ]) (hCont (v5, v7, g9) _ ⟨HO.out, BK9.out, HD.out⟩)
                          · skip
                            refine value_ (w1 := wa0.alloc (.cells #[.int .u64 z.f0, .int .u64 z.f1, .string z.f2, .int .i64 z.f3, .string z.f4, .string z.f5, .int .u64 z.f6, .int .i64 z.f7, .slice Z8 z.f8.length z8, .slice Z9 z.f9.length z9] 69)) (v := .slice (some ⟨wa0.heap.size, 0, none⟩) 1 1) (by rfl) rfl ?_ ?_
                            · go_simp
                              try rfl
                            have hbx := blk_new wa0 (.cells #[.int .u64 z.f0, .int .u64 z.f1, .string z.f2, .int .i64 z.f3, .string z.f4, .string z.f5, .int .u64 z.f6, .int .i64 z.f7, .slice Z8 z.f8.length z8, .slice Z9 z.f9.length z9] 69); have hbb := below_alloc (Below.refl wa0.heap.size wa0) (.cells #[.int .u64 z.f0, .int .u64 z.f1, .string z.f2, .int .i64 z.f3, .string z.f4, .string z.f5, .int .u64 z.f6, .int .i64 z.f7, .slice Z8 z.f8.length z8, .slice Z9 z.f9.length z9] 69); generalize wa0.alloc (.cells #[.int .u64 z.f0, .int .u64 z.f1, .string z.f2, .int .i64 z.f3, .string z.f4, .string z.f5, .int .u64 z.f6, .int .i64 z.f7, .slice Z8 z.f8.length z8, .slice Z9 z.f9.length z9] 69) = wb1 at hbx hbb ⊢; have N59 := Aside0.mk (show some wa0.heap.size ≠ v5.ownBlock from (by rw [← HV5.out]; intro h_; injection h_ with h_; exact absurd h_ (Nat.ne_of_gt (own_ltR HO.out _ (by rw [← HV5.out]; rfl))))); have o_ := Aside0.mk (Kd.R_below HO.out hbb); clear HO; have HO := o_; clear o_; have hd_ := Aside0.mk (below_step HD.out hbb); clear HD; have HD := hd_; clear hd_; obtain ⟨g9, hg9⟩ : ∃ g, wa0.heap.size = g := ⟨_, rfl⟩; rw [hg9] at hbx N59 ⊢; have BK9 := Aside0.mk hbx; clear hbx hbb hg9; refine hK.out _ _ (T13.out _ (blk_below BK13.out HD.out)) (fun hHeld => ?_); clear hK K; refine norm_ (a' := ?_) ?_ ?_; rotate_left
                            · show Act.put _ (some 105) _ = _
                              simp only [Act.put, List.setIfInBounds_toArray, List.set_cons_zero, List.set_cons_succ, i64_w, i32_w]
                              rfl
                            refine one_ (i := 4) (N := some 103) #[true, true, true, true, true, true, true, false, true, true, true, true, false, false] rfl rfl (by kernel_rfl) (by decide) (fun K hK => ?_); refine rows_step k69 wd wd.heap.size (by rfl) (.tmp 99) (.tmp 102) 67 69 _ 136 (by rfl) Try.underlying67 info69' rfl (by decide) (by omega) v5 [] (all.take k) (some ad) k co (by rfl) (by rfl) HO.out (rowsC HTK.out HD.out) HD.out HD.out.size (by exact len0 HKL.out HAL.out) ?_; intro v7 wc2 hO hb hg; have b9_ := Aside0.mk ((hg.block g9 (blk_lt BK9.out) N59.out).trans BK9.out); clear BK9 N59; have BK9 := b9_; clear b9_; clear HO HD HV5; have HO := Aside0.mk hO; have HD := Aside0.mk hb; clear hO hb hg; refine hK.out _ _ (T13.out _ (blk_below BK13.out HD.out)) (fun hHeld => ?_); clear hK K; refine norm_ (a' := ?_) ?_ ?_; rotate_left
                            · show Act.put _ (some 103) _ = _
                              simp only [Act.put, List.setIfInBounds_toArray, List.set_cons_zero, List.set_cons_succ, i64_w, i32_w]
                              rfl
                            exact norm_ (by simp only [putAll, Act.put, List.setIfInBounds_toArray, List.set_cons_zero, List.set_cons_succ]) (hCont (v5, v7, g9) _ ⟨HO.out, BK9.out, HD.out⟩)
                        · skip
                          refine value_ (w1 := wd.alloc (.cells #[.int .u64 z.f0, .int .u64 z.f1, .string z.f2, .int .i64 z.f3, .string z.f4, .string z.f5, .int .u64 z.f6, .int .i64 z.f7, .slice Z8 z.f8.length z8, .slice Z9 z.f9.length z9] 69)) (v := .slice (some ⟨wd.heap.size, 0, none⟩) 1 1) (by rfl) rfl ?_ ?_
                          · go_simp
                            try rfl
                          have hbx := blk_new wd (.cells #[.int .u64 z.f0, .int .u64 z.f1, .string z.f2, .int .i64 z.f3, .string z.f4, .string z.f5, .int .u64 z.f6, .int .i64 z.f7, .slice Z8 z.f8.length z8, .slice Z9 z.f9.length z9] 69); have hbb := below_alloc (Below.refl wd.heap.size wd) (.cells #[.int .u64 z.f0, .int .u64 z.f1, .string z.f2, .int .i64 z.f3, .string z.f4, .string z.f5, .int .u64 z.f6, .int .i64 z.f7, .slice Z8 z.f8.length z8, .slice Z9 z.f9.length z9] 69); generalize wd.alloc (.cells #[.int .u64 z.f0, .int .u64 z.f1, .string z.f2, .int .i64 z.f3, .string z.f4, .string z.f5, .int .u64 z.f6, .int .i64 z.f7, .slice Z8 z.f8.length z8, .slice Z9 z.f9.length z9] 69) = wb0 at hbx hbb ⊢; have hd_ := Aside0.mk (below_step HD.out hbb); clear HD; have HD := hd_; clear hd_; obtain ⟨g9, hg9⟩ : ∃ g, wd.heap.size = g := ⟨_, rfl⟩; rw [hg9] at hbx ⊢; have BK9 := Aside0.mk hbx; clear hbx hbb hg9; refine hK.out _ _ (T13.out _ (blk_below BK13.out HD.out)) (fun hHeld => ?_); clear hK K; refine norm_ (a' := ?_) ?_ ?_; rotate_left
                          · show Act.put _ (some 105) _ = _
                            simp only [Act.put, List.setIfInBounds_toArray, List.set_cons_zero, List.set_cons_succ, i64_w, i32_w]
                            rfl
                          refine one_ (i := 0) (N := some 99) #[true, true, true, true, false, true, true, false, true, true, true, true, false, false] rfl rfl (by kernel_rfl) (by decide) (fun K hK => ?_); refine value_ (w1 := wb0.alloc (.cells #[] 69)) (v := .slice (some ⟨wb0.heap.size, 0, none⟩) 0 0) (by rfl) rfl ?_ ?_
                          · go_simp
                            try rfl
                          have hbx := blk_new wb0 (.cells #[] 69); have hbb := below_alloc (Below.refl wb0.heap.size wb0) (.cells #[] 69); generalize wb0.alloc (.cells #[] 69) = wa1 at hbx hbb ⊢; have N59 := Aside0.mk (show some g9 ≠ (Value.slice (some ⟨wb0.heap.size, 0, none⟩) 0 0).ownBlock from (by intro h_; injection h_ with h_; exact absurd h_ (Nat.ne_of_lt (blk_lt BK9.out)))); have HO := Aside0.mk (row_empty wd wa1 wd.heap.size wb0.heap.size hbx HD.out.size); have b9_ := Aside0.mk (blk_below BK9.out hbb); clear BK9; have BK9 := b9_; clear b9_; have hd_ := Aside0.mk (below_step HD.out hbb); clear HD; have HD := hd_; clear hd_; obtain ⟨v5, hv5⟩ : ∃ v, Value.slice (some ⟨wb0.heap.size, 0, none⟩) 0 0 = v := ⟨_, rfl⟩; rw [hv5] at HO N59 ⊢; have HV5 := Aside0.mk hv5; clear hv5 hbx hbb; refine hK.out _ _ (T13.out _ (blk_below BK13.out HD.out)) (fun hHeld => ?_); clear hK K; refine norm_ (a' := ?_) ?_ ?_; rotate_left
                          · show Act.put _ (some 99) _ = _
                            simp only [Act.put, List.setIfInBounds_toArray, List.set_cons_zero, List.set_cons_succ, i64_w, i32_w]
                            rfl
                          refine one_ (i := 4) (N := some 103) #[true, true, true, true, true, true, true, false, true, true, true, true, false, false] rfl rfl (by kernel_rfl) (by decide) (fun K hK => ?_); refine rows_step k69 wd wd.heap.size (by rfl) (.tmp 99) (.tmp 102) 67 69 _ 136 (by rfl) Try.underlying67 info69' rfl (by decide) (by omega) v5 [] (all.take k) (some ad) k co (by rfl) (by rfl) HO.out (rowsC HTK.out HD.out) HD.out HD.out.size (by exact len0 HKL.out HAL.out) ?_; intro v7 wc2 hO hb hg; have b9_ := Aside0.mk ((hg.block g9 (blk_lt BK9.out) N59.out).trans BK9.out); clear BK9 N59; have BK9 := b9_; clear b9_; clear HO HD HV5; have HO := Aside0.mk hO; have HD := Aside0.mk hb; clear hO hb hg; refine hK.out _ _ (T13.out _ (blk_below BK13.out HD.out)) (fun hHeld => ?_); clear hK K; refine norm_ (a' := ?_) ?_ ?_; rotate_left
                          · show Act.put _ (some 103) _ = _
                            simp only [Act.put, List.setIfInBounds_toArray, List.set_cons_zero, List.set_cons_succ, i64_w, i32_w]
                            rfl
                          exact norm_ (by simp only [putAll, Act.put, List.setIfInBounds_toArray, List.set_cons_zero, List.set_cons_succ]) (hCont (v5, v7, g9) _ ⟨HO.out, BK9.out, HD.out⟩)
                      rintro ⟨v5, v7, g9⟩ we ⟨hO, hB9, hD⟩; have HO := Aside0.mk hO; have BK9 := Aside0.mk hB9; clear HD; have HD := Aside0.mk hD; clear hO hB9 hD; have hHeld : we.cell? ⟨g13, 0, none⟩ = some (.int .u64 z.f0) ∧ we.cell? ⟨g13, 1, none⟩ = some (.int .u64 z.f1) ∧ we.cell? ⟨g13, 2, none⟩ = some (.string z.f2) ∧ we.cell? ⟨g13, 3, none⟩ = some (.int .i64 z.f3) ∧ we.cell? ⟨g13, 4, none⟩ = some (.string z.f4) ∧ we.cell? ⟨g13, 5, none⟩ = some (.string z.f5) ∧ we.cell? ⟨g13, 6, none⟩ = some (.int .u64 z.f6) ∧ we.cell? ⟨g13, 7, none⟩ = some (.int .i64 z.f7) ∧ we.cell? ⟨g13, 8, none⟩ = some (.slice Z8 z.f8.length z8) ∧ we.cell? ⟨g13, 9, none⟩ = some (.slice Z9 z.f9.length z9) := (T13.out _ (blk_below BK13.out HD.out)); refine norm_ (a' := ?_) ?_ ?_; rotate_left
                      · simp only [putAll, Act.put, List.setIfInBounds_toArray, List.set_cons_zero, List.set_cons_succ]
                        rfl
                      refine one_ (i := 7) (N := some 106) #[true, true, true, true, true, true, true, true, true, true, true, true, false, false] rfl rfl (by kernel_rfl) (by decide) (fun K hK => ?_); refine rows_step k69 wd wd.heap.size (by rfl) (.tmp 103) (.tmp 105) 67 69 _ 136 (by rfl) Try.underlying67 info69' rfl (by decide) (by omega) v7 (all.take k) [z] (some ⟨g9, 0, none⟩) 1 1 (by rfl) (by rfl) HO.out (row_one wd we g9 69 z [.int .u64 z.f0, .int .u64 z.f1, .string z.f2, .int .i64 z.f3, .string z.f4, .string z.f5, .int .u64 z.f6, .int .i64 z.f7, .slice Z8 z.f8.length z8, .slice Z9 z.f9.length z9] RZ.out.k BK9.out) HD.out HD.out.size (len1 k HAL.out) ?_; intro v8 wf hO hb hg; clear HO HD BK9; have HD := Aside0.mk hb; have HO := Aside0.mk hO; clear hO hb hg; refine hK.out _ _ (T13.out _ (blk_below BK13.out HD.out)) (fun hHeld => ?_); clear hK K; refine norm_ (a' := ?_) ?_ ?_; rotate_left
                      · show Act.put _ (some 106) _ = _
                        simp only [Act.put, List.setIfInBounds_toArray, List.set_cons_zero, List.set_cons_succ, i64_w, i32_w]
                        rfl
                      refine one_ (i := 12) (N := some 111) #[true, true, true, true, true, true, true, true, true, true, true, true, true, false] rfl rfl (by kernel_rfl) (by decide) (fun K hK => ?_); refine rows_step k69 wd wd.heap.size (by rfl) (.tmp 106) (.tmp 110) 67 69 _ 136 (by rfl) Try.underlying67 info69' rfl (by decide) (by omega) v8 (all.take k ++ [z]) (all.drop (k + 1)) Ad (all.length - (k + 1)) (co - (k + 1)) (by rfl) (by rfl) HO.out (rowsC HTD.out HD.out) HD.out HD.out.size (len2 z HKL.out HAL.out) ?_; intro v14 wg hO hb hg; clear HO HD; have HD := Aside0.mk hb; have HO := Aside0.mk hO; clear hO hb hg; refine hK.out _ _ (T13.out _ (blk_below BK13.out HD.out)) (fun hHeld => ?_); clear hK K; refine norm_ (a' := ?_) ?_ ?_; rotate_left
                      · show Act.put _ (some 111) _ = _
                        simp only [Act.put, List.setIfInBounds_toArray, List.set_cons_zero, List.set_cons_succ, i64_w, i32_w]
                        rfl
                      refine pure_ (i := 13) (N := some 14) (v := ?_) (a' := ?_) #[true, true, true, true, true, true, true, true, true, true, true, true, true, true] rfl rfl (by kernel_rfl) (fun _ _ _ h => h) (Or.inl ⟨by rfl, ?_⟩) ?_ ?_; rotate_left
                      · intro w'
                        go_simp
                        with_reducible rfl
                      rotate_left
                      · simp only [Act.put, List.setIfInBounds_toArray, List.set_cons_zero, List.set_cons_succ, i64_w, i32_w]
                        rfl
                      refine done_ (by kernel_rfl) ?_; obtain ⟨Ae, ce, rfl, hce, hCe⟩ := rows_read HO.out HD.out; go_wp2; go_meet
                      case rel => exact ⟨Ae, ce, rfl, ⟨hce⟩, ⟨hCe⟩, ⟨blk_below BK13.out HD.out⟩, ⟨RZ.out.below HD.out⟩, ⟨Kd.C_below HHC.out HD.out⟩, ⟨below_step HB2.out HD.out⟩⟩
                    case rest =>
                      clear BK13 RZ0 HHC HB2 HTK0 HTD0 hs1 hs2; obtain ⟨Ae, ce, rfl, HEC, HE, BK13, RZ, HHC, HB2⟩ := hcut; have HV0 := Aside0.mk ((HB2.out.cell (World.block_lt_of_cell? wr _ HY0.out)).trans HY0.out); have HV1 := Aside0.mk ((HB2.out.cell (World.block_lt_of_cell? wr _ HY1.out)).trans HY1.out); have HV2 := Aside0.mk ((HB2.out.cell (World.block_lt_of_cell? wr _ HY2.out)).trans HY2.out); have HV3 := Aside0.mk ((HB2.out.cell (World.block_lt_of_cell? wr _ HY3.out)).trans HY3.out); have HV4 := Aside0.mk ((HB2.out.cell (World.block_lt_of_cell? wr _ HY4.out)).trans HY4.out); have HV5 := Aside0.mk ((HB2.out.cell (World.block_lt_of_cell? wr _ HY5.out)).trans HY5.out); have HV6 := Aside0.mk ((HB2.out.cell (World.block_lt_of_cell? wr _ HY6.out)).trans HY6.out); have HV7 := Aside0.mk ((HB2.out.cell (World.block_lt_of_cell? wr _ HY7.out)).trans HY7.out); have HV8 := Aside0.mk ((HB2.out.cell (World.block_lt_of_cell? wr _ HY8.out)).trans HY8.out); have HV9 := Aside0.mk ((HB2.out.cell (World.block_lt_of_cell? wr _ HY9.out)).trans HY9.out); obtain ⟨s, hs⟩ : ∃ s, sameP z y = s := ⟨_, rfl⟩; have SZ := Aside0.mk (fun W h1 h2 => rsame_c z Z8 z8 Z9 z9 y Y8 y8 Y9 y9 W h1 KZ.out h2 K2.out); rw [hs] at SZ; have HSZ := Aside0.mk hs; clear hs
                      go_upto_region 29 with (fail)
                      go_cut [117] (fun v117 wq => v117 = .bool s ∧ Aside0 (Kd.C k69 wq Ae (editL all k z).length (editL all k z)) ∧ Aside0 (Kd.C (Kd.int .u8) wq Bh 32 (digP y1)) ∧ Aside0 (Below wr.heap.size wr wq))
                      case first =>
                        have HD := Aside0.mk (below_drew1 (Below.refl wc.heap.size wc))
                        refine start_ (n := 6) (S := fun w' => w'.cell? ⟨g13, 0, none⟩ = some (.int .u64 z.f0) ∧ w'.cell? ⟨g13, 1, none⟩ = some (.int .u64 z.f1) ∧ w'.cell? ⟨g13, 2, none⟩ = some (.string z.f2) ∧ w'.cell? ⟨g13, 3, none⟩ = some (.int .i64 z.f3) ∧ w'.cell? ⟨g13, 4, none⟩ = some (.string z.f4) ∧ w'.cell? ⟨g13, 5, none⟩ = some (.string z.f5) ∧ w'.cell? ⟨g13, 6, none⟩ = some (.int .u64 z.f6) ∧ w'.cell? ⟨g13, 7, none⟩ = some (.int .i64 z.f7) ∧ w'.cell? ⟨g13, 8, none⟩ = some (.slice Z8 z.f8.length z8) ∧ w'.cell? ⟨g13, 9, none⟩ = some (.slice Z9 z.f9.length z9) ∧ w'.cell? (ad.add (k * 10)) = some (.int .u64 y.f0) ∧ w'.cell? ⟨(ad.add (k * 10)).block, (ad.add (k * 10)).off + 1, none⟩ = some (.int .u64 y.f1) ∧ w'.cell? ⟨(ad.add (k * 10)).block, (ad.add (k * 10)).off + 2, none⟩ = some (.string y.f2) ∧ w'.cell? ⟨(ad.add (k * 10)).block, (ad.add (k * 10)).off + 3, none⟩ = some (.int .i64 y.f3) ∧ w'.cell? ⟨(ad.add (k * 10)).block, (ad.add (k * 10)).off + 4, none⟩ = some (.string y.f4) ∧ w'.cell? ⟨(ad.add (k * 10)).block, (ad.add (k * 10)).off + 5, none⟩ = some (.string y.f5) ∧ w'.cell? ⟨(ad.add (k * 10)).block, (ad.add (k * 10)).off + 6, none⟩ = some (.int .u64 y.f6) ∧ w'.cell? ⟨(ad.add (k * 10)).block, (ad.add (k * 10)).off + 7, none⟩ = some (.int .i64 y.f7) ∧ w'.cell? ⟨(ad.add (k * 10)).block, (ad.add (k * 10)).off + 8, none⟩ = some (.slice Y8 y.f8.length y8) ∧ w'.cell? ⟨(ad.add (k * 10)).block, (ad.add (k * 10)).off + 9, none⟩ = some (.slice Y9 y.f9.length y9)) (ds := []) #[false, false, false, false, false, false] (by kernel_rfl) rfl rfl ⟨(blk_cell (blk_drew BK13.out) 0).trans rfl, (blk_cell (blk_drew BK13.out) 1).trans rfl, (blk_cell (blk_drew BK13.out) 2).trans rfl, (blk_cell (blk_drew BK13.out) 3).trans rfl, (blk_cell (blk_drew BK13.out) 4).trans rfl, (blk_cell (blk_drew BK13.out) 5).trans rfl, (blk_cell (blk_drew BK13.out) 6).trans rfl, (blk_cell (blk_drew BK13.out) 7).trans rfl, (blk_cell (blk_drew BK13.out) 8).trans rfl, (blk_cell (blk_drew BK13.out) 9).trans rfl, ((below_drew1 (Below.refl wc.heap.size wc)).cell (World.block_lt_of_cell? wc _ HV0.out)).trans HV0.out, ((below_drew1 (Below.refl wc.heap.size wc)).cell (World.block_lt_of_cell? wc _ HV1.out)).trans HV1.out, ((below_drew1 (Below.refl wc.heap.size wc)).cell (World.block_lt_of_cell? wc _ HV2.out)).trans HV2.out, ((below_drew1 (Below.refl wc.heap.size wc)).cell (World.block_lt_of_cell? wc _ HV3.out)).trans HV3.out, ((below_drew1 (Below.refl wc.heap.size wc)).cell (World.block_lt_of_cell? wc _ HV4.out)).trans HV4.out, ((below_drew1 (Below.refl wc.heap.size wc)).cell (World.block_lt_of_cell? wc _ HV5.out)).trans HV5.out, ((below_drew1 (Below.refl wc.heap.size wc)).cell (World.block_lt_of_cell? wc _ HV6.out)).trans HV6.out, ((below_drew1 (Below.refl wc.heap.size wc)).cell (World.block_lt_of_cell? wc _ HV7.out)).trans HV7.out, ((below_drew1 (Below.refl wc.heap.size wc)).cell (World.block_lt_of_cell? wc _ HV8.out)).trans HV8.out, ((below_drew1 (Below.refl wc.heap.size wc)).cell (World.block_lt_of_cell? wc _ HV9.out)).trans HV9.out⟩ (fun hHeld => ?_)
                        generalize World.drew wc = wd at HD hHeld ⊢; refine pure_ (i := 1) (N := some 113) (v := ?_) (a' := ?_) #[false, true, false, false, false, false] rfl rfl (by kernel_rfl) (fun _ _ _ h => h) (Or.inl ⟨by rfl, ?_⟩) ?_ ?_; rotate_left
                        · intro w'
                          go_simp
                          with_reducible rfl
                        rotate_left
                        · simp only [Act.put, List.setIfInBounds_toArray, List.set_cons_zero, List.set_cons_succ, i64_w, i32_w]
                          rfl
                        refine pure_ (i := 2) (N := some 114) (v := ?_) (a' := ?_) #[false, true, true, false, false, false] rfl rfl (by kernel_rfl) (fun _ _ _ h => h) (Or.inl ⟨by rfl, ?_⟩) ?_ ?_; rotate_left
                        · intro w'
                          go_simp
                          with_reducible rfl
                        rotate_left
                        · simp only [Act.put, List.setIfInBounds_toArray, List.set_cons_zero, List.set_cons_succ, i64_w, i32_w]
                          rfl
                        refine pure_ (i := 3) (N := some 115) (v := ?_) (a' := ?_) #[false, true, true, true, false, false] rfl rfl (by kernel_rfl) (fun _ _ _ h => h) (Or.inl ⟨by rfl, ?_⟩) ?_ ?_; rotate_left
                        · intro w'
                          go_simp
                          with_reducible rfl
                        rotate_left
                        · simp only [Act.put, List.setIfInBounds_toArray, List.set_cons_zero, List.set_cons_succ, i64_w, i32_w]
                          rfl
                        refine take_ (i := 0) (N := some 112) (v := ?_) (a' := ?_) #[true, true, true, true, false, false] rfl rfl (by kernel_rfl) (fun _ _ _ h => h) (Or.inl ⟨by rfl, ?_⟩) hHeld ?_ ?_; rotate_left
                        · rintro w' ⟨s0, s1, s2, s3, s4, s5, s6, s7, s8, s9, s10, s11, s12, s13, s14, s15, s16, s17, s18, s19⟩
                          go_simp
                          with_reducible rfl
                        rotate_left
                        · simp only [Act.put, List.setIfInBounds_toArray, List.set_cons_zero, List.set_cons_succ, i64_w, i32_w]
                          rfl
                        refine take_ (i := 4) (N := some 116) (v := ?_) (a' := ?_) #[true, true, true, true, true, false] rfl rfl (by kernel_rfl) (fun _ _ _ h => h) (Or.inl ⟨by rfl, ?_⟩) hHeld ?_ ?_; rotate_left
                        · rintro w' ⟨s0, s1, s2, s3, s4, s5, s6, s7, s8, s9, s10, s11, s12, s13, s14, s15, s16, s17, s18, s19⟩
                          go_simp
                          with_reducible rfl
                        rotate_left
                        · simp only [Act.put, List.setIfInBounds_toArray, List.set_cons_zero, List.set_cons_succ, i64_w, i32_w]
                          rfl
                        refine one_ (i := 5) (N := some 117) #[true, true, true, true, true, true] rfl rfl (by kernel_rfl) (by decide) (fun K hK => ?_); refine goes_ Try.func75 (by kernel_rfl) rfl #[.agg #[.int .u64 z.f0, .int .u64 z.f1, .string z.f2, .int .i64 z.f3, .string z.f4, .string z.f5, .int .u64 z.f6, .int .i64 z.f7, .slice Z8 z.f8.length z8, .slice Z9 z.f9.length z9], .agg #[.int .u64 y.f0, .int .u64 y.f1, .string y.f2, .int .i64 y.f3, .string y.f4, .string y.f5, .int .u64 y.f6, .int .i64 y.f7, .slice Y8 y.f8.length y8, .slice Y9 y.f9.length y9]] (by rfl) rfl rfl (by first | (simp only [List.map_toArray, List.map_cons, List.map_nil]; done) | (simp only [List.map_toArray, List.map_cons, List.map_nil]; rfl)) ?_
                        with_reducible refine (SZ.out _ (RZ.out.below HD.out) ((RY.out.below HB2.out).below HD.out)).mono ?_
                        rintro e wh ⟨rfl, hb⟩; refine ⟨_, rfl, ?_⟩; have hd_ := Aside0.mk (below_step HD.out hb); clear HD; have HD := hd_; clear hd_; clear hb; refine hK.out _ _ ⟨(blk_cell (blk_below BK13.out HD.out) 0).trans rfl, (blk_cell (blk_below BK13.out HD.out) 1).trans rfl, (blk_cell (blk_below BK13.out HD.out) 2).trans rfl, (blk_cell (blk_below BK13.out HD.out) 3).trans rfl, (blk_cell (blk_below BK13.out HD.out) 4).trans rfl, (blk_cell (blk_below BK13.out HD.out) 5).trans rfl, (blk_cell (blk_below BK13.out HD.out) 6).trans rfl, (blk_cell (blk_below BK13.out HD.out) 7).trans rfl, (blk_cell (blk_below BK13.out HD.out) 8).trans rfl, (blk_cell (blk_below BK13.out HD.out) 9).trans rfl, (HD.out.cell (World.block_lt_of_cell? wc _ HV0.out)).trans HV0.out, (HD.out.cell (World.block_lt_of_cell? wc _ HV1.out)).trans HV1.out, (HD.out.cell (World.block_lt_of_cell? wc _ HV2.out)).trans HV2.out, (HD.out.cell (World.block_lt_of_cell? wc _ HV3.out)).trans HV3.out, (HD.out.cell (World.block_lt_of_cell? wc _ HV4.out)).trans HV4.out, (HD.out.cell (World.block_lt_of_cell? wc _ HV5.out)).trans HV5.out, (HD.out.cell (World.block_lt_of_cell? wc _ HV6.out)).trans HV6.out, (HD.out.cell (World.block_lt_of_cell? wc _ HV7.out)).trans HV7.out, (HD.out.cell (World.block_lt_of_cell? wc _ HV8.out)).trans HV8.out, (HD.out.cell (World.block_lt_of_cell? wc _ HV9.out)).trans HV9.out⟩ (fun hHeld => ?_); clear hK K; refine norm_ (a' := ?_) ?_ ?_; rotate_left
                        · show Act.put _ (some 117) _ = _
                          simp only [Act.put, List.setIfInBounds_toArray, List.set_cons_zero, List.set_cons_succ, i64_w, i32_w]
                          rfl
                        refine done_ (by kernel_rfl) ?_; go_wp2; go_meet
                        case rel => exact ⟨rfl, ⟨Kd.C_below HE.out HD.out⟩, ⟨Kd.C_below HHC.out HD.out⟩, ⟨below_step HB2.out HD.out⟩⟩
                      case rest =>
                        clear BK13 RZ HHC HB2 HE HV0 HV1 HV2 HV3 HV4 HV5 HV6 HV7 HV8 HV9; obtain ⟨rfl, HE, HHC, HB2⟩ := hcut; have LE := Aside0.mk (editL_le z HKL.out HAL.out); have OE := Aside0.mk (editL_ok (n := k) OKA.out KZ.out)
                        cases s with
                        | true =>
                          have VE := Aside0.mk (verE_same (ELS.out z HSZ.out) EL0.out)
                          go_wp2_with (first
                            | (go_at_call 78; (with_reducible refine (verE Ae ce (editL all k z) 0 Bh dh y1 _ HE.out HEC.out HHC.out HHD.out LE.out OE.out VE.out).mono ?_); rintro e w5 ⟨rfl, hb⟩; have e_ := Aside0.mk (Kd.C_below HE.out hb); have h_ := Aside0.mk (Kd.C_below HHC.out hb); have nb_ := Aside0.mk (below_step HB2.out hb); clear HE HHC HB2 hb; have HE := e_; have HHC := h_; have HB2 := nb_; clear e_ h_ nb_)
                            | (go_at_call 74; (with_reducible refine (alive14 _).mono ?_); rintro e wz ⟨rfl, hb⟩; have HZ := Aside0.mk (below_step HB2.out hb); clear hb))
                          go_ret
                          exact ⟨rfl, below_step HB.out HZ.out⟩
                        | false =>
                          obtain ⟨f, hf⟩ : ∃ f, foundP all (editL all k z) = f := ⟨_, rfl⟩; have HF := Aside0.mk hf; have CF := Aside0.mk (fun W h1 h2 => rcoll_f (some ad) co all Ae ce (editL all k z) f hf W h1 CO.out h2 HEC.out (le1000 HAL.out) LE.out OKA.out OE.out); clear hf
                          cases f with
                          | true =>
                            go_wp2_with (first
                              | (go_at_call 83; (with_reducible refine (CF.out _ (Kd.C_below CA.out HB2.out) HE.out).mono ?_); rintro e w5 ⟨u0, u1, rfl, hb⟩; have e_ := Aside0.mk (Kd.C_below HE.out hb); have h_ := Aside0.mk (Kd.C_below HHC.out hb); have nb_ := Aside0.mk (below_step HB2.out hb); clear HE HHC HB2 hb; have HE := e_; have HHC := h_; have HB2 := nb_; clear e_ h_ nb_)
                              | (go_at_call 74; (with_reducible refine (alive14 _).mono ?_); rintro e wz ⟨rfl, hb⟩; have HZ := Aside0.mk (below_step HB2.out hb); clear hb))
                            go_ret
                            exact ⟨rfl, below_step HB.out HZ.out⟩
                          | false =>
                            have VE := Aside0.mk (ELD.out z HSZ.out HF.out)
                            go_wp2_with (first
                              | (go_at_call 83; (with_reducible refine (CF.out _ (Kd.C_below CA.out HB2.out) HE.out).mono ?_); rintro e w5 ⟨u0, u1, rfl, hb⟩; have e_ := Aside0.mk (Kd.C_below HE.out hb); have h_ := Aside0.mk (Kd.C_below HHC.out hb); have nb_ := Aside0.mk (below_step HB2.out hb); clear HE HHC HB2 hb; have HE := e_; have HHC := h_; have HB2 := nb_; clear e_ h_ nb_)
                              | (go_at_call 78; (with_reducible refine (verE Ae ce (editL all k z) 53 Bh dh y1 _ HE.out HEC.out HHC.out HHD.out LE.out OE.out VE.out).mono ?_); rintro e w5 ⟨rfl, hb⟩; have e_ := Aside0.mk (Kd.C_below HE.out hb); have h_ := Aside0.mk (Kd.C_below HHC.out hb); have nb_ := Aside0.mk (below_step HB2.out hb); clear HE HHC HB2 hb; have HE := e_; have HHC := h_; have HB2 := nb_; clear e_ h_ nb_)
                              | (go_at_call 74; (with_reducible refine (alive14 _).mono ?_); rintro e wz ⟨rfl, hb⟩; have HZ := Aside0.mk (below_step HB2.out hb); clear hb))
                            go_ret
                            exact ⟨rfl, below_step HB.out HZ.out⟩
end Go.Proofs.Ytlnpmodhejakiaa.AV
namespace Go.Proofs.Ytlnpmodhejakiaa.PV
open Go.RowKit Go.Proofs.YtlnpmodhejakiaaW.PrintWords Go.Proofs.YtlnpmodhejakiaaW.PrintLast Go.Proofs.YtlnpmodhejakiaaW.PrintMore Go.Proofs.Ytlnpmodhejakiaa.D Go.Proofs.Ytlnpmodhejakiaa.AV
open Go.Proofs.Ytlnpmodhejakiaa.PV (S69)
open Classical in
noncomputable def stelelaw14_AuditEdited.f (l0 : List S69) (a1 : Int) (a2 : Int) (a3_0 : Int) (a3_1 : Int) (a3_2 : ByteArray) (a3_3 : Int) (a3_4 : ByteArray) (a3_5 : ByteArray) (a3_6 : Int) (a3_7 : Int) (l3_8 : List Int) (l3_9 : List Int) : Option Bool := if (l0.length + 1) * 136 ≤ 140737488355328 ∧ (∀ y ∈ l0, rawX y) ∧ rawX ⟨a3_0, a3_1, a3_2, a3_3, a3_4, a3_5, a3_6, a3_7, l3_8, l3_9⟩ ∧ a1 ≤ 9223372036854775807 ∧ a2 ≤ 9223372036854775807 then some true else none
theorem stelelaw14_AuditEdited.calls (A0 : Option Addr) (c0 : Nat) (l0 : List S69) (a1 : Int) (a2 : Int) (a3_0 : Int) (a3_1 : Int) (a3_2 : ByteArray) (a3_3 : Int) (a3_4 : ByteArray) (a3_5 : ByteArray) (a3_6 : Int) (a3_7 : Int) (A3_8 : Option Addr) (c3_8 : Nat) (l3_8 : List Int) (A3_9 : Option Addr) (c3_9 : Nat) (l3_9 : List Int) (r : Bool) (w : World) (hr0 : Kd.C k69 w A0 l0.length l0) (hc0 : l0.length ≤ c0) (hr3_8 : Kd.C (Kd.int .u8) w A3_8 l3_8.length l3_8) (hc3_8 : l3_8.length ≤ c3_8) (hr3_9 : Kd.C (Kd.int .u8) w A3_9 l3_9.length l3_9) (hc3_9 : l3_9.length ≤ c3_9) (h : stelelaw14_AuditEdited.f l0 a1 a2 a3_0 a3_1 a3_2 a3_3 a3_4 a3_5 a3_6 a3_7 l3_8 l3_9 = some r) :
    Calls Try.prog 18 #[.slice A0 l0.length c0, .int .i64 a1, .int .i64 a2, .agg #[.int .u64 a3_0, .int .u64 a3_1, .string a3_2, .int .i64 a3_3, .string a3_4, .string a3_5, .int .u64 a3_6, .int .i64 a3_7, .slice A3_8 l3_8.length c3_8, .slice A3_9 l3_9.length c3_9]] w fun e w' => e = .returned (.bool r) ∧ Below w.heap.size w w' := by
  unfold stelelaw14_AuditEdited.f at h
  split at h
  · rename_i hh
    obtain rfl := Option.some.inj h
    have hall : ∀ u ∈ l0 ++ [(⟨a3_0, a3_1, a3_2, a3_3, a3_4, a3_5, a3_6, a3_7, l3_8, l3_9⟩ : S69)], rawX u := by
      intro u hu
      rcases List.mem_append.1 hu with hu | hu
      · exact hh.2.1 u hu
      · obtain rfl := List.mem_singleton.1 hu; exact hh.2.2.1
    exact edited_any A0 c0 l0 a1 a2 ⟨a3_0, a3_1, a3_2, a3_3, a3_4, a3_5, a3_6, a3_7, l3_8, l3_9⟩ A3_8 c3_8 A3_9 c3_9 w hr0 hc0 ⟨hr3_8, hc3_8, hr3_9, hc3_9⟩ hh.1 (fun u hu => (hall u hu).small) (fun hL => ⟨by have := (light_m hL).1; rw [List.length_append, List.length_singleton] at this; omega, fun u hu => ⟨(hall u hu).ok ((light_m hL).2 u hu), (light_m hL).2 u hu⟩⟩) hh.2.2.2.1
  · cases h
end Go.Proofs.Ytlnpmodhejakiaa.PV
