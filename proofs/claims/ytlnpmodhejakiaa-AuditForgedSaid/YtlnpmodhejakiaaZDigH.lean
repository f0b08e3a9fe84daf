/- digest: (state).sum of a SHA-256. -/
import Derived.Deep.LoopGhost
import Derived.Test.YtlnpmodhejakiaaZDigF
namespace Go.Proofs.Ytlnpmodhejakiaa.D
open Go.RowKit Go.Proofs.YtlnpmodhejakiaaW.PrintWords Go.Proofs.YtlnpmodhejakiaaW.PrintLast Go.Proofs.YtlnpmodhejakiaaW.PrintMore Go.Proofs.Ytlnpmodhejakiaa.Sha
set_option linter.unusedVariables false
set_option linter.unusedSimpArgs false
theorem infoU8 : (Try.prog.info? 5).map (fun i => (i.zero, i.size, i.bytes)) = some (some (.int .u8 0), 1, 1) := by kernel_rfl
theorem lit_C (w : World) (T : TypeId) (l : List Int) (hl : l.length ≤ 100) : Kd.C (Kd.int .u8) (w.alloc (.cells ((l.map (Value.int .u8)).toArray) T)) (some ⟨w.heap.size, 0, none⟩) l.length l := by
  refine ⟨rfl, by omega, fun _ => ⟨_, rfl, fun j p hj => ⟨[.int .u8 p], rfl, rfl, fun i u hu => ?_⟩⟩⟩
  have hi : i = 0 := by have := (List.getElem?_eq_some_iff.1 hu).1; simp at this; omega
  subst hi
  have hu' : u = .int .u8 p := by simpa using hu.symm
  subst hu'
  rw [addr_add, blk_cell (blk_new w _), show 0 + (j * (Kd.int IntKind.u8).sz + 0) = j from by show 0 + (j * 1 + 0) = j; omega]
  simp [hj]
theorem below_wr {w w1 w2 : World} {g : Nat} (HB : Below w.heap.size w w1) (hW : Wr w1.heap.size g w1 w2) (hg : w.heap.size ≤ g) : Below w.heap.size w w2 := HB.trans ((hW.lower HB.size).below hg)
theorem zeros_end (n i : Nat) (h : i ≤ zeros n) : (n + i) % 64 = 56 ↔ i = zeros n := by unfold zeros at *; omega
theorem lenB_get (n t : Nat) (h : t < 8) : (lenB n).getD t 0 = (((n * 8) / 2 ^ (56 - 8 * t) % 256 : Nat) : Int) := by
  match t, h with
  | 0, _ => rfl | 1, _ => rfl | 2, _ => rfl | 3, _ => rfl | 4, _ => rfl | 5, _ => rfl | 6, _ => rfl
  | 7, _ => simp [lenB]
theorem lenB_val (n t : Nat) (i7 : Int) (h : 56 - 8 * (t : Int) = i7) (ht : t < 8) : (n : Int) * 8 / 2 ^ i7.toNat % 256 = (lenB n).getD t 0 := by
  subst h
  rw [show (56 - 8 * (t : Int)).toNat = 56 - 8 * t by omega, lenB_get n t ht, Int.natCast_emod, Int.natCast_ediv, Int.natCast_mul, Int.natCast_pow]
  rfl
theorem lenB_len (n : Nat) : (lenB n).length = 8 := rfl
theorem lenB_bd (n : Nat) : ∀ x ∈ lenB n, 0 ≤ x ∧ x ≤ 255 := by
  intro x hx
  simp only [lenB, List.mem_cons, List.not_mem_nil, or_false] at hx
  rcases hx with h | h | h | h | h | h | h | h <;> subst h <;> omega
theorem pad_bd (n : Nat) : ∀ x ∈ pad n, 0 ≤ x ∧ x ≤ 255 := by
  intro x hx
  simp only [pad, List.cons_append, List.mem_cons, List.mem_append, List.mem_replicate] at hx
  rcases hx with h | ⟨_, h⟩ | h
  · subst h; omega
  · subst h; omega
  · exact lenB_bd n x h
theorem stC_word (fn : Nat) (s : HS) (i : Nat) (hi : i < 8) : (stC fn s)[i]? = some (.int .u32 (n32 (s.h.l.getD i 0))) := app_get s.h.l _ i hi
theorem by4_eq (x : W) : by4 x = [n32 x / 16777216 % 256, n32 x / 65536 % 256, n32 x / 256 % 256, n32 x % 256] := by
  have h := x.isLt
  unfold by4 n32
  simp only [Nat.reducePow] at h
  have : x.toNat / 16777216 < 256 := by omega
  simp only [List.cons.injEq, and_true]
  refine ⟨by omega, by omega, by omega, by omega⟩
theorem flat_take (l : List W) (k : Nat) (h : k < l.length) : (l.take (k + 1)).flatMap by4 = (l.take k).flatMap by4 ++ by4 (l.getD k 0) := by
  rw [List.take_succ_eq_append_getElem h, List.flatMap_append, List.getD_eq_getElem?_getD, List.getElem?_eq_getElem h]
  simp
theorem flat_len (l : List W) : (l.flatMap by4).length = 4 * l.length := by
  induction l with
  | nil => rfl
  | cons a l ih => rw [List.flatMap_cons, List.length_append, ih, List.length_cons]; simp [by4]; omega
set_option maxHeartbeats 4000000 in
set_option maxRecDepth 100000 in
theorem sum256_any (s : HS) (hs : okS s) (hn : s.n ≤ 1152921504606846976) (words : Nat) (hwo : words ≤ 8) (w : World) :
    Calls Try.prog 120 #[.agg (stC 179 s), .int .i64 (words : Int)] w fun e w' => ∃ v0_ : Value, e = .returned v0_ ∧ Kd.R (Kd.int .u8) 5 w' w.heap.size (fun _ => True) v0_ (sumB comp256 s words) ∧ Below w.heap.size w w' := by
  have HS := Aside0.mk hs
  clear hs
  have hsz := Aside0.mk (stC_size 179 s HS.out.1)
  go_enter Try.func120, Try.ntmps120
  go_wp2_with (first
    | ((with_reducible refine gate_dst (N := 2) rfl ?_); refine box_event ?hg (N := 2) ?hd (cs := stC 179 s) (t := 138) ?hr ?_; (case hd => rfl); (case hg => rfl); (case hr => have hsz' := hsz.out; first | (go_simp; done) | (go_simp; rfl)); intro g2 hg2 w1 hbox hBl; have HB := Aside0.mk hBl; have K2 := Aside0.mk hbox; have G2 := Aside0.mk (Nat.le_of_eq hg2.symm); have c72 := (blk_cell hbox 72).trans (stC_72 179 s HS.out.1); clear hg2 hbox hBl)
    | (go_at_call 119; refine (add256_any g2 138 s HS.out _ 1 [128] _ (lit_C w1 5 [128] (by simp)) (by simp) (by intro _ ad h; injection h with h; subst h; have := blk_lt K2.out; show w1.heap.size ≠ g2; omega) (by simp) (by simp; omega) (blk_alloc K2.out _)).mono ?_; rintro e w2 ⟨rfl, hg3, hW3⟩; have k2_ := Aside0.mk hg3; have hb_ := Aside0.mk (below_wr (below_alloc HB.out _) hW3 G2.out); clear c72 K2 HB hg3 hW3; have K2 := k2_; have HB := hb_; clear k2_ hb_))
  obtain ⟨S1, hS1e⟩ : ∃ X, add comp256 s [128] = X := ⟨_, rfl⟩
  have hS1 := Aside0.mk (show okS S1 by rw [← hS1e]; exact okS_add comp256 s [128] HS.out (by simp))
  have hS1n := Aside0.mk (show S1.n = s.n + 1 by rw [← hS1e, add_n]; rfl)
  rw [hS1e] at K2
  have HS1 := Aside0.mk hS1e
  clear hS1e
  go_loopg [] (zeros (s.n + 1)) (fun g wr => ∃ i : Nat, i + g = zeros (s.n + 1) ∧ Aside0 (wr.heap[g2]? = some (.cells (stC 179 (add comp256 S1 (List.replicate i 0))) 138 (0, 0))) ∧ Aside0 (Below w.heap.size w wr))
  case atStart => exact ⟨0, by omega, K2, HB⟩
  case round =>
    clear K2 HB
    obtain ⟨i, hi, K2, HB⟩ := hrel
    have hSi := Aside0.mk (okS_add comp256 S1 (List.replicate i 0) hS1.out (by intro x hx; rw [List.mem_replicate] at hx; omega))
    have hSn := add_n comp256 S1 (List.replicate i 0)
    rw [List.length_replicate, hS1n.out] at hSn
    have hz : zeros (s.n + 1) < 64 := by unfold zeros; omega
    have hend := zeros_end (s.n + 1) i (by omega)
    obtain ⟨z, hze⟩ : ∃ z, zeros (s.n + 1) = z := ⟨_, rfl⟩
    rw [hze] at hz hend hi
    have hnx := Aside0.mk (add_append comp256 S1 (List.replicate i 0) [0])
    obtain ⟨S, hSe⟩ : ∃ X, add comp256 S1 (List.replicate i 0) = X := ⟨_, rfl⟩
    have HSE := Aside0.mk hSe
    rw [hSe] at K2 hSi hSn hnx
    clear hSe
    have c72 := (blk_cell K2.out 72).trans (stC_72 _ S hSi.out.1)
    obtain ⟨nn, hnn⟩ : ∃ n, S.n = n := ⟨_, rfl⟩
    rw [hnn] at c72 hSn
    have hnb : nn ≤ 1152921504606847100 := by omega
    have HNN := Aside0.mk hnn
    clear hnn
    by_cases hlt : i = z
    · have h56 : nn % 64 = 56 := by rw [hSn]; exact hend.2 hlt
      have b1 : ((nn : Int) % 64 != 56) = false := by rw [bne_eq_false_iff_eq]; omega
      have HZ := Aside0.mk hze
      have HI := Aside0.mk hlt
      have HSN := Aside0.mk hSn
      clear h56 hend hlt hze hSn hi
      go_wp2
      have K2' : Aside0 (wr.heap[g2]? = some (.cells (stC 179 (add comp256 s (128 :: List.replicate z 0))) 138 (0, 0))) := ⟨by rw [show (128 :: List.replicate z (0 : Int)) = [128] ++ List.replicate z 0 from rfl, add_append, HS1.out, ← HI.out, HSE.out]; exact K2.out⟩
      clear K2 c72
      obtain ⟨S2, hS2e⟩ : ∃ X, add comp256 s (128 :: List.replicate z 0) = X := ⟨_, rfl⟩
      have hS2 := Aside0.mk (show okS S2 by rw [← hS2e]; exact okS_add comp256 s _ HS.out (by intro x hx; rcases List.mem_cons.1 hx with h | h; (· subst h; omega); (· rw [List.mem_replicate] at h; omega)))
      have hS2n := Aside0.mk (show S2.n = nn by rw [← hS2e, add_n, List.length_cons, List.length_replicate, HSN.out, HI.out]; omega)
      rw [hS2e] at K2'
      have HS2 := Aside0.mk hS2e
      clear hS2e
      have G2' := Aside0.mk (show w.heap.size ≤ g2 by have := G2.out; exact this)
      go_loopg [7] 8 (fun g v7 wr => ∃ t : Nat, t + g = 8 ∧ v7 = .int .i64 (56 - 8 * (t : Int)) ∧ Aside0 (wr.heap[g2]? = some (.cells (stC 179 (add comp256 S2 ((lenB s.n).take t))) 138 (0, 0))) ∧ Aside0 (Below w.heap.size w wr))
      case atStart => exact ⟨0, by omega, rfl, K2', HB⟩
      case round =>
        clear K2' HB
        obtain ⟨t, ht, rfl, K2, HB⟩ := hrel
        obtain ⟨i7, hi7⟩ : ∃ x : Int, 56 - 8 * (t : Int) = x := ⟨_, rfl⟩
        rw [hi7]
        by_cases hlt : t < 8
        · have i70 : 0 ≤ i7 := by omega
          have i71 : i7 ≤ 56 := by omega
          have hSi := Aside0.mk (okS_add comp256 S2 ((lenB s.n).take t) hS2.out (fun x hx => lenB_bd s.n x (List.mem_of_mem_take hx)))
          have hSn := Aside0.mk (show (add comp256 S2 ((lenB s.n).take t)).n ≤ 1152921504606847200 by rw [add_n, hS2n.out, List.length_take]; omega)
          have hb := Aside0.mk (lenB_get s.n t hlt)
          have hbb := Aside0.mk (lenB_bd s.n ((lenB s.n).getD t 0) (by rw [List.getD_eq_getElem?_getD, List.getElem?_eq_getElem (by rw [lenB_len]; exact hlt)]; exact List.getElem_mem _))
          have hnx := Aside0.mk (show add comp256 S2 ((lenB s.n).take (t + 1)) = add comp256 (add comp256 S2 ((lenB s.n).take t)) [(lenB s.n).getD t 0] by rw [← add_append, List.take_succ_eq_append_getElem (by rw [lenB_len]; exact hlt), List.getD_eq_getElem?_getD, List.getElem?_eq_getElem (by rw [lenB_len]; exact hlt)]; rfl)
          obtain ⟨S, hSe⟩ : ∃ X, add comp256 S2 ((lenB s.n).take t) = X := ⟨_, rfl⟩
          rw [hSe] at K2 hSi hSn hnx
          clear hSe
          have HI7 := Aside0.mk hi7
          have HT := Aside0.mk ht
          clear hi7 ht
          have hv := Aside0.mk (lenB_val s.n t i7 HI7.out hlt)
          go_wp2_with (go_at_call 119; refine (add256_any g2 138 S hSi.out _ 1 [(s.n : Int) * 8 / 2 ^ i7.toNat % 256] _ (lit_C wr 5 [(s.n : Int) * 8 / 2 ^ i7.toNat % 256] (by simp)) (by simp) (by intro _ ad h; injection h with h; subst h; have := blk_lt K2.out; show wr.heap.size ≠ g2; omega) (by intro x hx; rw [List.mem_singleton.1 hx, hv.out]; exact hbb.out) (by have := hSn.out; simp; omega) (blk_alloc K2.out _)).mono ?_; rintro e w2 ⟨rfl, hg3, hW3⟩; have k2_ := Aside0.mk hg3; have hb_ := Aside0.mk (below_wr (below_alloc HB.out _) hW3 G2'.out); clear K2 HB hg3 hW3; have K2 := k2_; have HB := hb_; clear k2_ hb_)
          go_roundg (8 - (t + 1))
          case measure => have := HT.out; omega
          case rel => exact ⟨t + 1, by omega, by have := HI7.out; congr 1; omega, ⟨by rw [hnx.out, ← hv.out]; exact K2.out⟩, HB⟩
        · have ht8 : t = 8 := by omega
          subst ht8
          have hi8 : i7 = -8 := by omega
          subst hi8
          clear hi7 ht hlt
          rw [List.take_of_length_le (by rw [lenB_len]; omega)] at K2
          have HP := Aside0.mk (show add comp256 s (pad s.n) = add comp256 S2 (lenB s.n) by rw [show pad s.n = (128 :: List.replicate (zeros (s.n + 1)) 0) ++ lenB s.n from rfl, add_append, HZ.out, HS2.out])
          have hSok := Aside0.mk (okS_add comp256 S2 (lenB s.n) hS2.out (lenB_bd s.n))
          obtain ⟨S3, hS3⟩ : ∃ X, add comp256 S2 (lenB s.n) = X := ⟨_, rfl⟩
          rw [hS3] at K2 HP hSok
          clear hS3
          have lw : (words : Int) ≤ 8 := by omega
          go_wp2
          go_loopw [6, 36] (fun v6 v36 wr => ∃ k : Nat, k ≤ words ∧ v36 = .int .i64 k ∧ Aside0 (wr.heap[g2]? = some (.cells (stC 179 S3) 138 (0, 0))) ∧ Aside0 (Kd.R (Kd.int .u8) 5 wr w.heap.size (fun _ => True) v6 ((S3.h.l.take k).flatMap by4)) ∧ Aside0 (Below w.heap.size w wr)) (fun _ v36 _ => words - (intOf v36).toNat)
          case atStart => exact ⟨0, Nat.zero_le _, rfl, K2, ⟨Kd.R_nil _ _ _ _ _⟩, HB⟩
          case round =>
            clear K2 HB
            obtain ⟨k, hk, rfl, K2, HO, HB⟩ := hrel
            by_cases hlt : k < words
            · have hk8 : k < 8 := by omega
              have ck := (blk_cell K2.out k).trans (stC_word _ S3 k hk8)
              have hft := Aside0.mk (flat_take S3.h.l k hk8)
              have hfl := Aside0.mk (show ((S3.h.l.take k).flatMap by4).length ≤ 32 by rw [flat_len, List.length_take, V8_len]; omega)
              obtain ⟨X, hX⟩ : ∃ X, S3.h.l.getD k 0 = X := ⟨_, rfl⟩
              rw [hX, by4_eq] at hft
              rw [hX] at ck
              clear hX
              have lk : (k : Int) < 8 := by omega
              have lkw : (k : Int) < words := by omega
              have hne := Aside0.mk (Kd.R_ne HO.out K2.out (by decide))
              go_wp2_with (at_builtin; refine Kd.R_append_row (Value.int .u8) (0 : Int) (h1 := fun _ => rfl) (w0 := w) w.heap.size rfl (.tmp 40) (.tmp 52) 22 5 (.int .u8 0) 1 rfl Try.underlying22 infoU8 rfl (by decide) _ ((S3.h.l.take k).flatMap by4) [n32 X / 16777216 % 256, n32 X / 65536 % 256, n32 X / 256 % 256, n32 X % 256] (some ⟨wr.heap.size, 0, none⟩) 4 4 (fun _ => True) rfl rfl (fun _ _ => trivial) (Kd.R_alloc HO.out _) (lit_C wr 5 [n32 X / 16777216 % 256, n32 X / 65536 % 256, n32 X / 256 % 256, n32 X % 256] (by simp)) (below_alloc HB.out _) (by have := HB.out.size; simp; omega) (by have := hfl.out; omega) ?_; intro v1 w5 ho hb hg hat; have o_ := Aside0.mk ho; have b_ := Aside0.mk hb; have k2_ := Aside0.mk (blk_grown (blk_alloc K2.out _) hg hne.out); clear ho hb hg hat)
              go_roundw
              · exact ⟨k + 1, by omega, by simp, k2_, ⟨by rw [hft.out]; exact o_.out⟩, b_⟩
              · show words - ((k : Int) + 1).toNat < words - (k : Int).toNat; omega
            · obtain rfl : k = words := by omega
              go_wp2
              go_ret
              refine ⟨_, rfl, ?_, HB.out⟩
              unfold sumB
              rw [HP.out]
              exact HO.out
    · have h56 : nn % 64 ≠ 56 := by rw [hSn]; exact fun h => hlt (hend.1 h)
      have b1 : ((nn : Int) % 64 != 56) = true := by rw [bne_iff_ne]; omega
      have hilt : i < z := by omega
      have HZ := Aside0.mk hze
      clear h56 hend hlt hze hSn
      go_wp2_with (go_at_call 119; refine (add256_any g2 138 S hSi.out _ 1 [0] _ (lit_C wr 5 [0] (by simp)) (by simp) (by intro _ ad h; injection h with h; subst h; have := blk_lt K2.out; show wr.heap.size ≠ g2; omega) (by simp) (by have := HNN.out; simp; omega) (blk_alloc K2.out _)).mono ?_; rintro e w2 ⟨rfl, hg3, hW3⟩; have k2_ := Aside0.mk hg3; have hb_ := Aside0.mk (below_wr (below_alloc HB.out _) hW3 (by have := G2.out; have := HB.out.size; have := blk_lt K2.out; first | omega | exact Nat.le_trans (by omega) G2.out)); clear c72 K2 HB hg3 hW3; have K2 := k2_; have HB := hb_; clear k2_ hb_)
      go_roundg (z - (i + 1))
      case measure => omega
      case rel => exact ⟨i + 1, by have := HZ.out; omega, ⟨by rw [List.replicate_succ', hnx.out]; exact K2.out⟩, HB⟩
end Go.Proofs.Ytlnpmodhejakiaa.D
