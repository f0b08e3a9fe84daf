/- digest: (*state).add of a SHA-1. -/
import Derived.Test.YtlnpmodhejakiaaDigF
import Derived.Laws.CopyOwn
namespace Go.Proofs.Ytlnpmodhejakiaa.D
open Go.RowKit Go.Proofs.YtlnpmodhejakiaaW.PrintWords Go.Proofs.YtlnpmodhejakiaaW.PrintLast Go.Proofs.YtlnpmodhejakiaaW.PrintMore Go.Proofs.Ytlnpmodhejakiaa.Sha
set_option linter.unusedVariables false
set_option linter.unusedSimpArgs false

set_option maxHeartbeats 4000000 in
set_option maxRecDepth 100000 in
/-- ADD -/
theorem add1_any (gs : Nat) (T : TypeId) (s : HS) (hs : okS s) (A : Option Addr) (c : Nat) (l : List Int) (w : World)
    (hr0 : Kd.C (Kd.int .u8) w A l.length l) (hc0 : l.length ≤ c) (hA : 0 < l.length → ∀ ad, A = some ad → ad.block ≠ gs) (hl : ∀ x ∈ l, 0 ≤ x ∧ x ≤ 255) (hn : s.n + l.length ≤ 4611686018427387904) (hg : w.heap[gs]? = some (.cells (stC 178 s) T (0, 0))) :
    Calls Try.prog 119 #[.pointer (some ⟨gs, 0, none⟩), .slice A l.length c] w fun e w' => e = .returned (.tuple #[]) ∧ w'.heap[gs]? = some (.cells (stC 178 (add comp1 s l)) T (0, 0)) ∧ Wr w.heap.size gs w w' := by
  have HG := Aside0.mk hg
  have HR := Aside0.mk hr0
  have HL := Aside0.mk hl
  have HS := Aside0.mk hs
  have HA := Aside0.mk hA
  clear hg hr0 hl hs hA
  go_enter Try.func119, Try.ntmps119
  go_wp2
  go_loopw [1] (fun v wr => ∃ (k : Nat) (A' : Option Addr), k ≤ l.length ∧ v = .slice A' (l.length - k) (c - k) ∧ Aside0 (k < l.length → ∃ ad, A = some ad ∧ A' = some (ad.add k)) ∧ Aside0 (wr.heap[gs]? = some (.cells (stC 178 (add comp1 s (l.take k))) T (0, 0))) ∧ Aside0 (Wr w.heap.size gs w wr)) (fun v _ => sliceLen v)
  case atStart =>
    refine ⟨0, A, Nat.zero_le _, rfl, ⟨fun h => ?_⟩, ⟨HG.out⟩, ⟨Wr.refl _ _ _⟩⟩
    obtain ⟨ad, h1, _⟩ := HR.out.2.2 h
    refine ⟨ad, h1, ?_⟩
    rw [h1]; unfold Addr.add; rfl
  case round =>
    obtain ⟨k, A', hk, rfl, HA', KG, HW⟩ := hrel
    by_cases hlt : k < l.length
    · obtain ⟨ad, rfl, rfl⟩ := HA'.out hlt
      have hS := Aside0.mk (okS_add comp1 s (l.take k) HS.out (fun x hx => HL.out x (List.mem_of_mem_take hx)))
      have hSn := add_n comp1 s (l.take k)
      rw [List.length_take, Nat.min_eq_left hk] at hSn
      have hnx := Aside0.mk (fun q => add_append comp1 s (l.take k) ((l.drop k).take q))
      obtain ⟨S, hSe⟩ : ∃ S, add comp1 s (l.take k) = S := ⟨_, rfl⟩
      rw [hSe] at KG hS hSn hnx
      clear hSe
      obtain ⟨m, hm⟩ : ∃ m, l.length - k = m := ⟨_, rfl⟩
      obtain ⟨cc, hcc⟩ : ∃ m, c - k = m := ⟨_, rfl⟩
      rw [hm, hcc]
      have hm0 : 0 < m := by omega
      have hmc : m ≤ cc := by omega
      have hmb : m ≤ 4611686018427387904 := by omega
      have HM := Aside0.mk hm
      have HC := Aside0.mk hcc
      have HN := Aside0.mk hSn
      have hSb : S.n + m ≤ 4611686018427387904 := by omega
      clear hm hcc hSn
      have c72 := (blk_cell KG.out 72).trans (stC_72 178 S hS.out.1)
      obtain ⟨n, hne⟩ : ∃ n, S.n = n := ⟨_, rfl⟩
      have hnb : n < 4611686018427387904 := by omega
      rw [hne] at c72
      have HNE := Aside0.mk hne
      clear hne
      have e64 : (n : Int).tmod 64 = ((n % 64 : Nat) : Int) := by rw [Int.tmod_eq_emod_of_nonneg (by omega)]; omega
      obtain ⟨j, hj⟩ : ∃ j, n % 64 = j := ⟨_, rfl⟩
      have hj64 : j < 64 := by omega
      rw [hj] at e64
      have HJ := Aside0.mk hj
      clear hj
      have j64 : (j : Int) ≤ 64 := by omega
      go_wp2
      refine wp_region_still_tail 10 (by kernel_rfl) (by kernel_rfl) ?_
      simp only [List.take_succ_cons, List.take_zero, List.drop_succ_cons, List.drop_zero]
      change wpStill _ _ (World.drew _) (fun a' => wpList _ _ _ _ a' (World.drew _)) _ _
      replace c72 : (wr.drew).cell? ⟨gs, 72, none⟩ = some (.int .u64 (n : Int)) := c72
      have kg_ : (wr.drew).heap[gs]? = _ := KG.out
      have hw_ : Wr w.heap.size gs w wr.drew := HW.out.drew
      generalize wr.drew = w2 at c72 kg_ hw_ ⊢
      clear KG HW
      have KG := Aside0.mk kg_
      have HW := Aside0.mk hw_
      clear kg_ hw_
      iterate 10 still_step
      refine wpStill_nil ?_
      rw [if_neg (show ¬ 64 = j by omega)]
      obtain ⟨q, hq⟩ : ∃ q, min m (64 - j) = q := ⟨_, rfl⟩
      have hq0 : 0 < q := by omega
      have hqm : q ≤ m := by omega
      have hqj : j + q ≤ 64 := by omega
      have hqc : q ≤ cc := by omega
      have HQ := Aside0.mk hq
      clear hq
      have hcl : (((l.drop k).take q).map (Value.int .u8)).length = q := by rw [List.length_map, List.length_take, List.length_drop]; have := HM.out; omega
      have hch := Aside0.mk hcl
      clear hcl
      by_cases hcq : cc = q
      all_goals
        refine copy_event rfl (.tmp 16) (.tmp 17) 22 22 rfl 5 Try.underlying22 info8b gs (8 + j) (64 - j) (64 - j) (ad.add k) m cc rfl rfl (stC 178 S) (stC 178 ⟨S.h, spliceB S.block j ((l.drop k).take q), S.n⟩) T KG.out (((l.drop k).take q).map (Value.int .u8)) ?h1 (src_cells HR.out (HA.out (by omega) ad rfl) HW.out k q) ?h2 ?h3 ?h4 q hch.out ?_
        (case h1 => rw [hch.out]; exact HQ.out.symm)
        (case h2 => rw [hch.out, stC_size _ _ hS.out.1]; omega)
        (case h3 => intro u hu; simp only [List.mem_map] at hu; obtain ⟨x, _, rfl⟩ := hu; rfl)
        (case h4 => exact stC_splice _ _ hS.out.1 j _ (by have := hch.out; rw [List.length_map] at this; omega))
        intro w3 hb3 hW3
        have k_ := Aside0.mk hb3
        have w_ := Aside0.mk (HW.out.trans hW3 HW.out.size)
        clear KG HW c72 hb3 hW3
        have KG := k_
        have HW := w_
        clear k_ w_
        obtain ⟨spl, hspl⟩ : ∃ X, spliceB S.block j ((l.drop k).take q) = X := ⟨_, rfl⟩
        rw [hspl] at KG
        have HSPL := Aside0.mk hspl
        clear hspl
        have hbl := Aside0.mk (show spl.length = 64 by rw [← HSPL.out, spliceB_len _ _ _ (by have := hch.out; rw [List.length_map] at this; have := hS.out.1; omega)]; exact hS.out.1)
        have c72 := (blk_cell KG.out 72).trans (stC_72 _ ⟨S.h, spl, S.n⟩ hbl.out)
        have f72 := blk_frozen KG.out 72
        replace c72 : w3.cell? ⟨gs, 72, none⟩ = some (.int .u64 (n : Int)) := (by rw [c72, ← HNE.out])
        have hnq : n + q ≤ 4611686018427387904 := by have := HNE.out; omega
        have hadd := Aside0.mk (add_step comp1 s S l k q n spl (hnx.out q) hS.out (by have := hch.out; rw [List.length_map] at this; exact this) hq0 (by rw [HNE.out, HJ.out]; exact hqj) (by rw [HNE.out, HJ.out]; exact HSPL.out) HNE.out)
        have kg4 := Aside0.mk (blk_put KG.out 72 (.int .u64 ((n : Int) + (q : Int))) (cs' := stC 178 ⟨S.h, spl, n + q⟩) (by rw [show (n : Int) + (q : Int) = ((n + q : Nat) : Int) by omega]; exact stC_n _ ⟨S.h, spl, S.n⟩ hbl.out (n + q)))
        have hw4 := Aside0.mk (HW.out.setCell 72 (.int .u64 ((n : Int) + (q : Int))))
        by_cases hz : (n + q) % 64 = 0
        · have hzb : (((n : Int) + (q : Int)) % 64 == 0) = true := by rw [beq_iff_eq]; omega
          have hadd2 := Aside0.mk (hadd.out.trans (by rw [if_pos hz]))
          clear hz
          go_wp2
          refine wp_region_still_tail 11 (by kernel_rfl) (by kernel_rfl) ?_
          simp only [List.take_succ_cons, List.take_zero, List.drop_succ_cons, List.drop_zero]
          change wpStill _ _ (World.drew _) (fun a' => wpList _ _ _ _ a' (World.drew _)) _ _
          have kg_ : ((w3.setCell ⟨gs, 72, none⟩ (.int .u64 ((n : Int) + (q : Int)))).drew).heap[gs]? = _ := kg4.out
          have hw_ : Wr w.heap.size gs w ((w3.setCell ⟨gs, 72, none⟩ (.int .u64 ((n : Int) + (q : Int)))).drew) := hw4.out.drew
          generalize (w3.setCell ⟨gs, 72, none⟩ (.int .u64 ((n : Int) + (q : Int)))).drew = w5 at kg_ hw_ ⊢
          clear KG HW kg4 hw4 c72 f72
          have KG := Aside0.mk kg_
          have HW := Aside0.mk hw_
          clear kg_ hw_
          have c73 := (blk_cell KG.out 73).trans (stC_73 _ ⟨S.h, spl, n + q⟩ hbl.out)
          iterate 10 still_step
          refine still_load_part rfl 135 _ rfl gs 8 rfl (aU8 spl).toList _ ?h1 Try.underlying135 rfl ?h2 ?_
          case h1 =>
            intro i v hv
            rw [blk_cell KG.out]
            have hi : i < 64 := by have := (List.getElem?_eq_some_iff.1 hv).1; simp [aU8_size, hbl.out] at this; exact this
            rw [stC_block _ ⟨S.h, spl, n + q⟩ hbl.out i hi, ← Array.getElem?_toList]; exact hv
          case h2 => rw [Array.length_toList, aU8_size, hbl.out]; exact info64b
          rw [Array.toArray_toList]
          refine wpStill_nil ?_
          have hsb := Aside0.mk (show ∀ x ∈ spl, 0 ≤ x ∧ x ≤ 255 by rw [← HSPL.out]; exact spliceB_bd _ _ _ hS.out.2 (fun x hx => HL.out x (List.mem_of_mem_drop (List.mem_of_mem_take hx))))
          clear c73
          go_wp2_with (go_at_call 178; refine (rounds1_ok gs T (aU8 spl ++ #[.int .u64 ((n + q : Nat) : Int), .func (.func 178) #[] #[]]) S.h spl hbl.out hsb.out _ KG.out).mono ?_; rintro e w6 ⟨rfl, hg6, hW6⟩; have k6_ := Aside0.mk hg6; have w6_ := Aside0.mk (HW.out.trans hW6 HW.out.size); clear hg6 hW6)
          go_roundw
          · first
            | exact ⟨k + q, some (ad.add k), (by have := HM.out; omega), (by rw [show l.length - (k + q) = m - q by have := HM.out; omega, show c - (k + q) = 0 by have := HC.out; omega]), ⟨fun h => by exfalso; have := HM.out; omega⟩, ⟨by rw [hadd2.out]; exact k6_.out⟩, w6_⟩
            | exact ⟨k + q, some ((ad.add k).add q), (by have := HM.out; omega), (by rw [show l.length - (k + q) = m - q by have := HM.out; omega, show c - (k + q) = cc - q by have := HC.out; omega]), ⟨fun h => ⟨ad, rfl, by rw [Addr.add_add]⟩⟩, ⟨by rw [hadd2.out]; exact k6_.out⟩, w6_⟩
          · show m - q < m; omega
        · have hzb : (((n : Int) + (q : Int)) % 64 == 0) = false := by rw [beq_eq_false_iff_ne]; omega
          have hadd2 := Aside0.mk (hadd.out.trans (by rw [if_neg hz]))
          clear hz
          go_wp2
          go_roundw
          · first
            | exact ⟨k + q, some (ad.add k), (by have := HM.out; omega), (by rw [show l.length - (k + q) = m - q by have := HM.out; omega, show c - (k + q) = 0 by have := HC.out; omega]), ⟨fun h => by exfalso; have := HM.out; omega⟩, ⟨by rw [hadd2.out]; exact kg4.out⟩, hw4⟩
            | exact ⟨k + q, some ((ad.add k).add q), (by have := HM.out; omega), (by rw [show l.length - (k + q) = m - q by have := HM.out; omega, show c - (k + q) = cc - q by have := HC.out; omega]), ⟨fun h => ⟨ad, rfl, by rw [Addr.add_add]⟩⟩, ⟨by rw [hadd2.out]; exact kg4.out⟩, hw4⟩
          · show m - q < m; omega
    · have hke : k = l.length := by omega
      subst hke
      have h0 : l.length - l.length = 0 := Nat.sub_self _
      rw [h0]
      rw [List.take_length] at KG
      clear h0
      go_wp2
      go_end0
      exact ⟨rfl, KG.out, HW.out⟩
end Go.Proofs.Ytlnpmodhejakiaa.D
