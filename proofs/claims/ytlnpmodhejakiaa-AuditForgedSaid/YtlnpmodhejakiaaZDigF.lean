/- digest: (*state).add. -/
import Derived.Laws.CopyOwn
import Derived.Test.YtlnpmodhejakiaaZDigC
import Derived.Test.YtlnpmodhejakiaaZDigE
namespace Go.Proofs.Ytlnpmodhejakiaa.D
open Go.RowKit Go.Proofs.YtlnpmodhejakiaaW.PrintWords Go.Proofs.YtlnpmodhejakiaaW.PrintLast Go.Proofs.YtlnpmodhejakiaaW.PrintMore Go.Proofs.Ytlnpmodhejakiaa.Sha
set_option linter.unusedVariables false
set_option linter.unusedSimpArgs false
def stC (fn : Nat) (s : HS) : Array Value := aU32 s.h.l ++ (aU8 s.block ++ #[.int .u64 (s.n : Int), .func (.func fn) #[] #[]])
section
variable (fn : Nat) (s : HS) (hb : s.block.length = 64)
theorem stC_list : (stC fn s).toList = s.h.l.map (fun x => Value.int .u32 (n32 x)) ++ (s.block.map (Value.int .u8) ++ [.int .u64 (s.n : Int), .func (.func fn) #[] #[]]) := by
  simp [stC, aU32, aU8]
include hb
theorem stC_size : (stC fn s).size = 74 := by
  rw [← Array.length_toList, stC_list]; simp [V8_len, hb]
theorem stC_72 : (stC fn s)[72]? = some (.int .u64 (s.n : Int)) := by
  rw [← Array.getElem?_toList, stC_list, List.getElem?_append_right (by simp [V8_len]), List.getElem?_append_right (by simp [V8_len, hb])]; simp [V8_len, hb]
theorem stC_73 : (stC fn s)[73]? = some (.func (.func fn) #[] #[]) := by
  rw [← Array.getElem?_toList, stC_list, List.getElem?_append_right (by simp [V8_len]), List.getElem?_append_right (by simp [V8_len, hb])]; simp [V8_len, hb]
theorem stC_block (i : Nat) (hi : i < 64) : (stC fn s)[8 + i]? = (aU8 s.block)[i]? := by
  rw [← Array.getElem?_toList, stC_list, List.getElem?_append_right (by simp [V8_len]), List.getElem?_append_left (by simp [V8_len, hb]; omega)]
  simp [V8_len, aU8]
theorem stC_n (m : Nat) : (stC fn s).setIfInBounds 72 (.int .u64 (m : Int)) = stC fn ⟨s.h, s.block, m⟩ := by
  apply Array.toList_inj.1
  rw [Array.toList_setIfInBounds, stC_list, stC_list, List.set_append_right _ _ (by simp [V8_len]), List.set_append_right _ _ (by simp [V8_len, hb])]
  simp [V8_len, hb]
theorem stC_splice (j : Nat) (l : List Int) (hj : j + l.length ≤ 64) : (stC fn s).toList.take (8 + j) ++ (l.map (Value.int .u8) ++ (stC fn s).toList.drop (8 + j + (l.map (Value.int .u8)).length)) = (stC fn ⟨s.h, spliceB s.block j l, s.n⟩).toList := by
  rw [stC_list, stC_list, List.length_map]
  rw [List.take_append, List.drop_append]
  have h8 : (s.h.l.map (fun x => Value.int .u32 (n32 x))).length = 8 := by simp [V8_len]
  rw [h8, List.take_of_length_le (by omega), List.drop_eq_nil_of_le (by omega), List.nil_append, show 8 + j - 8 = j by omega, show 8 + j + l.length - 8 = j + l.length by omega]
  rw [List.take_append_of_le_length (by simp; omega), List.drop_append_of_le_length (by simp; omega)]
  unfold spliceB
  simp [List.map_append, List.map_take, List.map_drop]
end
section
variable {P : Program} {ops : Array Oper} {rest : List Oper} {o : Oper} {a : Act} {Q : Exit → Act → World → Prop}
theorem copy_event {w : World} (hgd : o.guard = none) (d s : Operand) (dT sT : TypeId)
    (ho : o.op = .call { callee := .builtin .copy, args := #[d, s], argTypes := #[dT, sT] }) (elem : TypeId) (hu : P.underlying dT = some (.slice elem)) (hsz : (P.info? elem).map (·.size) = some 1)
    (g off dLen dCap : Nat) (ad : Addr) (sLen sCap : Nat) (hd : a.eval d = .slice (some ⟨g, off, none⟩) dLen dCap) (hs : a.eval s = .slice (some ad) sLen sCap)
    (cur new : Array Value) (t : TypeId) (hg : w.heap[g]? = some (.cells cur t (0, 0))) (cs : List Value) (hn : cs.length = Nat.min sLen dLen)
    (hsrc : ∀ j v, cs[j]? = some v → w.cell? (ad.add j) = some v) (hfit : off + cs.length ≤ cur.size) (h1 : ∀ v ∈ cs, v.oneCell' = true)
    (hnew : cur.toList.take off ++ (cs ++ cur.toList.drop (off + cs.length)) = new.toList) (q : Nat) (hq : cs.length = q)
    (h : ∀ w', w'.heap[g]? = some (.cells new t (0, 0)) → Wr w.heap.size g w w' → wpList P ops Q rest (a.put o.dst (.int .i64 (q : Int))) w') : wpList P ops Q (o :: rest) a w := by
  refine wpList_copy_own hgd d s dT sT ho elem hu hsz g off dLen dCap ad sLen sCap hd hs cur t hg cs hn hsrc hfit h1 ?_
  rw [hnew, Array.toArray_toList, hq]
  exact h _ (setRow_heap w g cur new t (0, 0) hg) ((Wr.refl _ _ _).setRow _)
theorem still_load_part {w : World} {Qs : Act → Prop} (hw : Region.wanted o (yielded ops a.tmps) = true) (ty : TypeId) (x : Operand) (ho : o.op = .load ty x) (g off : Nat) (hx : a.eval x = .pointer (some ⟨g, off, none⟩))
    (cs : List Value) (d : TypeDesc) (hc : ∀ j v, cs[j]? = some v → w.cell? ⟨g, off + j, none⟩ = some v)
    (hu : P.underlying ty = some d) (hd : (match d with | .struct _ | .array _ _ => true | _ => false) = true) (hi : (P.info? ty).map (·.size) = some cs.length)
    (h : wpStill P ops w Qs rest (a.put o.dst (.agg cs.toArray))) : wpStill P ops w Qs (o :: rest) a := by
  refine wpStill_step (fun K hK => ?_)
  rw [if_pos hw]
  unfold Oper.still execOp
  simp only [ho, hx, Instr.loadAt, Instr.sureAddr, Sem.run_bind, Sem.run_pure, Result.andThen_ok, run_load_part w g off ty cs d hc hu hd hi]
  exact ⟨rfl, hK _ h⟩
end
def Rounds (fn : Nat) (comp : V8 → List Int → V8) : Prop := ∀ (gs : Nat) (T : TypeId) (R : Array Value) (h : V8) (b : List Int) (hb : b.length = 64) (hbd : ∀ x ∈ b, 0 ≤ x ∧ x ≤ 255) (w : World) (hg : w.heap[gs]? = some (.cells (aU32 h.l ++ R) T (0, 0))),
    Calls Try.prog fn #[.pointer (some ⟨gs, 0, none⟩), .agg (aU8 b)] w fun e w' => e = .returned (.tuple #[]) ∧ w'.heap[gs]? = some (.cells (aU32 (comp h b).l ++ R) T (0, 0)) ∧ Wr w.heap.size gs w w'
theorem rounds256_ok : Rounds 179 comp256 := round256_any
def okS (s : HS) : Prop := s.block.length = 64 ∧ ∀ x ∈ s.block, 0 ≤ x ∧ x ≤ 255
theorem okS_add (comp : V8 → List Int → V8) (s : HS) (l : List Int) (h : okS s) (hl : ∀ x ∈ l, 0 ≤ x ∧ x ≤ 255) : okS (add comp s l) := ⟨by rw [add_bl]; exact h.1, add_bd comp s l h.2 hl⟩
def sliceLen : Value → Nat
  | .slice _ n _ => n
  | _ => 0
theorem spliceB_bd (bl : List Int) (j : Nat) (l : List Int) (hb : ∀ x ∈ bl, 0 ≤ x ∧ x ≤ 255) (hl : ∀ x ∈ l, 0 ≤ x ∧ x ≤ 255) : ∀ x ∈ spliceB bl j l, 0 ≤ x ∧ x ≤ 255 := by
  intro x hx
  unfold spliceB at hx
  simp only [List.mem_append] at hx
  rcases hx with (hx | hx) | hx
  · exact hb x (List.mem_of_mem_take hx)
  · exact hl x hx
  · exact hb x (List.mem_of_mem_drop hx)
theorem byte_cells {w : World} {ad : Addr} {l : List Int} {n : Nat} (hr : Kd.C (Kd.int .u8) w (some ad) n l) (i : Nat) (x : Int) (h : l[i]? = some x) : w.cell? (ad.add i) = some (.int .u8 x) := by
  have hi : i < l.length := (List.getElem?_eq_some_iff.1 h).1
  obtain ⟨ad', e, hc⟩ := hr.2.2 (by have := hr.1; omega)
  injection e with e
  subst e
  obtain ⟨c, _, hk, hcell⟩ := hc i x h
  have hk' : c = [.int .u8 x] := hk
  subst hk'
  have := hcell 0 _ rfl
  rw [show i * (Kd.int .u8).sz + 0 = i from by show i * 1 + 0 = i; omega] at this
  exact this
theorem src_cells {w w2 : World} {gs : Nat} {ad : Addr} {l : List Int} {n : Nat} (hr : Kd.C (Kd.int .u8) w (some ad) n l) (hA : ad.block ≠ gs) (hW : Wr w.heap.size gs w w2) (k q : Nat) :
    ∀ i v, (((l.drop k).take q).map (Value.int .u8))[i]? = some v → w2.cell? ((ad.add k).add i) = some v := by
  intro i v hv
  rw [List.getElem?_map] at hv
  obtain ⟨x, hx, rfl⟩ := Option.map_eq_some_iff.1 hv
  rw [List.getElem?_take] at hx
  split at hx
  · rw [List.getElem?_drop] at hx
    have h1 := byte_cells hr (k + i) x hx
    rw [Addr.add_add]
    have hb : (ad.add (k + i)).block = ad.block := by unfold Addr.add; split <;> rfl
    have hlt := World.block_lt_of_cell? w _ h1
    exact (World.cell?_of_block (hW.block _ hlt (by rw [hb]; exact hA))).trans h1
  · cases hx
theorem add_step (comp : V8 → List Int → V8) (s S : HS) (l : List Int) (k q n : Nat) (spl : List Int) (hnx : add comp s (l.take k ++ (l.drop k).take q) = add comp S ((l.drop k).take q)) (hS : okS S) (hlen : ((l.drop k).take q).length = q) (h0 : 0 < q)
    (hf : S.n % 64 + q ≤ 64) (hspl : spliceB S.block (S.n % 64) ((l.drop k).take q) = spl) (hn : S.n = n) : add comp s (l.take (k + q)) = ⟨if (n + q) % 64 = 0 then comp S.h spl else S.h, spl, n + q⟩ := by
  rw [List.take_add, hnx, add_chunk comp _ S hS.1 (by omega) (by omega), hlen, hspl, hn]
theorem info8b : (Try.prog.info? 5).map (·.size) = some 1 := by kernel_rfl
set_option maxHeartbeats 4000000 in
set_option maxRecDepth 100000 in
theorem add256_any (gs : Nat) (T : TypeId) (s : HS) (hs : okS s) (A : Option Addr) (c : Nat) (l : List Int) (w : World)
    (hr0 : Kd.C (Kd.int .u8) w A l.length l) (hc0 : l.length ≤ c) (hA : 0 < l.length → ∀ ad, A = some ad → ad.block ≠ gs) (hl : ∀ x ∈ l, 0 ≤ x ∧ x ≤ 255) (hn : s.n + l.length ≤ 4611686018427387904) (hg : w.heap[gs]? = some (.cells (stC 179 s) T (0, 0))) :
    Calls Try.prog 119 #[.pointer (some ⟨gs, 0, none⟩), .slice A l.length c] w fun e w' => e = .returned (.tuple #[]) ∧ w'.heap[gs]? = some (.cells (stC 179 (add comp256 s l)) T (0, 0)) ∧ Wr w.heap.size gs w w' := by
  have HG := Aside0.mk hg
  have HR := Aside0.mk hr0
  have HL := Aside0.mk hl
  have HS := Aside0.mk hs
  have HA := Aside0.mk hA
  clear hg hr0 hl hs hA
  go_enter Try.func119, Try.ntmps119
  go_wp2
  go_loopw [1] (fun v wr => ∃ (k : Nat) (A' : Option Addr), k ≤ l.length ∧ v = .slice A' (l.length - k) (c - k) ∧ Aside0 (k < l.length → ∃ ad, A = some ad ∧ A' = some (ad.add k)) ∧ Aside0 (wr.heap[gs]? = some (.cells (stC 179 (add comp256 s (l.take k))) T (0, 0))) ∧ Aside0 (Wr w.heap.size gs w wr)) (fun v _ => sliceLen v)
  case atStart =>
    refine ⟨0, A, Nat.zero_le _, rfl, ⟨fun h => ?_⟩, ⟨HG.out⟩, ⟨Wr.refl _ _ _⟩⟩
    obtain ⟨ad, h1, _⟩ := HR.out.2.2 h
    refine ⟨ad, h1, ?_⟩
    rw [h1]; unfold Addr.add; rfl
  case round =>
    obtain ⟨k, A', hk, rfl, HA', KG, HW⟩ := hrel
    by_cases hlt : k < l.length
    · obtain ⟨ad, rfl, rfl⟩ := HA'.out hlt
      have hS := Aside0.mk (okS_add comp256 s (l.take k) HS.out (fun x hx => HL.out x (List.mem_of_mem_take hx)))
      have hSn := add_n comp256 s (l.take k)
      rw [List.length_take, Nat.min_eq_left hk] at hSn
      have hnx := Aside0.mk (fun q => add_append comp256 s (l.take k) ((l.drop k).take q))
      obtain ⟨S, hSe⟩ : ∃ S, add comp256 s (l.take k) = S := ⟨_, rfl⟩
      rw [hSe] at KG hS hSn hnx
      clear hSe
      obtain ⟨m, hm⟩ : ∃ m, l.length - k = m := ⟨_, rfl⟩
      obtain ⟨cc, hcc⟩ : ∃ m, c - k = m := ⟨_, rfl⟩
      rw [hm, hcc]
      have hm0 : 0 < m := by omega
      have hmc : m ≤ cc := by omega
      have hmb : m ≤ 4611686018427387904 := by omega
      have HM := Aside0.mk hm
      have HC := Aside0.mk hcc
      have HN := Aside0.mk hSn
      have hSb : S.n + m ≤ 4611686018427387904 := by omega
      clear hm hcc hSn
      have c72 := (blk_cell KG.out 72).trans (stC_72 179 S hS.out.1)
      obtain ⟨n, hne⟩ : ∃ n, S.n = n := ⟨_, rfl⟩
      have hnb : n < 4611686018427387904 := by omega
      rw [hne] at c72
      have HNE := Aside0.mk hne
      clear hne
      have e64 : (n : Int).tmod 64 = ((n % 64 : Nat) : Int) := by rw [Int.tmod_eq_emod_of_nonneg (by omega)]; omega
      obtain ⟨j, hj⟩ : ∃ j, n % 64 = j := ⟨_, rfl⟩
      have hj64 : j < 64 := by omega
      rw [hj] at e64
      have HJ := Aside0.mk hj
      clear hj
      have j64 : (j : Int) ≤ 64 := by omega
      go_wp2
      refine wp_region_still_tail 10 (by kernel_rfl) (by kernel_rfl) ?_
      simp only [List.take_succ_cons, List.take_zero, List.drop_succ_cons, List.drop_zero]
      change wpStill _ _ (World.drew _) (fun a' => wpList _ _ _ _ a' (World.drew _)) _ _
      replace c72 : (wr.drew).cell? ⟨gs, 72, none⟩ = some (.int .u64 (n : Int)) := c72
      have kg_ : (wr.drew).heap[gs]? = _ := KG.out
      have hw_ : Wr w.heap.size gs w wr.drew := HW.out.drew
      generalize wr.drew = w2 at c72 kg_ hw_ ⊢
      clear KG HW
      have KG := Aside0.mk kg_
      have HW := Aside0.mk hw_
      clear kg_ hw_
      iterate 10 still_step
      refine wpStill_nil ?_
      rw [if_neg (show ¬ 64 = j by omega)]
      obtain ⟨q, hq⟩ : ∃ q, min m (64 - j) = q := ⟨_, rfl⟩
      have hq0 : 0 < q := by omega
      have hqm : q ≤ m := by omega
      have hqj : j + q ≤ 64 := by omega
      have hqc : q ≤ cc := by omega
      have HQ := Aside0.mk hq
      clear hq
      have hcl : (((l.drop k).take q).map (Value.int .u8)).length = q := by rw [List.length_map, List.length_take, List.length_drop]; have := HM.out; omega
      have hch := Aside0.mk hcl
      clear hcl
      by_cases hcq : cc = q
      all_goals
        refine copy_event rfl (.tmp 16) (.tmp 17) 22 22 rfl 5 Try.underlying22 info8b gs (8 + j) (64 - j) (64 - j) (ad.add k) m cc rfl rfl (stC 179 S) (stC 179 ⟨S.h, spliceB S.block j ((l.drop k).take q), S.n⟩) T KG.out (((l.drop k).take q).map (Value.int .u8)) ?h1 (src_cells HR.out (HA.out (by omega) ad rfl) HW.out k q) ?h2 ?h3 ?h4 q hch.out ?_
        (case h1 => rw [hch.out]; exact HQ.out.symm)
        (case h2 => rw [hch.out, stC_size _ _ hS.out.1]; omega)
        (case h3 => intro u hu; simp only [List.mem_map] at hu; obtain ⟨x, _, rfl⟩ := hu; rfl)
        (case h4 => exact stC_splice _ _ hS.out.1 j _ (by have := hch.out; rw [List.length_map] at this; omega))
        intro w3 hb3 hW3
        have k_ := Aside0.mk hb3
        have w_ := Aside0.mk (HW.out.trans hW3 HW.out.size)
        clear KG HW c72 hb3 hW3
        have KG := k_
        have HW := w_
        clear k_ w_
        obtain ⟨spl, hspl⟩ : ∃ X, spliceB S.block j ((l.drop k).take q) = X := ⟨_, rfl⟩
        rw [hspl] at KG
        have HSPL := Aside0.mk hspl
        clear hspl
        have hbl := Aside0.mk (show spl.length = 64 by rw [← HSPL.out, spliceB_len _ _ _ (by have := hch.out; rw [List.length_map] at this; have := hS.out.1; omega)]; exact hS.out.1)
        have c72 := (blk_cell KG.out 72).trans (stC_72 _ ⟨S.h, spl, S.n⟩ hbl.out)
        have f72 := blk_frozen KG.out 72
        replace c72 : w3.cell? ⟨gs, 72, none⟩ = some (.int .u64 (n : Int)) := (by rw [c72, ← HNE.out])
        have hnq : n + q ≤ 4611686018427387904 := by have := HNE.out; omega
        have hadd := Aside0.mk (add_step comp256 s S l k q n spl (hnx.out q) hS.out (by have := hch.out; rw [List.length_map] at this; exact this) hq0 (by rw [HNE.out, HJ.out]; exact hqj) (by rw [HNE.out, HJ.out]; exact HSPL.out) HNE.out)
        have kg4 := Aside0.mk (blk_put KG.out 72 (.int .u64 ((n : Int) + (q : Int))) (cs' := stC 179 ⟨S.h, spl, n + q⟩) (by rw [show (n : Int) + (q : Int) = ((n + q : Nat) : Int) by omega]; exact stC_n _ ⟨S.h, spl, S.n⟩ hbl.out (n + q)))
        have hw4 := Aside0.mk (HW.out.setCell 72 (.int .u64 ((n : Int) + (q : Int))))
        by_cases hz : (n + q) % 64 = 0
        · have hzb : (((n : Int) + (q : Int)) % 64 == 0) = true := by rw [beq_iff_eq]; omega
          have hadd2 := Aside0.mk (hadd.out.trans (by rw [if_pos hz]))
          clear hz
          go_wp2
          refine wp_region_still_tail 11 (by kernel_rfl) (by kernel_rfl) ?_
          simp only [List.take_succ_cons, List.take_zero, List.drop_succ_cons, List.drop_zero]
          change wpStill _ _ (World.drew _) (fun a' => wpList _ _ _ _ a' (World.drew _)) _ _
          have kg_ : ((w3.setCell ⟨gs, 72, none⟩ (.int .u64 ((n : Int) + (q : Int)))).drew).heap[gs]? = _ := kg4.out
          have hw_ : Wr w.heap.size gs w ((w3.setCell ⟨gs, 72, none⟩ (.int .u64 ((n : Int) + (q : Int)))).drew) := hw4.out.drew
          generalize (w3.setCell ⟨gs, 72, none⟩ (.int .u64 ((n : Int) + (q : Int)))).drew = w5 at kg_ hw_ ⊢
          clear KG HW kg4 hw4 c72 f72
          have KG := Aside0.mk kg_
          have HW := Aside0.mk hw_
          clear kg_ hw_
          have c73 := (blk_cell KG.out 73).trans (stC_73 _ ⟨S.h, spl, n + q⟩ hbl.out)
          iterate 10 still_step
          refine still_load_part rfl 135 _ rfl gs 8 rfl (aU8 spl).toList _ ?h1 Try.underlying135 rfl ?h2 ?_
          case h1 =>
            intro i v hv
            rw [blk_cell KG.out]
            have hi : i < 64 := by have := (List.getElem?_eq_some_iff.1 hv).1; simp [aU8_size, hbl.out] at this; exact this
            rw [stC_block _ ⟨S.h, spl, n + q⟩ hbl.out i hi, ← Array.getElem?_toList]; exact hv
          case h2 => rw [Array.length_toList, aU8_size, hbl.out]; exact info64b
          rw [Array.toArray_toList]
          refine wpStill_nil ?_
          have hsb := Aside0.mk (show ∀ x ∈ spl, 0 ≤ x ∧ x ≤ 255 by rw [← HSPL.out]; exact spliceB_bd _ _ _ hS.out.2 (fun x hx => HL.out x (List.mem_of_mem_drop (List.mem_of_mem_take hx))))
          clear c73
          go_wp2_with (go_at_call 179; refine (rounds256_ok gs T (aU8 spl ++ #[.int .u64 ((n + q : Nat) : Int), .func (.func 179) #[] #[]]) S.h spl hbl.out hsb.out _ KG.out).mono ?_; rintro e w6 ⟨rfl, hg6, hW6⟩; have k6_ := Aside0.mk hg6; have w6_ := Aside0.mk (HW.out.trans hW6 HW.out.size); clear hg6 hW6)
          go_roundw
          · first
            | exact ⟨k + q, some (ad.add k), (by have := HM.out; omega), (by rw [show l.length - (k + q) = m - q by have := HM.out; omega, show c - (k + q) = 0 by have := HC.out; omega]), ⟨fun h => by exfalso; have := HM.out; omega⟩, ⟨by rw [hadd2.out]; exact k6_.out⟩, w6_⟩
            | exact ⟨k + q, some ((ad.add k).add q), (by have := HM.out; omega), (by rw [show l.length - (k + q) = m - q by have := HM.out; omega, show c - (k + q) = cc - q by have := HC.out; omega]), ⟨fun h => ⟨ad, rfl, by rw [Addr.add_add]⟩⟩, ⟨by rw [hadd2.out]; exact k6_.out⟩, w6_⟩
          · show m - q < m; omega
        · have hzb : (((n : Int) + (q : Int)) % 64 == 0) = false := by rw [beq_eq_false_iff_ne]; omega
          have hadd2 := Aside0.mk (hadd.out.trans (by rw [if_neg hz]))
          clear hz
          go_wp2
          go_roundw
          · first
            | exact ⟨k + q, some (ad.add k), (by have := HM.out; omega), (by rw [show l.length - (k + q) = m - q by have := HM.out; omega, show c - (k + q) = 0 by have := HC.out; omega]), ⟨fun h => by exfalso; have := HM.out; omega⟩, ⟨by rw [hadd2.out]; exact kg4.out⟩, hw4⟩
            | exact ⟨k + q, some ((ad.add k).add q), (by have := HM.out; omega), (by rw [show l.length - (k + q) = m - q by have := HM.out; omega, show c - (k + q) = cc - q by have := HC.out; omega]), ⟨fun h => ⟨ad, rfl, by rw [Addr.add_add]⟩⟩, ⟨by rw [hadd2.out]; exact kg4.out⟩, hw4⟩
          · show m - q < m; omega
    · have hke : k = l.length := by omega
      subst hke
      have h0 : l.length - l.length = 0 := Nat.sub_self _
      rw [h0]
      rw [List.take_length] at KG
      clear h0
      go_wp2
      go_end0
      exact ⟨rfl, KG.out, HW.out⟩
end Go.Proofs.Ytlnpmodhejakiaa.D
