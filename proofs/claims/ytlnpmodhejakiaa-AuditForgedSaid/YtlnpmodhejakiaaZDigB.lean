/- Words for arrays in memory: whole arrays read and written at any place of a block; who may have been written. -/
import Derived.Laws.CopyRow
import Derived.StillTailTactics
import Derived.Test.YtlnpmodhejakiaaZDigA
namespace Go.Proofs.Ytlnpmodhejakiaa.D
open Go.RowKit Go.Proofs.YtlnpmodhejakiaaW.PrintWords Go.Proofs.YtlnpmodhejakiaaW.PrintLast Go.Proofs.YtlnpmodhejakiaaW.PrintMore Go.Proofs.Ytlnpmodhejakiaa.Sha
set_option linter.unusedVariables false
set_option linter.unusedSimpArgs false
structure Wr (B g : Nat) (w w' : World) : Prop where
  os : w'.os = w.os
  tape : w'.tape = w.tape
  output : w'.output = w.output
  size : w.heap.size ≤ w'.heap.size
  block : ∀ k, k < B → k ≠ g → w'.heap[k]? = w.heap[k]?
theorem Wr.refl (B g : Nat) (w : World) : Wr B g w w := ⟨rfl, rfl, rfl, Nat.le_refl _, fun _ _ _ => rfl⟩
theorem Wr.of_below {B : Nat} {w w' : World} (h : Below B w w') (g : Nat) : Wr B g w w' := ⟨h.os, h.tape, h.output, h.size, fun k hk _ => h.block k hk⟩
theorem Wr.trans {B B' g : Nat} {w w1 w2 : World} (h : Wr B g w w1) (k : Wr B' g w1 w2) (hB : B ≤ B') : Wr B g w w2 :=
  ⟨k.os.trans h.os, k.tape.trans h.tape, k.output.trans h.output, Nat.le_trans h.size k.size, fun i hi hg => (k.block i (Nat.lt_of_lt_of_le hi hB) hg).trans (h.block i hi hg)⟩
theorem Wr.below {B g : Nat} {w w' : World} (h : Wr B g w w') (hg : B ≤ g) : Below B w w' := ⟨h.os, h.tape, h.output, h.size, fun k hk => h.block k hk (by omega)⟩
theorem Wr.lower {B B' g : Nat} {w w' : World} (h : Wr B g w w') (hB : B' ≤ B) : Wr B' g w w' := ⟨h.os, h.tape, h.output, h.size, fun k hk => h.block k (by omega)⟩
theorem Wr.setCell {B g : Nat} {w w' : World} (h : Wr B g w w') (i : Nat) (u : Value) : Wr B g w (w'.setCell ⟨g, i, none⟩ u) :=
  ⟨h.os, h.tape, h.output, by simpa [World.setCell] using h.size, fun k hk hne => (Below.heap_setCell w' ⟨g, i, none⟩ u k hne).trans (h.block k hk hne)⟩
theorem Wr.drewN {B g : Nat} {w w' : World} (h : Wr B g w w') (n : Nat) : Wr B g w (w'.drewN n) := ⟨h.os, h.tape, h.output, h.size, h.block⟩
theorem Wr.drew {B g : Nat} {w w' : World} (h : Wr B g w w') : Wr B g w w'.drew := ⟨h.os, h.tape, h.output, h.size, h.block⟩
theorem Wr.blk {B g k : Nat} {w w' : World} {o : Obj} (h : Wr B g w w') (hb : w.heap[k]? = some o) (hk : k < B) (hne : k ≠ g) : w'.heap[k]? = some o := (h.block k hk hne).trans hb
theorem setRow_other (w : World) (g : Nat) (cs : Array Value) (k : Nat) (h : k ≠ g) : (w.setRow g cs).heap[k]? = w.heap[k]? := by
  unfold World.setRow
  simp only [Array.getElem?_modify]
  rw [if_neg (fun e => h e.symm)]
theorem setRow_size (w : World) (g : Nat) (cs : Array Value) : (w.setRow g cs).heap.size = w.heap.size := by unfold World.setRow; simp
theorem Wr.setRow {B g : Nat} {w w' : World} (h : Wr B g w w') (cs : Array Value) : Wr B g w (w'.setRow g cs) :=
  ⟨h.os, h.tape, h.output, by rw [setRow_size]; exact h.size, fun k hk hne => (setRow_other w' g cs k hne).trans (h.block k hk hne)⟩
section
variable {P : Program} {ops : Array Oper} {rest : List Oper} {o : Oper} {a : Act} {Q : Exit → Act → World → Prop}
theorem addr_add (g off j : Nat) : (⟨g, off, none⟩ : Addr).add j = ⟨g, off + j, none⟩ := by unfold Addr.add; split <;> simp_all
theorem run_load_part (w : World) (g off : Nat) (ty : TypeId) (cs : List Value) (d : TypeDesc) (hc : ∀ j v, cs[j]? = some v → w.cell? ⟨g, off + j, none⟩ = some v)
    (hu : P.underlying ty = some d) (hd : (match d with | .struct _ | .array _ _ => true | _ => false) = true) (hi : (P.info? ty).map (·.size) = some cs.length) :
    (loadVar ty ⟨g, off, none⟩).run P w = .ok (.agg cs.toArray) w := by
  have hl : (loadCells ⟨g, off, none⟩ cs.length).run P w = .ok cs.toArray w :=
    run_loadCells_list (P := P) w ⟨g, off, none⟩ cs (fun j v hv => by rw [addr_add]; exact hc j v hv)
  cases hq : P.info? ty with
  | none => simp [hq] at hi
  | some i =>
    have hs : i.size = cs.length := by simpa [hq] using hi
    have hagg : (isAgg ty).run P w = .ok true w := by
      unfold isAgg
      rw [Sem.run_bind, run_underlying hu w]
      cases d <;> simp_all
    simp [loadVar, Sem.run_bind, hagg, sizeOf, typeInfo, hq, hs, hl]
theorem wpList_load_part {w : World} (hgd : o.guard = none) (ty : TypeId) (x : Operand) (ho : o.op = .load ty x) (g off : Nat) (hx : a.eval x = .pointer (some ⟨g, off, none⟩))
    (cs : List Value) (d : TypeDesc) (hc : ∀ j v, cs[j]? = some v → w.cell? ⟨g, off + j, none⟩ = some v)
    (hu : P.underlying ty = some d) (hd : (match d with | .struct _ | .array _ _ => true | _ => false) = true) (hi : (P.info? ty).map (·.size) = some cs.length)
    (h : wpList P ops Q rest (a.put o.dst (.agg cs.toArray)) w) : wpList P ops Q (o :: rest) a w :=
  wpList_plain hgd fun _ hK => by
    unfold Oper.wp execOp
    simp only [ho, hx, Instr.loadAt, Instr.sureAddr, Sem.run_bind, Sem.run_pure, Result.andThen_ok, run_load_part w g off ty cs d hc hu hd hi]
    exact hK _ _ h
theorem wpList_store_part {w : World} (hgd : o.guard = none) (hdst : o.dst = none) (ty : TypeId) (p v : Operand) (ho : o.op = .store ty p v) (g off : Nat) (hp : a.eval p = .pointer (some ⟨g, off, none⟩))
    (vs : Array Value) (hv : a.eval v = .agg vs) (hi : (P.info? ty).map (·.size) = some vs.size) (cur : Array Value) (t : TypeId) (hg : w.heap[g]? = some (.cells cur t (0, 0)))
    (hl : off + vs.size ≤ cur.size) (h1 : ∀ u ∈ vs.toList, u.oneCell' = true)
    (h : wpList P ops Q rest a (w.setRow g (cur.toList.take off ++ vs.toList ++ cur.toList.drop (off + vs.size)).toArray)) : wpList P ops Q (o :: rest) a w := by
  refine wpList_plain hgd fun K hK => ?_
  have hst := run_storeCells_at P g off t vs.toList 0 cur w hg (by simpa using hl) h1
  rw [Nat.add_zero, Array.length_toList] at hst
  have hsv : (storeVar ty ⟨g, off, none⟩ (.agg vs)).run P w = .ok () (w.setRow g (cur.toList.take off ++ vs.toList ++ cur.toList.drop (off + vs.size)).toArray) := by
    cases hq : P.info? ty with
    | none => simp [hq] at hi
    | some i =>
      have hs : i.size = vs.size := by simpa [hq] using hi
      simp [storeVar, Sem.run_bind, sizeOf, typeInfo, hq, hs, Value.cells, hst]
  unfold Oper.wp execOp
  simp only [ho, hp, hv, Instr.storeAt, Instr.sureAddr, Sem.run_bind, Sem.run_pure, Result.andThen_ok, hsv]
  show K (a.put o.dst undef) _
  rw [hdst]
  exact hK _ _ h
theorem store_part_event {w : World} (hgd : o.guard = none) (hdst : o.dst = none) (ty : TypeId) (p v : Operand) (ho : o.op = .store ty p v) (g off : Nat) (hp : a.eval p = .pointer (some ⟨g, off, none⟩))
    (vs : Array Value) (hv : a.eval v = .agg vs) (hi : (P.info? ty).map (·.size) = some vs.size) (cur new : Array Value) (t : TypeId) (hg : w.heap[g]? = some (.cells cur t (0, 0)))
    (hl : off + vs.size ≤ cur.size) (h1 : ∀ u ∈ vs.toList, u.oneCell' = true) (hnew : cur.toList.take off ++ vs.toList ++ cur.toList.drop (off + vs.size) = new.toList)
    (h : ∀ w', w'.heap[g]? = some (.cells new t (0, 0)) → Wr w.heap.size g w w' → wpList P ops Q rest a w') : wpList P ops Q (o :: rest) a w := by
  refine wpList_store_part hgd hdst ty p v ho g off hp vs hv hi cur t hg hl h1 (h _ ?_ ((Wr.refl _ _ _).setRow _))
  rw [hnew, Array.toArray_toList]
  exact setRow_heap w g cur new t (0, 0) hg
theorem lit_event {W : World} (hgd : o.guard = none) {N : Tmp} (_hd : o.dst = some N) {cs : Array Value} {t : TypeId} {n : Nat}
    (hrun : (execOp a.eval o).run P W = .ok (.value (.slice (some ⟨W.heap.size, 0, none⟩) n n)) (W.alloc (.cells cs t (0, 0))))
    (h : ∀ g, g = W.heap.size → ∀ w1, w1.heap[g]? = some (.cells cs t (0, 0)) → Below W.heap.size W w1 → wpList P ops Q rest (a.put o.dst (.slice (some ⟨g, 0, none⟩) n n)) w1) : wpList P ops Q (o :: rest) a W :=
  Kd.event_run hgd hrun (h _ rfl _ (blk_new W _) (below_alloc (Below.refl _ _) _))
end
def aU32 (l : List W) : Array Value := (l.map (fun x => Value.int .u32 (n32 x))).toArray
theorem aU32_size (l : List W) : (aU32 l).size = l.length := by simp [aU32]
theorem aU32_get (l : List W) (i : Nat) (h : i < l.length) : (aU32 l)[i]? = some (.int .u32 (n32 (l.getD i 0))) := by
  simp [aU32, List.getD_eq_getElem?_getD, List.getElem?_eq_getElem h]
theorem aU32_set (l : List W) (i : Nat) (x : W) : (aU32 l).setIfInBounds i (.int .u32 (n32 x)) = aU32 (l.set i x) := by
  simp [aU32, List.map_set]
theorem aU32_one (l : List W) : ∀ u ∈ (aU32 l).toList, u.oneCell' = true := by
  intro u hu
  simp only [aU32, List.mem_map] at hu
  obtain ⟨x, _, rfl⟩ := hu
  rfl
theorem run_index_word {P : Program} (t e : TypeId) (n : Nat) (l : List W) (i : Nat) (h : P.underlying t = some (.array n e)) (hs : ∀ w, (sizeOf e).run P w = .ok 1 w) (ha : ∀ w, (isAgg e).run P w = .ok false w) (hl : l.length = n) (hi : i < n) (w : World) :
    (Instr.index t (.agg (aU32 l)) (.int .i64 (i : Int))).run P w = .ok (.int .u32 (n32 (l.getD i 0))) w := by
  have h1 : (0 : Int) ≤ (i : Int) ∧ (i : Int) < (n : Int) := by omega
  have h2 := aU32_get l i (by omega)
  rw [List.getD_eq_getElem?_getD] at h2 ⊢
  simp [Instr.index, run_underlying h, asIntOf, h1, go_sem, hs, ha, hi, h2]
theorem sched_put (nx : List W → Nat → W) (n k : Nat) (h : k < n) : (aU32 (sched nx k ++ List.replicate (n - k) 0)).setIfInBounds k (.int .u32 (n32 (nx (sched nx k) k))) = aU32 (sched nx (k + 1) ++ List.replicate (n - (k + 1)) 0) := by
  rw [aU32_set]
  congr 1
  rw [List.set_append_right _ _ (by rw [sched_len]; omega), sched_len, Nat.sub_self]
  obtain ⟨m, hm⟩ : ∃ m, n - k = m + 1 := ⟨n - k - 1, by omega⟩
  rw [hm, List.replicate_succ, List.set_cons_zero, show n - (k + 1) = m by omega, sched, List.append_assoc]
  rfl
theorem sched_cell (nx : List W → Nat → W) (n k i : Nat) (h : k ≤ n) (hi : i < k) : (aU32 (sched nx k ++ List.replicate (n - k) 0))[i]? = some (.int .u32 (n32 ((sched nx k).getD i 0))) := by
  rw [aU32_get _ _ (by simp [sched_len]; omega), List.getD_eq_getElem?_getD, List.getElem?_append_left (by rw [sched_len]; exact hi), ← List.getD_eq_getElem?_getD]
theorem sched_zero (nx : List W → Nat → W) (n k : Nat) (h : k < n) : (aU32 (sched nx k ++ List.replicate (n - k) 0))[k]? = some (.int .u32 0) := by
  rw [aU32_get _ _ (by simp [sched_len]; omega), List.getD_eq_getElem?_getD, List.getElem?_append_right (by rw [sched_len]; omega), sched_len, List.getElem?_replicate, if_pos (by omega)]
  rfl
def hmix (h v : V8) (i : Nat) : List W := (h.add v).l.take i ++ h.l.drop i
theorem V8_len (x : V8) : x.l.length = 8 := rfl
theorem hmix_len (h v : V8) (i : Nat) (hi : i ≤ 8) : (hmix h v i).length = 8 := by unfold hmix; rw [List.length_append, List.length_take, List.length_drop, V8_len, V8_len]; omega
theorem hmix_get (h v : V8) (i : Nat) (hi : i < 8) : (hmix h v i).getD i 0 = h.l.getD i 0 := by
  match i, hi with
  | 0, _ => rfl | 1, _ => rfl | 2, _ => rfl | 3, _ => rfl | 4, _ => rfl | 5, _ => rfl | 6, _ => rfl | 7, _ => rfl
theorem hmix_set (h v : V8) (i : Nat) (hi : i < 8) : (hmix h v i).set i (h.l.getD i 0 + v.l.getD i 0) = hmix h v (i + 1) := by
  match i, hi with
  | 0, _ => rfl | 1, _ => rfl | 2, _ => rfl | 3, _ => rfl | 4, _ => rfl | 5, _ => rfl | 6, _ => rfl | 7, _ => rfl
theorem hmix_8 (h v : V8) : hmix h v 8 = (h.add v).l := rfl
theorem hmix_0 (h v : V8) : hmix h v 0 = h.l := rfl
theorem app_get (l : List W) (R : Array Value) (i : Nat) (hi : i < l.length) : (aU32 l ++ R)[i]? = some (.int .u32 (n32 (l.getD i 0))) := by
  rw [Array.getElem?_append_left (by rw [aU32_size]; exact hi), aU32_get l i hi]
theorem app_set (l : List W) (R : Array Value) (i : Nat) (x : W) (hi : i < l.length) : (aU32 l ++ R).setIfInBounds i (.int .u32 (n32 x)) = aU32 (l.set i x) ++ R := by
  rw [← aU32_set, Array.setIfInBounds_append_left (by rw [aU32_size]; exact hi)]
theorem k256_cells : aU32 k256 = #[Value.int .u32 1116352408, Value.int .u32 1899447441, Value.int .u32 3049323471, Value.int .u32 3921009573, Value.int .u32 961987163, Value.int .u32 1508970993, Value.int .u32 2453635748, Value.int .u32 2870763221, Value.int .u32 3624381080, Value.int .u32 310598401, Value.int .u32 607225278, Value.int .u32 1426881987, Value.int .u32 1925078388, Value.int .u32 2162078206, Value.int .u32 2614888103, Value.int .u32 3248222580, Value.int .u32 3835390401, Value.int .u32 4022224774, Value.int .u32 264347078, Value.int .u32 604807628, Value.int .u32 770255983, Value.int .u32 1249150122, Value.int .u32 1555081692, Value.int .u32 1996064986, Value.int .u32 2554220882, Value.int .u32 2821834349, Value.int .u32 2952996808, Value.int .u32 3210313671, Value.int .u32 3336571891, Value.int .u32 3584528711, Value.int .u32 113926993, Value.int .u32 338241895, Value.int .u32 666307205, Value.int .u32 773529912, Value.int .u32 1294757372, Value.int .u32 1396182291, Value.int .u32 1695183700, Value.int .u32 1986661051, Value.int .u32 2177026350, Value.int .u32 2456956037, Value.int .u32 2730485921, Value.int .u32 2820302411, Value.int .u32 3259730800, Value.int .u32 3345764771, Value.int .u32 3516065817, Value.int .u32 3600352804, Value.int .u32 4094571909, Value.int .u32 275423344, Value.int .u32 430227734, Value.int .u32 506948616, Value.int .u32 659060556, Value.int .u32 883997877, Value.int .u32 958139571, Value.int .u32 1322822218, Value.int .u32 1537002063, Value.int .u32 1747873779, Value.int .u32 1955562222, Value.int .u32 2024104815, Value.int .u32 2227730452, Value.int .u32 2361852424, Value.int .u32 2428436474, Value.int .u32 2756734187, Value.int .u32 3204031479, Value.int .u32 3329325298] := by kernel_rfl
theorem zeros_cells (n : Nat) : aU32 (List.replicate n 0) = (List.replicate n (Value.int .u32 0)).toArray := by simp [aU32]; exact .inr rfl
end Go.Proofs.Ytlnpmodhejakiaa.D
