/- strings.SplitSeq at one byte: what it yields. -/
import Derived.Test.YtooibmnanmmgiaaDoorSeqW
import Derived.Test.YtooibmnanmmgiaaDoorShelf
namespace Go.Proofs.YtooibmnanmmgiaaDoor.SQ
open Go.RowKit Go.Shelf Go.Proofs.YtooibmnanmmgiaaDoorW.PrintWords Go.Proofs.YtooibmnanmmgiaaDoorW.PrintLast Go.Proofs.YtooibmnanmmgiaaDoorW.PrintMore
set_option linter.unusedVariables false
set_option linter.unusedSimpArgs false
attribute [local go_sem] Oper.semAt_some
theorem idx_hit (c : UInt8) : ∀ (x r : List UInt8), c ∉ x → Lib.indexByte (x ++ c :: r) c = (x.length : Int)
  | [], r, _ => by simp [Lib.indexByte]
  | a :: x, r, h => by
    have ha : (a == c) = false := beq_eq_false_iff_ne.2 (fun e => h (by rw [e]; exact List.mem_cons_self))
    have ih := idx_hit c x r (fun hm => h (List.mem_cons_of_mem _ hm))
    rw [List.cons_append, Lib.indexByte, ha, ih]
    have hne : ((x.length : Int) == -1) = false := beq_eq_false_iff_ne.2 (by omega)
    rw [hne, List.length_cons]
    simp
theorem idx_none (c : UInt8) : ∀ (x : List UInt8), c ∉ x → Lib.indexByte x c = -1
  | [], _ => rfl
  | a :: x, h => by
    have ha : (a == c) = false := beq_eq_false_iff_ne.2 (fun e => h (by rw [e]; exact List.mem_cons_self))
    have ih := idx_none c x (fun hm => h (List.mem_cons_of_mem _ hm))
    rw [Lib.indexByte, ha, ih]
    rfl
/-- l is these pieces, with c between them, none of which has c -/
def Joins (c : UInt8) : List UInt8 → List (List UInt8) → Prop
  | _, [] => False
  | l, [x] => l = x ∧ c ∉ x
  | l, x :: y :: ys => ∃ l', l = x ++ c :: l' ∧ c ∉ x ∧ Joins c l' (y :: ys)
theorem ba_ext {a b : ByteArray} (h : a.data.toList = b.data.toList) : a = b := by
  rw [← Lib.mk_data a, ← Lib.mk_data b, h]
theorem cut_front (r x : ByteArray) (c : UInt8) (l' : List UInt8) (h : r.data.toList = x.data.toList ++ c :: l') : r.extract 0 x.size = x := by
  apply ba_ext
  rw [Lib.extract_from_zero, h, Lib.size_eq, List.take_left']
  rfl
theorem cut_rest (r x : ByteArray) (c : UInt8) (l' : List UInt8) (h : r.data.toList = x.data.toList ++ c :: l') : (r.extract (x.size + 1) r.size).data.toList = l' := by
  rw [Lib.extract_to_end, h, Lib.size_eq, ← List.drop_drop, List.drop_left' rfl]
  rfl
theorem cut_size (r x : ByteArray) (c : UInt8) (l' : List UInt8) (h : r.data.toList = x.data.toList ++ c :: l') : r.size = x.size + 1 + l'.length := by
  rw [Lib.size_eq, h, List.length_append, List.length_cons, Lib.size_eq x]
  omega
def strSz : Option Value → Nat
  | some (.string r) => r.size
  | _ => 0
structure Kp3 (Bp Bs Bv : Nat) (W W' : World) : Prop where
  p : ∀ o, W.heap[Bp]? = some o → W'.heap[Bp]? = some o
  s : ∀ o, W.heap[Bs]? = some o → W'.heap[Bs]? = some o
  v : ∀ o, W.heap[Bv]? = some o → W'.heap[Bv]? = some o
set_option maxRecDepth 100000 in
set_option maxHeartbeats 8000000 in
theorem sq1_all {α : Type} (val : α → ByteArray) (n : Nat) (hn : 1 ≤ n) (Bp Bs Bv : Nat) (c : UInt8) (s : ByteArray) (xs : List α) (hs : s.size ≤ 4294967280) (hJ : Joins c s.data.toList (xs.map fun x => (val x).data.toList)) (w : World)
    (nps : Bp ≠ Bs) (nvs : Bv ≠ Bs) (hp : w.heap[Bp]? = some (.cells #[.string ⟨#[c]⟩] 9 (0, 0))) (hb : w.heap[Bs]? = some (.cells #[.string s] 9 (0, 0))) (hv : w.heap[Bv]? = some (.cells #[.int .i64 0] 3 (0, 0))) :
    SeqAll Fence.wide n Tryd.prog 51 #[.pointer (some ⟨Bp, 0, none⟩), .pointer (some ⟨Bs, 0, none⟩), .pointer (some ⟨Bv, 0, none⟩)] (fun x => #[.string (val x)]) Bs (Kp3 Bp Bs Bv) xs w := by
  intro l J W hW hJs hY h0
  have HP := Aside0.mk (blk_below hp hW)
  have HS := Aside0.mk (blk_below hb hW)
  have HV := Aside0.mk (blk_below hv hW)
  have HY := Aside0.mk hY
  have HJS := Aside0.mk hJs
  have H0 := Aside0.mk h0
  have HJ := Aside0.mk hJ
  have hro : Fence.wide.round = none := rfl
  clear hp hb hv hY hJs h0 hJ hW
  refine callsIn_of_wp Tryd.func51 rfl trivial ?_ hro
  simp only [Tryd.ntmps51, List.size_toArray, List.length_cons, List.length_nil, Nat.reduceAdd, Nat.reduceSub, Array.replicate_succ, Array.replicate_zero, List.push_toArray, List.append_toArray, List.nil_append, List.cons_append]
  have c1 : W.cell? ⟨Bp, 0, none⟩ = some (.string ⟨#[c]⟩) := (blk_cell HP.out 0).trans rfl
  have e1 : (⟨#[c]⟩ : ByteArray).size = 1 := rfl
  gi_wp2
  gi_loopw [7, 8] (fun v7 v8 wr => ∃ (pre : List α) (x : α) (rest : List α) (r : ByteArray), Aside0 (xs = pre ++ x :: rest) ∧ Aside0 (Joins c r.data.toList ((x :: rest).map fun x => (val x).data.toList)) ∧ Aside0 (r.size ≤ 4294967280) ∧ Aside0 (wr.heap[Bp]? = some (.cells #[.string ⟨#[c]⟩] 9 (0, 0))) ∧ Aside0 (wr.heap[Bs]? = some (.cells #[.string r] 9 (0, 0))) ∧ Aside0 (wr.heap[Bv]? = some (.cells #[.int .i64 0] 3 (0, 0))) ∧ Aside0 (J pre wr))
    (fun _ _ wr => strSz (wr.cell? ⟨Bs, 0, none⟩))
  case atStart =>
    cases xs with
    | nil => exact HJ.out.elim
    | cons x rest => exact ⟨[], x, rest, s, ⟨rfl⟩, HJ, ⟨hs⟩, HP, HS, HV, H0⟩
  case round =>
    obtain ⟨pre, x, rest, r, HX, HR, HZ, HP, HS, HV, HJ0⟩ := hrel
    have c1 : wr.cell? ⟨Bp, 0, none⟩ = some (.string ⟨#[c]⟩) := (blk_cell HP.out 0).trans rfl
    have c2 : wr.cell? ⟨Bs, 0, none⟩ = some (.string r) := (blk_cell HS.out 0).trans rfl
    have c3 : wr.cell? ⟨Bv, 0, none⟩ = some (.int .i64 0) := (blk_cell HV.out 0).trans rfl
    have hlt : pre.length < xs.length := by rw [HX.out, List.length_append, List.length_cons]; omega
    obtain ⟨fn, tmps, assign, body, hy, hRR⟩ := HY.out pre x wr HJ0.out hlt
    have HRR := Aside0.mk hRR
    clear hRR hlt
    cases rest with
    | nil =>
      obtain ⟨hr, hno⟩ := (show r.data.toList = (val x).data.toList ∧ c ∉ (val x).data.toList from HR.out)
      have er : r = val x := ba_ext hr
      subst er
      have hi := idx_none c _ hno
      clear hr hno
      gi_wp2_with (refine ⟨trivial, ?_⟩; gi_at_call 52; refine (callsIn_wide.2 (Sh.strings_Index_one (val x) c wr)).mono ?_; rintro e w' ⟨rfl, rfl⟩; rw [hi])
      refine HRR.out.mono ?_
      rintro e W3 ⟨rfl, hJ3, hk3⟩
      have HJ3 := Aside0.mk hJ3
      clear hJ3 hk3
      gi_wp2
      go_end0
      exact ⟨⟨_, rfl⟩, by rw [HX.out]; exact HJ3.out⟩
    | cons y rest =>
      obtain ⟨l', hr, hno, hJ'⟩ := (show ∃ l', r.data.toList = (val x).data.toList ++ c :: l' ∧ c ∉ (val x).data.toList ∧ Joins c l' ((y :: rest).map fun x => (val x).data.toList) from HR.out)
      have hi := idx_hit c _ l' hno
      rw [← hr, ← Lib.size_eq] at hi
      have hsz := cut_size r (val x) c l' hr
      have he := cut_front r (val x) c l' hr
      have hrest := Aside0.mk (cut_rest r (val x) c l' hr)
      have hle := HZ.out
      have p0 : decide (((val x).size : Int) < 0) = false := decide_eq_false (by omega)
      have p1 : (val x).size ≤ r.size := by omega
      have p2 : ((val x).size : Int) ≤ (r.size : Int) := by omega
      have p3 : (val x).size + 1 ≤ r.size := by omega
      have p4 : ((val x).size : Int) + 1 ≤ (r.size : Int) := by omega
      have w1 : wrap64 ((val x).size : Int) = ((val x).size : Int) := by unfold wrap64; omega
      have w2 : wrap64 (((val x).size : Int) + 1) = ((val x).size : Int) + 1 := by unfold wrap64; omega
      have HZ' := Aside0.mk hsz
      clear hr hno hle hsz
      gi_wp2_with (refine ⟨trivial, ?_⟩; gi_at_call 52; refine (callsIn_wide.2 (Sh.strings_Index_one r c wr)).mono ?_; rintro e w' ⟨rfl, rfl⟩; rw [hi])
      refine HRR.out.mono ?_
      rintro e W3 ⟨rfl, hJ3, hk3⟩
      have HJ3 := Aside0.mk hJ3
      have P3 := Aside0.mk (hk3.p _ HP.out)
      have S3 := Aside0.mk (hk3.s _ HS.out)
      have V3 := Aside0.mk (hk3.v _ HV.out)
      have k1 : W3.cell? ⟨Bp, 0, none⟩ = some (.string ⟨#[c]⟩) := (blk_cell P3.out 0).trans rfl
      have k2 : W3.cell? ⟨Bs, 0, none⟩ = some (.string r) := (blk_cell S3.out 0).trans rfl
      have f2 := blk_frozen S3.out 0
      clear hJ3 hk3 HRR
      obtain ⟨r', hr'⟩ : ∃ r', r.extract ((val x).size + 1) r.size = r' := ⟨_, rfl⟩
      have hd' := Aside0.mk (show r'.data.toList = l' from by rw [← hr']; exact hrest.out)
      have hZ2 := Aside0.mk (show r'.size = l'.length from by rw [Lib.size_eq, hd'.out])
      gi_wp2
      go_roundw
      case rel =>
        refine ⟨pre ++ [x], y, rest, r', ⟨by rw [HX.out]; simp⟩, ⟨by rw [hd'.out]; exact hJ'⟩, ⟨by rw [hZ2.out]; have := HZ'.out; have := HZ.out; omega⟩, ⟨blk_far P3.out nps _⟩, ⟨blk_put S3.out 0 _ rfl⟩, ⟨blk_far V3.out nvs _⟩, ⟨HJS.out _ _ _ HJ3.out⟩⟩
      case measure =>
        rw [show (W3.setCell ⟨Bs, 0, none⟩ (.string r')).cell? ⟨Bs, 0, none⟩ = some (.string r') from (blk_cell (blk_put (cs' := #[.string r']) S3.out 0 _ rfl) 0).trans rfl, c2]
        show r'.size < r.size
        rw [hZ2.out, HZ'.out]
        omega
set_option maxHeartbeats 1000000 in
theorem sq0_in (n : Nat) (s sep : ByteArray) (w : World) :
    CallsIn Fence.wide n Tryd.prog 39 #[.string s, .string sep, .int .i64 0] w fun e w' => e = .returned (.func (.func 51) #[] #[.pointer (some ⟨w.heap.size + 1, 0, none⟩), .pointer (some ⟨w.heap.size, 0, none⟩), .pointer (some ⟨w.heap.size + 1 + 1, 0, none⟩)]) ∧ w' = ((w.alloc (.cells #[.string s] 9)).alloc (.cells #[.string sep] 9)).alloc (.cells #[.int .i64 0] 3) := by
  have hro : Fence.wide.round = none := rfl
  refine callsIn_of_wp Tryd.func39 rfl trivial ?_ hro
  simp only [Tryd.ntmps39, List.size_toArray, List.length_cons, List.length_nil, Nat.reduceAdd, Nat.reduceSub, Array.replicate_succ, Array.replicate_zero, List.push_toArray, List.append_toArray, List.nil_append, List.cons_append]
  gi_wp2
  go_ret
  exact ⟨rfl, rfl⟩
set_option maxHeartbeats 1000000 in
theorem sq_in (n : Nat) (hn : 1 ≤ n) (s sep : ByteArray) (w : World) :
    CallsIn Fence.wide n Tryd.prog 25 #[.string s, .string sep] w fun e w' => e = .returned (.func (.func 51) #[] #[.pointer (some ⟨w.heap.size + 1, 0, none⟩), .pointer (some ⟨w.heap.size, 0, none⟩), .pointer (some ⟨w.heap.size + 1 + 1, 0, none⟩)]) ∧ w' = ((w.alloc (.cells #[.string s] 9)).alloc (.cells #[.string sep] 9)).alloc (.cells #[.int .i64 0] 3) := by
  have hro : Fence.wide.round = none := rfl
  refine callsIn_of_wp Tryd.func25 rfl trivial ?_ hro
  simp only [Tryd.ntmps25, List.size_toArray, List.length_cons, List.length_nil, Nat.reduceAdd, Nat.reduceSub, Array.replicate_succ, Array.replicate_zero, List.push_toArray, List.append_toArray, List.nil_append, List.cons_append]
  gi_wp2_with (refine ⟨trivial, ?_⟩; gi_at_call 39; refine (sq0_in _ s sep w).mono ?_; rintro e w' ⟨rfl, rfl⟩)
  go_ret
  exact ⟨rfl, rfl⟩
end Go.Proofs.YtooibmnanmmgiaaDoor.SQ
