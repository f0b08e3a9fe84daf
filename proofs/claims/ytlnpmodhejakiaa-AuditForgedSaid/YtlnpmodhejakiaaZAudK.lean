/- audit.Collision: what it computes. -/
import Derived.Test.YtlnpmodhejakiaaZAudI
import Derived.Test.YtlnpmodhejakiaaZAudE
import Derived.Test.YtlnpmodhejakiaaZWb
import Derived.Test.YtlnpmodhejakiaaZShab
import Derived.Test.YtlnpmodhejakiaaZAudBb
import Derived.Test.YtlnpmodhejakiaaZAudRb
namespace Go.Proofs.Ytlnpmodhejakiaa.AV
open Go.RowKit Go.Shelf Go.Proofs.YtlnpmodhejakiaaW.PrintWords Go.Proofs.YtlnpmodhejakiaaW.PrintLast Go.Proofs.YtlnpmodhejakiaaW.PrintMore Go.Proofs.Ytlnpmodhejakiaa.Sha Go.Proofs.Ytlnpmodhejakiaa.D Go.Proofs.Ytlnpmodhejakiaa.PC Go.Proofs.Ytlnpmodhejakiaa.CP Go.Proofs.Ytlnpmodhejakiaa.PV
set_option linter.unusedVariables false
set_option linter.unusedSimpArgs false
attribute [local go_sem] Oper.semAt_some
attribute [local go_sem] max2_int min2_int max_two min_two max_three min_three max_four min_four
/-! plain words -/
theorem collR_take : ∀ (k : Nat) (a b : List S69), k = min a.length b.length → collR a b = collR (a.take k) (b.take k)
  | 0, a, b, h => by
    rw [List.take_zero, List.take_zero]
    cases a with
    | nil => rw [collR_nil', collR_nil']
    | cons x a => cases b with
      | nil => rw [collR_nil, collR_nil]
      | cons y b => simp at h
  | k + 1, a, b, h => by
    cases a with
    | nil => simp at h
    | cons x a =>
      cases b with
      | nil => simp at h
      | cons y b =>
        rw [List.take_succ_cons, List.take_succ_cons, collR, collR, collR_take k a b (by simp only [List.length_cons] at h; omega)]
theorem collP_tail (a b : List S69) (k : Nat) (hk : k = min a.length b.length) : collP a b = collP (a.drop (a.length - k)) (b.drop (b.length - k)) := by
  unfold collP
  rw [collR_take k _ _ (by rw [List.length_reverse, List.length_reverse]; exact hk), List.take_reverse, List.take_reverse]
theorem tails_eq (a b : List S69) (hl : a.length = b.length) (m : Nat) (h : ∀ j, m ≤ j → j < a.length → sameP (rd_T69 a (j : Int)) (rd_T69 b (j : Int)) = true) : a.drop m = b.drop m := by
  apply List.ext_getElem
  · rw [List.length_drop, List.length_drop, hl]
  · intro i h1 h2
    rw [List.length_drop] at h1 h2
    rw [List.getElem_drop, List.getElem_drop]
    have := (sameP_iff _ _).1 (h (m + i) (by omega) (by omega))
    rw [rdT a _ (by omega), rdT b _ (by omega)] at this
    exact this
theorem coll_none (a b : List S69) (hl : a.length = b.length) (h : ∀ j, j < a.length → sameP (rd_T69 a (j : Int)) (rd_T69 b (j : Int)) = true) : collP a b = none := by
  have := tails_eq a b hl 0 (fun j _ hj => h j hj)
  rw [List.drop_zero, List.drop_zero] at this
  subst this
  unfold collP
  have e := collR_pre [] [] a.reverse
  rw [List.append_nil] at e
  rw [e, collR_nil]
theorem coll_at (a b : List S69) (hl : a.length = b.length) (m : Nat) (hm : m < a.length) (h : ∀ j, m < j → j < a.length → sameP (rd_T69 a (j : Int)) (rd_T69 b (j : Int)) = true) (hd : sameP (rd_T69 a (m : Int)) (rd_T69 b (m : Int)) = false) : collP a b = some (rd_T69 a (m : Int), rd_T69 b (m : Int)) := by
  have ht := tails_eq a b hl (m + 1) (fun j h1 h2 => h j (by omega) h2)
  have sa := split_at a m hm
  have sb := split_at b m (by omega)
  obtain ⟨x, hx⟩ : ∃ x, rd_T69 a (m : Int) = x := ⟨_, rfl⟩
  obtain ⟨y, hy⟩ : ∃ y, rd_T69 b (m : Int) = y := ⟨_, rfl⟩
  rw [hx] at sa hd
  rw [hy] at sb hd
  rw [hx, hy]
  have e : collP a b = collP (a.take m ++ x :: a.drop (m + 1)) (b.take m ++ y :: a.drop (m + 1)) := by rw [← sa, ht, ← sb]
  rw [e]
  unfold collP
  rw [List.reverse_append, List.reverse_append, List.reverse_cons, List.reverse_cons, List.append_assoc, List.append_assoc, collR_pre]
  show collR (x :: (a.take m).reverse) (y :: (b.take m).reverse) = _
  rw [collR, if_neg (by rw [hd]; decide)]
/-! words for the loop -/
theorem C_kept {W W' : World} {row : Option Nat} {A : Option Addr} {n : Nat} {l : List Int} (h : Kd.C (Kd.int .u8) W A n l) (hg : W.grownBy W' row) (hr : ∀ r, row = some r → ∃ o : Obj, W.heap[r]? = some o ∧ o.isCells = false) : Kd.C (Kd.int .u8) W' A n l := by
  refine ⟨h.1, h.2.1, fun hn => ?_⟩
  obtain ⟨ad, hA, hc⟩ := h.2.2 hn
  refine ⟨ad, hA, fun j p hj => ?_⟩
  obtain ⟨c, hl, hk, hcs⟩ := hc j p hj
  exact ⟨c, hl, hk, fun i u hu => cell_kept (hcs i u hu) hg hr⟩
theorem blk_kept {W W' : World} {row : Option Nat} {g : Nat} {cs : Array Value} {t : TypeId} {fr : Nat × Nat} (h : W.heap[g]? = some (.cells cs t fr)) (hg : W.grownBy W' row) (hr : ∀ r, row = some r → ∃ o : Obj, W.heap[r]? = some o ∧ o.isCells = false) : W'.heap[g]? = some (.cells cs t fr) := by
  refine (hg.block g (blk_lt h) (fun e => ?_)).trans h
  obtain ⟨o, ho, hc⟩ := hr g e.symm
  rw [h] at ho
  cases ho
  cases hc
theorem keeps_below {B : Nat} {W W' : World} (h : Below W.heap.size W W') : KeepsFrom B W W' := ⟨h.size, fun k o _ hk _ => (h.block k (Array.getElem?_eq_some_iff.1 hk).1).trans hk⟩
theorem cell_inK {w : World} {p : Addr} {v : Value} {cs : Array Value} {T : TypeId} (h : w.cell? p = some v) (hg : w.heap[p.block]? = some (.cells cs T (0, 0))) : v ∈ cs.toList := by
  unfold World.cell? at h
  rw [hg] at h
  simp only at h
  split at h
  · cases h
  · obtain ⟨hi, e⟩ := Array.getElem?_eq_some_iff.1 h
    rw [← e, Array.mem_toList_iff]
    exact Array.getElem_mem hi
theorem C_put1 {W : World} {A : Option Addr} {l : List Int} {g : Nat} {v : Value} {T : TypeId} (h : Kd.C (Kd.int .u8) W A l.length l) (hg : W.heap[g]? = some (.cells #[v] T (0, 0))) (hv : ∀ y, v ≠ .int .u8 y) (u : Value) : Kd.C (Kd.int .u8) (W.setCell ⟨g, 0, none⟩ u) A l.length l :=
  C_wr' h ((Wr.refl _ g _).setCell 0 _) (fun h0 ad hA hb => by
    obtain ⟨ad', e, hc⟩ := C_at h 0 h0
    rw [hA] at e
    cases e
    have hb' : (ad.add 0).block = g := by rw [← hb]; unfold Addr.add; split <;> rfl
    have := cell_inK hc (by rw [hb']; exact hg)
    simp at this
    exact hv _ this.symm)
theorem dn_last (n : Nat) : ∀ (k : Nat), k ≤ n → ∀ (ini : List (Fin n)) (x : Fin n), dnF n k = ini ++ [x] → ∀ j : Fin n, x.val < j.val → j ∈ ini
  | 0, _, ini, x, h => by simp [dnF] at h
  | k + 1, hk, ini, x, h => by
    intro j hj
    rw [dnF, dif_pos (by omega)] at h
    obtain ⟨h1, h2⟩ := List.append_inj' h rfl
    have h3 : (⟨n - 1 - k, by omega⟩ : Fin n) = x := by simpa using h2
    rw [← h1]
    refine (dnF_mem n k (by omega) j).2 ?_
    have : x.val = n - 1 - k := by rw [← h3]
    have := j.isLt
    omega
theorem three {w W : World} {v4 v5 v6 : Value} (u4 u5 u6 : Value) (b4 : W.heap[w.heap.size]? = some (.cells #[v4] 22 (0, 0))) (b5 : W.heap[w.heap.size + 1]? = some (.cells #[v5] 22 (0, 0))) (b6 : W.heap[w.heap.size + 1 + 1]? = some (.cells #[v6] 4 (0, 0))) :
    (((W.setCell ⟨w.heap.size, 0, none⟩ u4).setCell ⟨w.heap.size + 1, 0, none⟩ u5).setCell ⟨w.heap.size + 1 + 1, 0, none⟩ u6).heap[w.heap.size]? = some (.cells #[u4] 22 (0, 0)) ∧
    (((W.setCell ⟨w.heap.size, 0, none⟩ u4).setCell ⟨w.heap.size + 1, 0, none⟩ u5).setCell ⟨w.heap.size + 1 + 1, 0, none⟩ u6).heap[w.heap.size + 1]? = some (.cells #[u5] 22 (0, 0)) ∧
    (((W.setCell ⟨w.heap.size, 0, none⟩ u4).setCell ⟨w.heap.size + 1, 0, none⟩ u5).setCell ⟨w.heap.size + 1 + 1, 0, none⟩ u6).heap[w.heap.size + 1 + 1]? = some (.cells #[u6] 4 (0, 0)) := by
  have n45 : w.heap.size ≠ w.heap.size + 1 := by omega
  have n46 : w.heap.size ≠ w.heap.size + 1 + 1 := by omega
  have n56 : w.heap.size + 1 ≠ w.heap.size + 1 + 1 := by omega
  refine ⟨?_, ?_, ?_⟩
  · refine blk_far ?_ n46 _
    refine blk_far ?_ n45 _
    exact blk_put (cs := #[v4]) b4 0 _ rfl
  · refine blk_far ?_ n56 _
    refine blk_put (cs := #[v5]) ?_ 0 _ rfl
    exact blk_far b5 (Ne.symm n45) _
  · refine blk_put (cs := #[v6]) ?_ 0 _ rfl
    refine blk_far ?_ (Ne.symm n56) _
    exact blk_far b6 (Ne.symm n46) _
theorem three_below {w W : World} (u4 u5 u6 : Value) (h : Below w.heap.size w W) : Below w.heap.size w (((W.setCell ⟨w.heap.size, 0, none⟩ u4).setCell ⟨w.heap.size + 1, 0, none⟩ u5).setCell ⟨w.heap.size + 1 + 1, 0, none⟩ u6) :=
  below_set (below_set (below_set h (Nat.le_refl _)) (Nat.le_succ _)) (Nat.le_add_right _ 2)
theorem three_keeps (n : Nat) {w W W0 : World} (u4 u5 u6 : Value) (h : KeepsFrom n W0 W) : KeepsFrom n W0 (((W.setCell ⟨w.heap.size, 0, none⟩ u4).setCell ⟨w.heap.size + 1, 0, none⟩ u5).setCell ⟨w.heap.size + 1 + 1, 0, none⟩ u6) :=
  ((h.trans ((KeepsOthers.setCell _ _ _).from n)).trans ((KeepsOthers.setCell _ _ _).from n)).trans ((KeepsOthers.setCell _ _ _).from n)
theorem three_C {w W : World} {v4 v5 v6 : Value} (u4 u5 u6 : Value) (b4 : W.heap[w.heap.size]? = some (.cells #[v4] 22 (0, 0))) (b5 : W.heap[w.heap.size + 1]? = some (.cells #[v5] 22 (0, 0))) (b6 : W.heap[w.heap.size + 1 + 1]? = some (.cells #[v6] 4 (0, 0)))
    (e4 : ∀ y, v4 ≠ .int .u8 y) (e5 : ∀ y, v5 ≠ .int .u8 y) (e6 : ∀ y, v6 ≠ .int .u8 y) {A : Option Addr} {l : List Int} (h : Kd.C (Kd.int .u8) W A l.length l) : Kd.C (Kd.int .u8) (((W.setCell ⟨w.heap.size, 0, none⟩ u4).setCell ⟨w.heap.size + 1, 0, none⟩ u5).setCell ⟨w.heap.size + 1 + 1, 0, none⟩ u6) A l.length l := by
  have n45 : w.heap.size ≠ w.heap.size + 1 := by omega
  have n46 : w.heap.size ≠ w.heap.size + 1 + 1 := by omega
  have n56 : w.heap.size + 1 ≠ w.heap.size + 1 + 1 := by omega
  have h1 := C_put1 h b4 e4 u4
  have h2 := C_put1 h1 (blk_far b5 (Ne.symm n45) _) e5 u5
  exact C_put1 h2 (blk_far (blk_far b6 (Ne.symm n46) _) (Ne.symm n56) _) e6 u6
theorem below_undr {W W' : World} (h : Below W.drew.heap.size W.drew W') : Below W.heap.size W W' := below_step (below_drew1 (Below.refl W.heap.size W)) h
theorem asame_b (p q : S69) (s : Bool) (hs : sameP p q = s) (A8 : Option Addr) (c8 : Nat) (A9 : Option Addr) (c9 : Nat) (B8 : Option Addr) (d8 : Nat) (B9 : Option Addr) (d9 : Nat) (w : World) (h : RecC w p A8 c8 A9 c9) (hx : okX p) (h' : RecC w q B8 d8 B9 d9) (hy : okX q) :
    Calls Try.prog 86 #[.agg #[.int .u64 p.f0, .int .u64 p.f1, .string p.f2, .int .i64 p.f3, .string p.f4, .string p.f5, .int .u64 p.f6, .int .i64 p.f7, .slice A8 p.f8.length c8, .slice A9 p.f9.length c9], .agg #[.int .u64 q.f0, .int .u64 q.f1, .string q.f2, .int .i64 q.f3, .string q.f4, .string q.f5, .int .u64 q.f6, .int .i64 q.f7, .slice B8 q.f8.length d8, .slice B9 q.f9.length d9]] w fun e w' => e = .returned (.bool s) ∧ Below w.heap.size w w' := by
  rw [← hs]
  exact same_c p A8 c8 A9 c9 q B8 d8 B9 d9 w h hx h' hy
theorem adigC (p : S69) (A8 : Option Addr) (c8 : Nat) (A9 : Option Addr) (c9 : Nat) (w : World) (h : RecC w p A8 c8 A9 c9) (hx : okX p) :
    Calls Try.prog 81 #[.agg #[.int .u64 p.f0, .int .u64 p.f1, .string p.f2, .int .i64 p.f3, .string p.f4, .string p.f5, .int .u64 p.f6, .int .i64 p.f7, .slice A8 p.f8.length c8, .slice A9 p.f9.length c9]] w fun e w' => ∃ B d, e = .returned (.slice B 32 d) ∧ Kd.C (Kd.int .u8) w' B 32 (digP p) ∧ 32 ≤ d ∧ Below w.heap.size w w' :=
  (dig_c p A8 c8 A9 c9 w h hx).mono fun e w' ⟨v, he, hr, hb⟩ => by
    obtain ⟨A, c, rfl, hc, hC⟩ := Kd.R_reads hr
    rw [digP_len] at *
    exact ⟨A, c, he, hC, hc, hb⟩
theorem ashowC (p : S69) (A8 : Option Addr) (c8 : Nat) (A9 : Option Addr) (c9 : Nat) (w : World) (h : RecC w p A8 c8 A9 c9) (hx : okX p) :
    Calls Try.prog 84 #[.agg #[.int .u64 p.f0, .int .u64 p.f1, .string p.f2, .int .i64 p.f3, .string p.f4, .string p.f5, .int .u64 p.f6, .int .i64 p.f7, .slice A8 p.f8.length c8, .slice A9 p.f9.length c9]] w fun e w' => ∃ B d, e = .returned (.slice B (showP p).length d) ∧ Kd.C (Kd.int .u8) w' B (showP p).length (showP p) ∧ (showP p).length ≤ d ∧ Below w.heap.size w w' :=
  (show_c p A8 c8 A9 c9 w h hx).mono fun e w' ⟨v, he, hr, hb⟩ => by
    obtain ⟨A, c, rfl, hc, hC⟩ := Kd.R_reads hr
    exact ⟨A, c, he, hC, hc, hb⟩
theorem ddsame (p q : S69) (t : Bool) (ht : (digP p == digP q) = t) (A : Option Addr) (c : Nat) (A1 : Option Addr) (c1 : Nat) (w : World) (hC : Kd.C (Kd.int .u8) w A 32 (digP p)) (hc : 32 ≤ c) (hC1 : Kd.C (Kd.int .u8) w A1 32 (digP q)) (hc1 : 32 ≤ c1) :
    Calls Try.prog 146 #[.slice A 32 c, .slice A1 32 c1] w fun e w' => e = .returned (.bool t) ∧ Below w.heap.size w w' := by
  have hp : (digP p).length = 32 := digP_len p
  have hq : (digP q).length = 32 := digP_len q
  rw [← hp] at hC hc
  rw [← hq] at hC1 hc1
  have h := digest_Same.calls 33 A c (digP p) A1 c1 (digP q) t w hC hc hC1 hc1 (by rw [dsame (digP p) (digP q) (sha256_bd' _) (sha256_bd' _) (by omega) 33 (by omega), ht])
  rw [hp, hq] at h
  exact h.mono fun e w' ⟨he, hb⟩ => ⟨he, hb.below⟩
theorem cutB (A : Option Addr) (n c k : Nat) (hk : k ≤ n) : ∃ Ad : Option Addr, (∀ W : World, (Instr.slice 67 (.slice A n c) (some (.int .i64 ((n : Int) - (k : Int)))) none none).run Try.prog W = .ok (.slice Ad k (c - (n - k))) W) ∧
    (∀ (w : World) (l : List S69), l.length = n → n ≤ c → Kd.C k69 w A n l → Kd.C k69 w Ad k (l.drop (n - k))) := by
  obtain ⟨i0, hi0, hz0⟩ := Option.map_eq_some_iff.1 info69'
  simp only [Prod.mk.injEq] at hz0
  have hs2 := cut_from (P := Try.prog) 67 69 .i64 Try.underlying67 hi0 10 hz0.2.1 A n c ((n : Int) - (k : Int)) (by omega) (by omega)
  rw [show ((n : Int) - (k : Int)).toNat = n - k by omega, show n - (n - k) = k by omega] at hs2
  refine ⟨_, hs2, fun w l hl hc hC => ?_⟩
  subst hl
  have := rows_drop hC (l.length - k) c (by omega) hc
  rwa [show l.length - (l.length - k) = k by omega] at this
structure CollI (w : World) (B : Option Addr) (c : Nat) (a' b' : List S69) (pre : List (Fin a'.length)) (W : World) : Prop where
  b4 : W.heap[w.heap.size]? = some (.cells #[.slice none 0 0] 22 (0, 0))
  b5 : W.heap[w.heap.size + 1]? = some (.cells #[.slice none 0 0] 22 (0, 0))
  b6 : W.heap[w.heap.size + 1 + 1]? = some (.cells #[.bool false] 4 (0, 0))
  b8 : W.heap[w.heap.size + 1 + 1 + 1]? = some (.cells #[.slice B a'.length c] 67 (0, 0))
  same : ∀ j ∈ pre, sameP (rd_T69 a' ((j : Nat) : Int)) (rd_T69 b' ((j : Nat) : Int)) = true
  bl : Below w.heap.size w W
  sz : w.heap.size + 5 ≤ W.heap.size
structure CollX (w : World) (a' b' : List S69) (c : Code) (pre : List (Fin a'.length)) (W : World) : Prop where
  bl : Below w.heap.size w W
  ex : ∃ (ini : List (Fin a'.length)) (x : Fin a'.length), pre = ini ++ [x] ∧ (∀ j ∈ ini, sameP (rd_T69 a' ((j : Nat) : Int)) (rd_T69 b' ((j : Nat) : Int)) = true) ∧ sameP (rd_T69 a' ((x : Nat) : Int)) (rd_T69 b' ((x : Nat) : Int)) = false ∧
    ((c = .ret ∧ (digP (rd_T69 a' ((x : Nat) : Int)) == digP (rd_T69 b' ((x : Nat) : Int))) = true ∧ ∃ Sa sa Sb sb, W.heap[w.heap.size]? = some (.cells #[.slice Sa (showP (rd_T69 a' ((x : Nat) : Int))).length sa] 22 (0, 0)) ∧ W.heap[w.heap.size + 1]? = some (.cells #[.slice Sb (showP (rd_T69 b' ((x : Nat) : Int))).length sb] 22 (0, 0)) ∧ W.heap[w.heap.size + 1 + 1]? = some (.cells #[.bool true] 4 (0, 0)) ∧
        Kd.C (Kd.int .u8) W Sa (showP (rd_T69 a' ((x : Nat) : Int))).length (showP (rd_T69 a' ((x : Nat) : Int))) ∧ (showP (rd_T69 a' ((x : Nat) : Int))).length ≤ sa ∧ Kd.C (Kd.int .u8) W Sb (showP (rd_T69 b' ((x : Nat) : Int))).length (showP (rd_T69 b' ((x : Nat) : Int))) ∧ (showP (rd_T69 b' ((x : Nat) : Int))).length ≤ sb) ∨
      (c = .exit 0 ∧ (digP (rd_T69 a' ((x : Nat) : Int)) == digP (rd_T69 b' ((x : Nat) : Int))) = false ∧ W.heap[w.heap.size]? = some (.cells #[.slice none 0 0] 22 (0, 0)) ∧ W.heap[w.heap.size + 1]? = some (.cells #[.slice none 0 0] 22 (0, 0)) ∧ W.heap[w.heap.size + 1 + 1]? = some (.cells #[.bool false] 4 (0, 0))))
theorem collI_own (w : World) (B : Option Addr) (c : Nat) (a' b' : List S69) (n : Nat) (hn : w.heap.size ≤ n) : OwnFrom n (CollI w B c a' b') := fun s W W' row hs hg hr =>
  ⟨blk_kept hs.b4 hg (fun r e => (hr r e).2), blk_kept hs.b5 hg (fun r e => (hr r e).2), blk_kept hs.b6 hg (fun r e => (hr r e).2), blk_kept hs.b8 hg (fun r e => (hr r e).2), hs.same, hs.bl.grown hg hs.bl.size (fun k e => Nat.le_trans hn (hr k e).1), Nat.le_trans hs.sz hg.size⟩
theorem collX_own (w : World) (a' b' : List S69) (cd : Code) (n : Nat) (hn : w.heap.size ≤ n) : OwnFrom n (CollX w a' b' cd) := fun s W W' row hs hg hr => by
  refine ⟨hs.bl.grown hg hs.bl.size (fun k e => Nat.le_trans hn (hr k e).1), ?_⟩
  obtain ⟨ini, x, h1, h2, h3, h4⟩ := hs.ex
  refine ⟨ini, x, h1, h2, h3, ?_⟩
  rcases h4 with ⟨e1, e2, Sa, sa, Sb, sb, q1, q2, q3, q4, q5, q6, q7⟩ | ⟨e1, e2, q1, q2, q3⟩
  · exact .inl ⟨e1, e2, Sa, sa, Sb, sb, blk_kept q1 hg (fun r e => (hr r e).2), blk_kept q2 hg (fun r e => (hr r e).2), blk_kept q3 hg (fun r e => (hr r e).2), C_kept q4 hg (fun r e => (hr r e).2), q5, C_kept q6 hg (fun r e => (hr r e).2), q7⟩
  · exact .inr ⟨e1, e2, blk_kept q1 hg (fun r e => (hr r e).2), blk_kept q2 hg (fun r e => (hr r e).2), blk_kept q3 hg (fun r e => (hr r e).2)⟩
theorem CollI.next {w : World} {B : Option Addr} {c : Nat} {a' b' : List S69} {pre : List (Fin a'.length)} {W W' : World} (h : CollI w B c a' b' pre W) (hb : Below W.heap.size W W') {x : Fin a'.length} (hx : sameP (rd_T69 a' ((x : Nat) : Int)) (rd_T69 b' ((x : Nat) : Int)) = true) : CollI w B c a' b' (pre ++ [x]) W' :=
  ⟨blk_below h.b4 hb, blk_below h.b5 hb, blk_below h.b6 hb, blk_below h.b8 hb, fun j hj => (List.mem_append.1 hj).elim (h.same j) (fun e => by rw [List.mem_singleton.1 e]; exact hx), below_step h.bl hb, Nat.le_trans h.sz hb.size⟩
theorem CollI.carry {w : World} {B : Option Addr} {c : Nat} {a' b' : List S69} {pre : List (Fin a'.length)} {W W' : World} (h : CollI w B c a' b' pre W) (hb : Below W.heap.size W W') : CollI w B c a' b' pre W' :=
  ⟨blk_below h.b4 hb, blk_below h.b5 hb, blk_below h.b6 hb, blk_below h.b8 hb, h.same, below_step h.bl hb, Nat.le_trans h.sz hb.size⟩
theorem five (w : World) (B : Option Addr) (c : Nat) (a' b' : List S69) (A : Option Addr) (ca : Nat) : ∃ W, (((((w.alloc (.cells #[.slice none 0 0] 22)).alloc (.cells #[.slice none 0 0] 22)).alloc (.cells #[.bool false] 4)).alloc (.cells #[.slice B a'.length c] 67)).alloc (.cells #[.slice A a'.length ca] 67)) = W ∧
    W.heap.size = w.heap.size + 5 ∧ CollI w B c a' b' [] W ∧ W.heap[w.heap.size + 1 + 1 + 1 + 1]? = some (.cells #[.slice A a'.length ca] 67 (0, 0)) := by
  refine ⟨_, rfl, by simp only [World.size_alloc], ?_, ?_⟩
  · obtain ⟨w1, e1⟩ : ∃ W, w.alloc (.cells #[.slice none 0 0] 22) = W := ⟨_, rfl⟩
    have s1 : w1.heap.size = w.heap.size + 1 := by rw [← e1, World.size_alloc]
    have b1 := blk_new w (.cells #[.slice none 0 0] 22)
    have l1 := below_alloc (Below.refl w.heap.size w) (.cells #[.slice none 0 0] 22)
    rw [e1] at b1 l1 ⊢
    obtain ⟨w2, e2⟩ : ∃ W, w1.alloc (.cells #[.slice none 0 0] 22) = W := ⟨_, rfl⟩
    have s2 : w2.heap.size = w1.heap.size + 1 := by rw [← e2, World.size_alloc]
    have b2 := blk_new w1 (.cells #[.slice none 0 0] 22)
    have l2 := below_alloc (Below.refl w1.heap.size w1) (.cells #[.slice none 0 0] 22)
    rw [e2] at b2 l2 ⊢
    obtain ⟨w3, e3⟩ : ∃ W, w2.alloc (.cells #[.bool false] 4) = W := ⟨_, rfl⟩
    have s3 : w3.heap.size = w2.heap.size + 1 := by rw [← e3, World.size_alloc]
    have b3 := blk_new w2 (.cells #[.bool false] 4)
    have l3 := below_alloc (Below.refl w2.heap.size w2) (.cells #[.bool false] 4)
    rw [e3] at b3 l3 ⊢
    obtain ⟨w4, e4⟩ : ∃ W, w3.alloc (.cells #[.slice B a'.length c] 67) = W := ⟨_, rfl⟩
    have s4 : w4.heap.size = w3.heap.size + 1 := by rw [← e4, World.size_alloc]
    have b4 := blk_new w3 (.cells #[.slice B a'.length c] 67)
    have l4 := below_alloc (Below.refl w3.heap.size w3) (.cells #[.slice B a'.length c] 67)
    rw [e4] at b4 l4 ⊢
    have l5 := below_alloc (Below.refl w4.heap.size w4) (.cells #[.slice A a'.length ca] 67)
    rw [s1] at b2
    rw [s2, s1] at b3
    rw [s3, s2, s1] at b4
    exact ⟨blk_below (blk_below (blk_below (blk_below b1 l2) l3) l4) l5, blk_below (blk_below (blk_below b2 l3) l4) l5, blk_below (blk_below b3 l4) l5, blk_below b4 l5, (fun _ h => by cases h), below_step (below_step (below_step (below_step l1 l2) l3) l4) l5, by rw [World.size_alloc, s4, s3, s2, s1]; omega⟩
  · have b5 := blk_new ((((w.alloc (.cells #[.slice none 0 0] 22)).alloc (.cells #[.slice none 0 0] 22)).alloc (.cells #[.bool false] 4)).alloc (.cells #[.slice B a'.length c] 67)) (.cells #[.slice A a'.length ca] 67)
    simp only [World.size_alloc] at b5
    exact b5
theorem coll_leaf {w W Wn : World} (n : Nat) {B : Option Addr} {c : Nat} {a' b' : List S69} {pre : List (Fin a'.length)} {x : Fin a'.length} (HI : CollI w B c a' b' pre Wn) (hk : KeepsFrom n W Wn) (hs : sameP (rd_T69 a' ((x : Nat) : Int)) (rd_T69 b' ((x : Nat) : Int)) = false) (ht : (digP (rd_T69 a' ((x : Nat) : Int)) == digP (rd_T69 b' ((x : Nat) : Int))) = true) {Sa : Option Addr} {sa : Nat} {Sb : Option Addr} {sb : Nat}
    (D1 : Kd.C (Kd.int .u8) Wn Sa (showP (rd_T69 a' ((x : Nat) : Int))).length (showP (rd_T69 a' ((x : Nat) : Int)))) (M1 : (showP (rd_T69 a' ((x : Nat) : Int))).length ≤ sa) (D2 : Kd.C (Kd.int .u8) Wn Sb (showP (rd_T69 b' ((x : Nat) : Int))).length (showP (rd_T69 b' ((x : Nat) : Int)))) (M2 : (showP (rd_T69 b' ((x : Nat) : Int))).length ≤ sb) :
    KeepsFrom n W (((Wn.setCell ⟨w.heap.size, 0, none⟩ (.slice Sa (showP (rd_T69 a' ((x : Nat) : Int))).length sa)).setCell ⟨w.heap.size + 1, 0, none⟩ (.slice Sb (showP (rd_T69 b' ((x : Nat) : Int))).length sb)).setCell ⟨w.heap.size + 1 + 1, 0, none⟩ (.bool true)) ∧
    CollX w a' b' .ret (pre ++ [x]) (((Wn.setCell ⟨w.heap.size, 0, none⟩ (.slice Sa (showP (rd_T69 a' ((x : Nat) : Int))).length sa)).setCell ⟨w.heap.size + 1, 0, none⟩ (.slice Sb (showP (rd_T69 b' ((x : Nat) : Int))).length sb)).setCell ⟨w.heap.size + 1 + 1, 0, none⟩ (.bool true)) := by
  have h3 := three (.slice Sa (showP (rd_T69 a' ((x : Nat) : Int))).length sa) (.slice Sb (showP (rd_T69 b' ((x : Nat) : Int))).length sb) (.bool true) HI.b4 HI.b5 HI.b6
  exact ⟨three_keeps n _ _ _ hk, ⟨three_below _ _ _ HI.bl, pre, x, rfl, HI.same, hs, .inl ⟨rfl, ht, Sa, sa, Sb, sb, h3.1, h3.2.1, h3.2.2,
    three_C _ _ _ HI.b4 HI.b5 HI.b6 (fun _ h => by cases h) (fun _ h => by cases h) (fun _ h => by cases h) D1, M1, three_C _ _ _ HI.b4 HI.b5 HI.b6 (fun _ h => by cases h) (fun _ h => by cases h) (fun _ h => by cases h) D2, M2⟩⟩⟩
theorem CollPost_below {a b : List S69} {w W W' : World} {v : Value} (hn : CollPost a b w (.returned v) W) {row : Option Nat} (hg : W.grownBy W' row) (hr : ∀ r, row = some r → ∃ o : Obj, W.heap[r]? = some o ∧ o.isCells = false) (hb : Below w.heap.size w W') : CollPost a b w (.returned v) W' := by
  obtain ⟨h1, h2⟩ := hn
  refine ⟨?_, hb⟩
  cases hc : collP a b with
  | none => rw [hc] at h1; exact h1
  | some r =>
    obtain ⟨p, q⟩ := r
    rw [hc] at h1
    simp only at h1 ⊢
    split at h1
    · rename_i hd
      rw [if_pos hd]
      obtain ⟨A, c, B, d, he, q1, q2, q3, q4⟩ := h1
      exact ⟨A, c, B, d, he, C_kept q1 hg hr, q2, C_kept q3 hg hr, q4⟩
    · rename_i hd
      rw [if_neg hd]
      exact h1
set_option maxRecDepth 100000 in
set_option maxHeartbeats 32000000 in
theorem acoll_eq (A : Option Addr) (ca : Nat) (a : List S69) (B : Option Addr) (cb : Nat) (b : List S69) (w : World) (hla : a.length ≤ 1000) (hlb : b.length ≤ 1000) (Ad Bd : Option Addr) (cad cbd : Nat) (a' b' : List S69) (hl' : a'.length ≤ 1000) (hab : b'.length = a'.length)
    (hq : (b.length < a.length ∧ (∀ W : World, (Instr.slice 67 (.slice A a.length ca) (some (.int .i64 ((a.length : Int) - (b.length : Int)))) none none).run Try.prog W = .ok (.slice Ad a'.length cad) W) ∧ (∀ W : World, (Instr.slice 67 (.slice B b.length cb) (some (.int .i64 0)) none none).run Try.prog W = .ok (.slice Bd a'.length cbd) W)) ∨
      (¬ b.length < a.length ∧ (∀ W : World, (Instr.slice 67 (.slice A a.length ca) (some (.int .i64 0)) none none).run Try.prog W = .ok (.slice Ad a'.length cad) W) ∧ (∀ W : World, (Instr.slice 67 (.slice B b.length cb) (some (.int .i64 ((b.length : Int) - (a.length : Int)))) none none).run Try.prog W = .ok (.slice Bd a'.length cbd) W)))
    (hCa : Kd.C k69 w Ad a'.length a') (hcad : a'.length ≤ cad) (hCb : Kd.C k69 w Bd a'.length b') (hsa : ∀ y ∈ a', okX y) (hsb : ∀ y ∈ b', okX y) :
    Calls Try.prog 87 #[.slice A a.length ca, .slice B b.length cb] w fun e w' => CollPost a' b' w e w' := by
  have hu69 := Try.underlying69
  obtain ⟨ad, f, hA, hrA⟩ := row_env hCa
  obtain ⟨bd, h, hBd, hrB⟩ := row_env (show Kd.C k69 w Bd b'.length b' by rw [hab]; exact hCb)
  have j1 : IntKind.i64.wrap ((a.length : Int) - (b.length : Int)) = (a.length : Int) - (b.length : Int) := IntWalk.i64_in _ (by omega)
  have j2 : IntKind.i64.wrap ((b.length : Int) - (a.length : Int)) = (b.length : Int) - (a.length : Int) := IntWalk.i64_in _ (by omega)
  refine (callsIn_wide (n := 5)).1 ?_
  have hro : Fence.wide.round = none := rfl
  have h1 : (1 : Nat) ≤ 5 := by decide
  refine callsIn_of_wp_marks Try.func87 rfl trivial ?_ hro
  simp only [Try.ntmps87, List.size_toArray, List.length_cons, List.length_nil, Nat.reduceAdd, Nat.reduceSub, Array.replicate_succ, Array.replicate_zero, List.push_toArray, List.append_toArray, List.nil_append, List.cons_append]
  rcases hq with ⟨hlt, hsA, hsB⟩ | ⟨hlt, hsA, hsB⟩
  · gi_wp2_with (refine ⟨trivial, ?_⟩; gi_at_call 147; refine (bk_in _ _ trivial hro _ _ _ _).mono ?_; rintro e w' ⟨rfl, rfl⟩)
    obtain ⟨w5, e5, s5, hI0, hBx⟩ := five w Bd cbd a' b' Ad cad
    rw [e5]
    have hrow5 : ∀ W', Below w5.heap.size w5 W' → ∀ k, k < a'.length → RowE W' ad a' (f k) k := fun W' hb k hk => (hrA k hk).below (below_step hI0.bl hb)
    refine wpIn_rangeFunc_ownH hro h1 (gf := 188) (lb := #[.pointer (some ⟨w.heap.size + 1 + 1 + 1 + 1, 0, none⟩)]) rfl trivial (enters_of Try.func188 (by kernel_rfl) rfl)
      (bk_stops Fence.wide 4 trivial hro (by decide) (w.heap.size + 1 + 1 + 1 + 1) w5.heap.size Ad cad a' hcad ad f hA hl' (blk_lt hBx) w5 (Nat.le_refl _) ((blk_cell hBx 0).trans rfl) hrow5)
      belowK_t (belowK_b (Nat.le_refl _)) (Below.refl _ _) (fun _ => rfl)
      (CollI w Bd cbd a' b') (CollX w a' b') (collI_own w Bd cbd a' b' _ hI0.bl.size) (fun cd => collX_own w a' b' cd _ hI0.bl.size) hI0
      (fun (x : Fin a'.length) a'' W => ∃ g10, w5.heap.size ≤ g10 ∧ W.heap[g10]? = some (.cells #[.int .u64 (rd_T69 a' (x : Nat)).f0, .int .u64 (rd_T69 a' (x : Nat)).f1, .string (rd_T69 a' (x : Nat)).f2, .int .i64 (rd_T69 a' (x : Nat)).f3, .string (rd_T69 a' (x : Nat)).f4, .string (rd_T69 a' (x : Nat)).f5, .int .u64 (rd_T69 a' (x : Nat)).f6, .int .i64 (rd_T69 a' (x : Nat)).f7, .slice (f (x : Nat)).1 (rd_T69 a' (x : Nat)).f8.length (f (x : Nat)).2.1, .slice (f (x : Nat)).2.2.1 (rd_T69 a' (x : Nat)).f9.length (f (x : Nat)).2.2.2] 69 (0, 0)) ∧ a'' = { tmps := #[.slice A a.length ca, .slice B b.length cb, undef, undef, .pointer (some ⟨w.heap.size, 0, none⟩), .pointer (some ⟨w.heap.size + 1, 0, none⟩), .pointer (some ⟨w.heap.size + 1 + 1, 0, none⟩), .int .i64 (b.length : Int), .pointer (some ⟨w.heap.size + 1 + 1 + 1, 0, none⟩), .int .i64 ((x : Nat) : Int), .pointer (some ⟨g10, 0, none⟩), undef, .slice A a.length ca, .int .i64 (a.length : Int), .slice B b.length cb, .int .i64 (b.length : Int), .int .i64 (b.length : Int), .slice B b.length cb, .slice B b.length cb, .int .i64 (b.length : Int), .int .i64 (b.length : Int), .int .i64 0, .slice Bd a'.length cbd, .slice A a.length ca, .slice A a.length ca, .int .i64 (a.length : Int), .int .i64 (b.length : Int), .int .i64 ((a.length : Int) - (b.length : Int)), .slice Ad a'.length cad, .func (.func 188) #[] #[.pointer (some ⟨w.heap.size + 1 + 1 + 1 + 1, 0, none⟩)], .int .i64 ((x : Nat) : Int), .agg #[.int .u64 (rd_T69 a' (x : Nat)).f0, .int .u64 (rd_T69 a' (x : Nat)).f1, .string (rd_T69 a' (x : Nat)).f2, .int .i64 (rd_T69 a' (x : Nat)).f3, .string (rd_T69 a' (x : Nat)).f4, .string (rd_T69 a' (x : Nat)).f5, .int .u64 (rd_T69 a' (x : Nat)).f6, .int .i64 (rd_T69 a' (x : Nat)).f7, .slice (f (x : Nat)).1 (rd_T69 a' (x : Nat)).f8.length (f (x : Nat)).2.1, .slice (f (x : Nat)).2.2.1 (rd_T69 a' (x : Nat)).f9.length (f (x : Nat)).2.2.2], undef, undef, undef, undef, undef, undef, undef, undef, undef, undef, undef, undef, undef, undef, undef, undef], defers := [] })
      (fun x a'' s W W' row hs hg hr => by obtain ⟨g10, h1, h2, h3⟩ := hs; exact ⟨g10, h1, blk_kept h2 hg (fun r e => (hr r e).2), h3⟩) ?assign ?body ?done ?stop
    case assign =>
      intro l pre x W K hi hK
      unfold encB
      gi_wp2
      have hb := below_alloc (Below.refl W.heap.size W) (.cells #[.int .u64 (rd_T69 a' (x : Nat)).f0, .int .u64 (rd_T69 a' (x : Nat)).f1, .string (rd_T69 a' (x : Nat)).f2, .int .i64 (rd_T69 a' (x : Nat)).f3, .string (rd_T69 a' (x : Nat)).f4, .string (rd_T69 a' (x : Nat)).f5, .int .u64 (rd_T69 a' (x : Nat)).f6, .int .i64 (rd_T69 a' (x : Nat)).f7, .slice (f (x : Nat)).1 (rd_T69 a' (x : Nat)).f8.length (f (x : Nat)).2.1, .slice (f (x : Nat)).2.2.1 (rd_T69 a' (x : Nat)).f9.length (f (x : Nat)).2.2.2] 69)
      exact hK _ _ (keeps_below hb) (hb.mono (by rw [s5]; exact hi.sz)) (hi.carry hb) ⟨W.heap.size, by rw [s5]; exact hi.sz, blk_new W _, rfl⟩
    case body =>
      rintro l pre x a'' W hl ⟨r, hr⟩ hi ⟨g10, hg10, BK10, rfl⟩ hlt
      have hxl := x.isLt
      obtain rfl : Bd = some bd := hBd (by omega)
      have RA := Aside0.mk ((hrA (x : Nat) hxl).below hi.bl)
      have RB := Aside0.mk ((hrB (x : Nat) (by omega)).below hi.bl)
      have KA := Aside0.mk (hsa (rd_T69 a' ((x : Nat) : Int)) (by rw [rdT a' _ hxl]; exact List.getElem_mem _))
      have KB := Aside0.mk (hsb (rd_T69 b' ((x : Nat) : Int)) (by rw [rdT b' _ (by omega)]; exact List.getElem_mem _))
      have HI := Aside0.mk hi
      have BK10' := Aside0.mk BK10
      have h8 : W.cell? ⟨w.heap.size + 1 + 1 + 1, 0, none⟩ = some (.slice (some bd) a'.length cbd) := (blk_cell hi.b8 0).trans rfl
      obtain ⟨hr0, hr1, hr2, hr3, hr4, hr5, hr6, hr7, hr8, hr9, -⟩ := RB.out
      have xb1 : ((x : Nat) : Int) < (a'.length : Int) := by omega
      have HA0 := Aside0.mk (below_alloc (Below.refl W.heap.size W) (.cells #[.int .u64 (rd_T69 b' (x : Nat)).f0, .int .u64 (rd_T69 b' (x : Nat)).f1, .string (rd_T69 b' (x : Nat)).f2, .int .i64 (rd_T69 b' (x : Nat)).f3, .string (rd_T69 b' (x : Nat)).f4, .string (rd_T69 b' (x : Nat)).f5, .int .u64 (rd_T69 b' (x : Nat)).f6, .int .i64 (rd_T69 b' (x : Nat)).f7, .slice (h (x : Nat)).1 (rd_T69 b' (x : Nat)).f8.length (h (x : Nat)).2.1, .slice (h (x : Nat)).2.2.1 (rd_T69 b' (x : Nat)).f9.length (h (x : Nat)).2.2.2] 69))
      have BP := Aside0.mk (blk_below BK10 HA0.out)
      have BQ := Aside0.mk (blk_new W (.cells #[.int .u64 (rd_T69 b' (x : Nat)).f0, .int .u64 (rd_T69 b' (x : Nat)).f1, .string (rd_T69 b' (x : Nat)).f2, .int .i64 (rd_T69 b' (x : Nat)).f3, .string (rd_T69 b' (x : Nat)).f4, .string (rd_T69 b' (x : Nat)).f5, .int .u64 (rd_T69 b' (x : Nat)).f6, .int .i64 (rd_T69 b' (x : Nat)).f7, .slice (h (x : Nat)).1 (rd_T69 b' (x : Nat)).f8.length (h (x : Nat)).2.1, .slice (h (x : Nat)).2.2.1 (rd_T69 b' (x : Nat)).f9.length (h (x : Nat)).2.2.2] 69))
      obtain ⟨hp0, hp1, hp2, hp3, hp4, hp5, hp6, hp7, hp8, hp9, fp0, fp1, fp2, fp3, fp4, fp5, fp6, fp7, fp8, fp9⟩ := cells10 BP.out
      obtain ⟨hq0, hq1, hq2, hq3, hq4, hq5, hq6, hq7, hq8, hq9, fq0, fq1, fq2, fq3, fq4, fq5, fq6, fq7, fq8, fq9⟩ := cells10 BQ.out
      have hd : (1 : Nat) ≤ 5 - 1 - 1 := by decide
      obtain ⟨s, hs⟩ : ∃ s, sameP (rd_T69 a' ((x : Nat) : Int)) (rd_T69 b' ((x : Nat) : Int)) = s := ⟨_, rfl⟩
      have SC := Aside0.mk (fun W' h1 h2 => asame_b (rd_T69 a' ((x : Nat) : Int)) (rd_T69 b' ((x : Nat) : Int)) s hs (f (x : Nat)).1 (f (x : Nat)).2.1 (f (x : Nat)).2.2.1 (f (x : Nat)).2.2.2 (h (x : Nat)).1 (h (x : Nat)).2.1 (h (x : Nat)).2.2.1 (h (x : Nat)).2.2.2 W' h1 KA.out h2 KB.out)
      have HS := Aside0.mk hs
      clear hs hi BK10 hlt
      cases s with
      | true =>
        gi_wp2_with (refine ⟨trivial, ?_⟩; gi_at_call 86; refine (CallsIn.inRound l (callsIn_wide.2 (SC.out _ (RA.out.R.below HA0.out) (RB.out.R.below HA0.out)))).mono ?_; rintro e W1 ⟨rfl, hb⟩; have HB1 := Aside0.mk (below_step HA0.out hb); clear hb)
        exact ⟨keeps_below HB1.out, HB1.out.mono (by rw [s5]; exact HI.out.sz), HI.out.next HB1.out HS.out⟩
      | false =>
        have hmx : Try.prog.follows .mixedOrders = true := by kernel_rfl
        obtain ⟨t, ht⟩ : ∃ t, (digP (rd_T69 a' ((x : Nat) : Int)) == digP (rd_T69 b' ((x : Nat) : Int))) = t := ⟨_, rfl⟩
        have HT := Aside0.mk ht
        have DPc := Aside0.mk (fun W' h1 => adigC (rd_T69 a' ((x : Nat) : Int)) (f (x : Nat)).1 (f (x : Nat)).2.1 (f (x : Nat)).2.2.1 (f (x : Nat)).2.2.2 W' h1 KA.out)
        have DQc := Aside0.mk (fun W' h1 => adigC (rd_T69 b' ((x : Nat) : Int)) (h (x : Nat)).1 (h (x : Nat)).2.1 (h (x : Nat)).2.2.1 (h (x : Nat)).2.2.2 W' h1 KB.out)
        have DSc := Aside0.mk (fun A c A1 c1 W' h1 h2 h3 h4 => ddsame (rd_T69 a' ((x : Nat) : Int)) (rd_T69 b' ((x : Nat) : Int)) t ht A c A1 c1 W' h1 h2 h3 h4)
        clear ht
        gi_wp2_with (refine ⟨trivial, ?_⟩; gi_at_call 86; refine (CallsIn.inRound l (callsIn_wide.2 (SC.out _ (RA.out.R.below HA0.out) (RB.out.R.below HA0.out)))).mono ?_; rintro e W1 ⟨rfl, hb⟩; have HB1 := Aside0.mk (below_step HA0.out hb); have P1 := Aside0.mk (blk_below BP.out hb); have Q1 := Aside0.mk (blk_below BQ.out hb); have HI1 := Aside0.mk (HI.out.carry HB1.out); clear hp0 fp0 hp1 fp1 hp2 fp2 hp3 fp3 hp4 fp4 hp5 fp5 hp6 fp6 hp7 fp7 hp8 fp8 hp9 fp9 hq0 fq0 hq1 fq1 hq2 fq2 hq3 fq3 hq4 fq4 hq5 fq5 hq6 fq6 hq7 fq7 hq8 fq8 hq9 fq9 BP BQ HA0 hb; obtain ⟨hp0, hp1, hp2, hp3, hp4, hp5, hp6, hp7, hp8, hp9, fp0, fp1, fp2, fp3, fp4, fp5, fp6, fp7, fp8, fp9⟩ := cells10 P1.out; obtain ⟨hq0, hq1, hq2, hq3, hq4, hq5, hq6, hq7, hq8, hq9, fq0, fq1, fq2, fq3, fq4, fq5, fq6, fq7, fq8, fq9⟩ := cells10 Q1.out)
        gi_region_with_o (first
          | (refine ⟨trivial, ?_⟩; gi_at_call 81; refine (CallsIn.inRound l (callsIn_wide.2 (DPc.out _ (by first | exact RA.out.R.below HB1.out | exact RA.out.R.below (below_drew1 HB1.out))))).mono ?_; rintro e W2 ⟨Da, da, rfl, hC, hdd, hb⟩; have D1 := Aside0.mk hC; have M1 := Aside0.mk hdd; (try replace hb := below_undr hb); have nb_ := Aside0.mk (below_step HB1.out hb); have p_ := Aside0.mk (blk_below P1.out hb); have q_ := Aside0.mk (blk_below Q1.out hb); have i_ := Aside0.mk (HI1.out.carry hb); clear P1 Q1 HI1 HB1 hp0 fp0 hp1 fp1 hp2 fp2 hp3 fp3 hp4 fp4 hp5 fp5 hp6 fp6 hp7 fp7 hp8 fp8 hp9 fp9 hq0 fq0 hq1 fq1 hq2 fq2 hq3 fq3 hq4 fq4 hq5 fq5 hq6 fq6 hq7 fq7 hq8 fq8 hq9 fq9 hb; have P1 := p_; have Q1 := q_; have HI1 := i_; have HB1 := nb_; clear p_ q_ i_ nb_; obtain ⟨hp0, hp1, hp2, hp3, hp4, hp5, hp6, hp7, hp8, hp9, fp0, fp1, fp2, fp3, fp4, fp5, fp6, fp7, fp8, fp9⟩ := cells10 P1.out; obtain ⟨hq0, hq1, hq2, hq3, hq4, hq5, hq6, hq7, hq8, hq9, fq0, fq1, fq2, fq3, fq4, fq5, fq6, fq7, fq8, fq9⟩ := cells10 Q1.out; clear DPc hC hdd)
          | (refine ⟨trivial, ?_⟩; gi_at_call 81; refine (CallsIn.inRound l (callsIn_wide.2 (DQc.out _ (by first | exact RB.out.R.below HB1.out | exact RB.out.R.below (below_drew1 HB1.out))))).mono ?_; rintro e W3 ⟨Db, db, rfl, hC, hdd, hb⟩; have D2 := Aside0.mk hC; have M2 := Aside0.mk hdd; (try replace hb := below_undr hb); have d1_ := Aside0.mk (Kd.C_below D1.out hb); clear D1; have D1 := d1_; clear d1_; (try replace hb := below_undr hb); have nb_ := Aside0.mk (below_step HB1.out hb); have p_ := Aside0.mk (blk_below P1.out hb); have q_ := Aside0.mk (blk_below Q1.out hb); have i_ := Aside0.mk (HI1.out.carry hb); clear P1 Q1 HI1 HB1 hp0 fp0 hp1 fp1 hp2 fp2 hp3 fp3 hp4 fp4 hp5 fp5 hp6 fp6 hp7 fp7 hp8 fp8 hp9 fp9 hq0 fq0 hq1 fq1 hq2 fq2 hq3 fq3 hq4 fq4 hq5 fq5 hq6 fq6 hq7 fq7 hq8 fq8 hq9 fq9 hb; have P1 := p_; have Q1 := q_; have HI1 := i_; have HB1 := nb_; clear p_ q_ i_ nb_; obtain ⟨hp0, hp1, hp2, hp3, hp4, hp5, hp6, hp7, hp8, hp9, fp0, fp1, fp2, fp3, fp4, fp5, fp6, fp7, fp8, fp9⟩ := cells10 P1.out; obtain ⟨hq0, hq1, hq2, hq3, hq4, hq5, hq6, hq7, hq8, hq9, fq0, fq1, fq2, fq3, fq4, fq5, fq6, fq7, fq8, fq9⟩ := cells10 Q1.out; clear DQc hC hdd)
          | (refine ⟨trivial, ?_⟩; gi_at_call 146; refine (CallsIn.inRound l (callsIn_wide.2 (DSc.out _ _ _ _ _ D1.out M1.out D2.out M2.out))).mono ?_; rintro e W4 ⟨rfl, hb⟩; (try replace hb := below_undr hb); have nb_ := Aside0.mk (below_step HB1.out hb); have p_ := Aside0.mk (blk_below P1.out hb); have q_ := Aside0.mk (blk_below Q1.out hb); have i_ := Aside0.mk (HI1.out.carry hb); clear P1 Q1 HI1 HB1 hp0 fp0 hp1 fp1 hp2 fp2 hp3 fp3 hp4 fp4 hp5 fp5 hp6 fp6 hp7 fp7 hp8 fp8 hp9 fp9 hq0 fq0 hq1 fq1 hq2 fq2 hq3 fq3 hq4 fq4 hq5 fq5 hq6 fq6 hq7 fq7 hq8 fq8 hq9 fq9 hb; have P1 := p_; have Q1 := q_; have HI1 := i_; have HB1 := nb_; clear p_ q_ i_ nb_; obtain ⟨hp0, hp1, hp2, hp3, hp4, hp5, hp6, hp7, hp8, hp9, fp0, fp1, fp2, fp3, fp4, fp5, fp6, fp7, fp8, fp9⟩ := cells10 P1.out; obtain ⟨hq0, hq1, hq2, hq3, hq4, hq5, hq6, hq7, hq8, hq9, fq0, fq1, fq2, fq3, fq4, fq5, fq6, fq7, fq8, fq9⟩ := cells10 Q1.out; clear DSc D1 D2 M1 M2))
        all_goals
         cases t with
         | false =>
          gi_wp2
          exact ⟨keeps_below HB1.out, ⟨HI1.out.bl, pre, x, rfl, HI1.out.same, HS.out, .inr ⟨rfl, HT.out, HI1.out.b4, HI1.out.b5, HI1.out.b6⟩⟩⟩
         | true =>
          have SPc := Aside0.mk (fun W' h1 => ashowC (rd_T69 a' ((x : Nat) : Int)) (f (x : Nat)).1 (f (x : Nat)).2.1 (f (x : Nat)).2.2.1 (f (x : Nat)).2.2.2 W' h1 KA.out)
          have SQc := Aside0.mk (fun W' h1 => ashowC (rd_T69 b' ((x : Nat) : Int)) (h (x : Nat)).1 (h (x : Nat)).2.1 (h (x : Nat)).2.2.1 (h (x : Nat)).2.2.2 W' h1 KB.out)
          gi_wp2
          gi_region_with_o (first
            | (refine ⟨trivial, ?_⟩; gi_at_call 84; refine (CallsIn.inRound l (callsIn_wide.2 (SPc.out _ (by first | exact RA.out.R.below HB1.out | exact RA.out.R.below (below_drew1 HB1.out))))).mono ?_; rintro e W5 ⟨Sa, sa, rfl, hC, hdd, hb⟩; have D1 := Aside0.mk hC; have M1 := Aside0.mk hdd; (try replace hb := below_undr hb); have nb_ := Aside0.mk (below_step HB1.out hb); have p_ := Aside0.mk (blk_below P1.out hb); have q_ := Aside0.mk (blk_below Q1.out hb); have i_ := Aside0.mk (HI1.out.carry hb); clear P1 Q1 HI1 HB1 hp0 fp0 hp1 fp1 hp2 fp2 hp3 fp3 hp4 fp4 hp5 fp5 hp6 fp6 hp7 fp7 hp8 fp8 hp9 fp9 hq0 fq0 hq1 fq1 hq2 fq2 hq3 fq3 hq4 fq4 hq5 fq5 hq6 fq6 hq7 fq7 hq8 fq8 hq9 fq9 hb; have P1 := p_; have Q1 := q_; have HI1 := i_; have HB1 := nb_; clear p_ q_ i_ nb_; obtain ⟨hp0, hp1, hp2, hp3, hp4, hp5, hp6, hp7, hp8, hp9, fp0, fp1, fp2, fp3, fp4, fp5, fp6, fp7, fp8, fp9⟩ := cells10 P1.out; obtain ⟨hq0, hq1, hq2, hq3, hq4, hq5, hq6, hq7, hq8, hq9, fq0, fq1, fq2, fq3, fq4, fq5, fq6, fq7, fq8, fq9⟩ := cells10 Q1.out; clear SPc hC hdd)
            | (refine ⟨trivial, ?_⟩; gi_at_call 84; refine (CallsIn.inRound l (callsIn_wide.2 (SQc.out _ (by first | exact RB.out.R.below HB1.out | exact RB.out.R.below (below_drew1 HB1.out))))).mono ?_; rintro e W6 ⟨Sb, sb, rfl, hC, hdd, hb⟩; have D2 := Aside0.mk hC; have M2 := Aside0.mk hdd; (try replace hb := below_undr hb); have d1_ := Aside0.mk (Kd.C_below D1.out hb); clear D1; have D1 := d1_; clear d1_; (try replace hb := below_undr hb); have nb_ := Aside0.mk (below_step HB1.out hb); have p_ := Aside0.mk (blk_below P1.out hb); have q_ := Aside0.mk (blk_below Q1.out hb); have i_ := Aside0.mk (HI1.out.carry hb); clear P1 Q1 HI1 HB1 hp0 fp0 hp1 fp1 hp2 fp2 hp3 fp3 hp4 fp4 hp5 fp5 hp6 fp6 hp7 fp7 hp8 fp8 hp9 fp9 hq0 fq0 hq1 fq1 hq2 fq2 hq3 fq3 hq4 fq4 hq5 fq5 hq6 fq6 hq7 fq7 hq8 fq8 hq9 fq9 hb; have P1 := p_; have Q1 := q_; have HI1 := i_; have HB1 := nb_; clear p_ q_ i_ nb_; obtain ⟨hp0, hp1, hp2, hp3, hp4, hp5, hp6, hp7, hp8, hp9, fp0, fp1, fp2, fp3, fp4, fp5, fp6, fp7, fp8, fp9⟩ := cells10 P1.out; obtain ⟨hq0, hq1, hq2, hq3, hq4, hq5, hq6, hq7, hq8, hq9, fq0, fq1, fq2, fq3, fq4, fq5, fq6, fq7, fq8, fq9⟩ := cells10 Q1.out; clear SQc hC hdd; have k4 := (blk_cell HI1.out.b4 0).trans (show _ = some (Value.slice none 0 0) from rfl); have k5 := (blk_cell HI1.out.b5 0).trans (show _ = some (Value.slice none 0 0) from rfl); have k6 := (blk_cell HI1.out.b6 0).trans (show _ = some (Value.bool false) from rfl); have z4 := blk_frozen HI1.out.b4 0; have z5 := blk_frozen HI1.out.b5 0; have z6 := blk_frozen HI1.out.b6 0))
          all_goals
           gi_wp2
           exact coll_leaf w5.heap.size HI1.out (keeps_below HB1.out) HS.out HT.out D1.out M1.out D2.out M2.out
    case done =>
      rintro D ys W hD rfl hI hK
      have k4 := (blk_cell hI.b4 0).trans (show _ = some (Value.slice none 0 0) from rfl)
      have k5 := (blk_cell hI.b5 0).trans (show _ = some (Value.slice none 0 0) from rfl)
      have k6 := (blk_cell hI.b6 0).trans (show _ = some (Value.bool false) from rfl)
      have z4 := blk_frozen hI.b4 0
      have z5 := blk_frozen hI.b5 0
      have z6 := blk_frozen hI.b6 0
      have HI := Aside0.mk hI
      have HK := Aside0.mk hK
      have HN := Aside0.mk (coll_none a' b' hab.symm (fun j hj => hI.same ⟨j, hj⟩ ((dnF_mem _ _ (Nat.le_refl _) _).2 (by omega))))
      clear hI hK
      gi_wp2
      have h3 := three (.slice none 0 0) (.slice none 0 0) (.bool false) HI.out.b4 HI.out.b5 HI.out.b6
      have hB3 := three_below (.slice none 0 0) (.slice none 0 0) (.bool false) HI.out.bl
      obtain ⟨W', hW'⟩ : ∃ W', (((W.setCell ⟨w.heap.size, 0, none⟩ (.slice none 0 0)).setCell ⟨w.heap.size + 1, 0, none⟩ (.slice none 0 0)).setCell ⟨w.heap.size + 1 + 1, 0, none⟩ (.bool false)) = W' := ⟨_, rfl⟩
      have hK' : W'.heap[D]? = some (.deferred (some [])) := by rw [← hW']; exact (KeepsOthers.setCell _ _ _).same D _ ((KeepsOthers.setCell _ _ _).same D _ ((KeepsOthers.setCell _ _ _).same D _ HK.out rfl) rfl) rfl
      rw [hW'] at h3 hB3 ⊢
      refine ⟨by simp, .inl ⟨_, _, rfl, run_takeDeferred hK', ?_⟩⟩
      have hgr := grownBy_putObj' W' D (.deferred none)
      have hrr : ∀ r, some D = some r → ∃ o : Obj, W'.heap[r]? = some o ∧ o.isCells = false := fun r e => by cases e; exact ⟨_, hK', rfl⟩
      have c4 := cell_kept ((blk_cell h3.1 0).trans (show _ = some (Value.slice none 0 0) from rfl)) hgr hrr
      have c5 := cell_kept ((blk_cell h3.2.1 0).trans (show _ = some (Value.slice none 0 0) from rfl)) hgr hrr
      have c6 := cell_kept ((blk_cell h3.2.2 0).trans (show _ = some (Value.bool false) from rfl)) hgr hrr
      refine ⟨.tuple #[.slice none 0 0, .slice none 0 0, .bool false], ?_, CollPost_below (CollPost_none HN.out hB3) hgr hrr (hB3.grown hgr hB3.size (fun k e => by cases e; exact Nat.le_trans (by omega) hD))⟩
      simp [results, Try.f87, go_sem, c4, c5, c6]
    case stop =>
      rintro D cd pre W hD ⟨k, hk, rfl⟩ hX hK
      obtain ⟨ini, x, e1, hsame, hd, hcase⟩ := hX.ex
      have HX := Aside0.mk hX.bl
      have HK := Aside0.mk hK
      have HN := Aside0.mk (coll_at a' b' hab.symm x.val x.isLt (fun j h1 h2 => hsame ⟨j, h2⟩ (dn_last _ k hk ini x e1 ⟨j, h2⟩ h1)) hd)
      rcases hcase with ⟨rfl, ht, Sa, sa, Sb, sb, q4, q5, q6, C1, M1, C2, M2⟩ | ⟨rfl, ht, q4, q5, q6⟩
      · have QQ := Aside0.mk (And.intro q4 (And.intro q5 q6))
        have PO := Aside0.mk (CollPost_same HN.out ht C1 M1 C2 M2 HX.out)
        clear hX hK e1 hsame hd ht q4 q5 q6 C1 M1 C2 M2 HN
        gi_wp2
        refine ⟨by simp, .inl ⟨_, _, rfl, run_takeDeferred HK.out, ?_⟩⟩
        have hgr := grownBy_putObj' W D (.deferred none)
        have hrr : ∀ r, some D = some r → ∃ o : Obj, W.heap[r]? = some o ∧ o.isCells = false := fun r e => by cases e; exact ⟨_, HK.out, rfl⟩
        have c4 := cell_kept ((blk_cell QQ.out.1 0).trans (show _ = some (Value.slice Sa (showP (rd_T69 a' ((x : Nat) : Int))).length sa) from rfl)) hgr hrr
        have c5 := cell_kept ((blk_cell QQ.out.2.1 0).trans (show _ = some (Value.slice Sb (showP (rd_T69 b' ((x : Nat) : Int))).length sb) from rfl)) hgr hrr
        have c6 := cell_kept ((blk_cell QQ.out.2.2 0).trans (show _ = some (Value.bool true) from rfl)) hgr hrr
        refine ⟨.tuple #[.slice Sa (showP (rd_T69 a' ((x : Nat) : Int))).length sa, .slice Sb (showP (rd_T69 b' ((x : Nat) : Int))).length sb, .bool true], ?_, CollPost_below PO.out hgr hrr (HX.out.grown hgr HX.out.size (fun k e => by cases e; exact Nat.le_trans (by omega) hD))⟩
        simp [results, Try.f87, go_sem, c4, c5, c6]
      · have k4 := (blk_cell q4 0).trans (show _ = some (Value.slice none 0 0) from rfl)
        have k5 := (blk_cell q5 0).trans (show _ = some (Value.slice none 0 0) from rfl)
        have k6 := (blk_cell q6 0).trans (show _ = some (Value.bool false) from rfl)
        have z4 := blk_frozen q4 0
        have z5 := blk_frozen q5 0
        have z6 := blk_frozen q6 0
        have QQ := Aside0.mk (And.intro q4 (And.intro q5 q6))
        have PO := Aside0.mk (fun W' (hb : Below w.heap.size w W') => CollPost_differ (w' := W') HN.out ht hb)
        clear hX hK e1 hsame hd ht q4 q5 q6 HN
        gi_wp2
        have h3 := three (.slice none 0 0) (.slice none 0 0) (.bool false) QQ.out.1 QQ.out.2.1 QQ.out.2.2
        have hB3 := three_below (.slice none 0 0) (.slice none 0 0) (.bool false) HX.out
        obtain ⟨W', hW'⟩ : ∃ W', (((W.setCell ⟨w.heap.size, 0, none⟩ (.slice none 0 0)).setCell ⟨w.heap.size + 1, 0, none⟩ (.slice none 0 0)).setCell ⟨w.heap.size + 1 + 1, 0, none⟩ (.bool false)) = W' := ⟨_, rfl⟩
        have hK' : W'.heap[D]? = some (.deferred (some [])) := by rw [← hW']; exact (KeepsOthers.setCell _ _ _).same D _ ((KeepsOthers.setCell _ _ _).same D _ ((KeepsOthers.setCell _ _ _).same D _ HK.out rfl) rfl) rfl
        rw [hW'] at h3 hB3 ⊢
        refine ⟨by simp, .inl ⟨_, _, rfl, run_takeDeferred hK', ?_⟩⟩
        have hgr := grownBy_putObj' W' D (.deferred none)
        have hrr : ∀ r, some D = some r → ∃ o : Obj, W'.heap[r]? = some o ∧ o.isCells = false := fun r e => by cases e; exact ⟨_, hK', rfl⟩
        have c4 := cell_kept ((blk_cell h3.1 0).trans (show _ = some (Value.slice none 0 0) from rfl)) hgr hrr
        have c5 := cell_kept ((blk_cell h3.2.1 0).trans (show _ = some (Value.slice none 0 0) from rfl)) hgr hrr
        have c6 := cell_kept ((blk_cell h3.2.2 0).trans (show _ = some (Value.bool false) from rfl)) hgr hrr
        refine ⟨.tuple #[.slice none 0 0, .slice none 0 0, .bool false], ?_, CollPost_below (PO.out _ hB3) hgr hrr (hB3.grown hgr hB3.size (fun k e => by cases e; exact Nat.le_trans (by omega) hD))⟩
        simp [results, Try.f87, go_sem, c4, c5, c6]
  · gi_wp2_with (refine ⟨trivial, ?_⟩; gi_at_call 147; refine (bk_in _ _ trivial hro _ _ _ _).mono ?_; rintro e w' ⟨rfl, rfl⟩)
    obtain ⟨w5, e5, s5, hI0, hBx⟩ := five w Bd cbd a' b' Ad cad
    rw [e5]
    have hrow5 : ∀ W', Below w5.heap.size w5 W' → ∀ k, k < a'.length → RowE W' ad a' (f k) k := fun W' hb k hk => (hrA k hk).below (below_step hI0.bl hb)
    refine wpIn_rangeFunc_ownH hro h1 (gf := 188) (lb := #[.pointer (some ⟨w.heap.size + 1 + 1 + 1 + 1, 0, none⟩)]) rfl trivial (enters_of Try.func188 (by kernel_rfl) rfl)
      (bk_stops Fence.wide 4 trivial hro (by decide) (w.heap.size + 1 + 1 + 1 + 1) w5.heap.size Ad cad a' hcad ad f hA hl' (blk_lt hBx) w5 (Nat.le_refl _) ((blk_cell hBx 0).trans rfl) hrow5)
      belowK_t (belowK_b (Nat.le_refl _)) (Below.refl _ _) (fun _ => rfl)
      (CollI w Bd cbd a' b') (CollX w a' b') (collI_own w Bd cbd a' b' _ hI0.bl.size) (fun cd => collX_own w a' b' cd _ hI0.bl.size) hI0
      (fun (x : Fin a'.length) a'' W => ∃ g10, w5.heap.size ≤ g10 ∧ W.heap[g10]? = some (.cells #[.int .u64 (rd_T69 a' (x : Nat)).f0, .int .u64 (rd_T69 a' (x : Nat)).f1, .string (rd_T69 a' (x : Nat)).f2, .int .i64 (rd_T69 a' (x : Nat)).f3, .string (rd_T69 a' (x : Nat)).f4, .string (rd_T69 a' (x : Nat)).f5, .int .u64 (rd_T69 a' (x : Nat)).f6, .int .i64 (rd_T69 a' (x : Nat)).f7, .slice (f (x : Nat)).1 (rd_T69 a' (x : Nat)).f8.length (f (x : Nat)).2.1, .slice (f (x : Nat)).2.2.1 (rd_T69 a' (x : Nat)).f9.length (f (x : Nat)).2.2.2] 69 (0, 0)) ∧ a'' = { tmps := #[.slice A a.length ca, .slice B b.length cb, undef, undef, .pointer (some ⟨w.heap.size, 0, none⟩), .pointer (some ⟨w.heap.size + 1, 0, none⟩), .pointer (some ⟨w.heap.size + 1 + 1, 0, none⟩), .int .i64 (a.length : Int), .pointer (some ⟨w.heap.size + 1 + 1 + 1, 0, none⟩), .int .i64 ((x : Nat) : Int), .pointer (some ⟨g10, 0, none⟩), undef, .slice A a.length ca, .int .i64 (a.length : Int), .slice B b.length cb, .int .i64 (b.length : Int), .int .i64 (a.length : Int), .slice B b.length cb, .slice B b.length cb, .int .i64 (b.length : Int), .int .i64 (a.length : Int), .int .i64 ((b.length : Int) - (a.length : Int)), .slice Bd a'.length cbd, .slice A a.length ca, .slice A a.length ca, .int .i64 (a.length : Int), .int .i64 (a.length : Int), .int .i64 0, .slice Ad a'.length cad, .func (.func 188) #[] #[.pointer (some ⟨w.heap.size + 1 + 1 + 1 + 1, 0, none⟩)], .int .i64 ((x : Nat) : Int), .agg #[.int .u64 (rd_T69 a' (x : Nat)).f0, .int .u64 (rd_T69 a' (x : Nat)).f1, .string (rd_T69 a' (x : Nat)).f2, .int .i64 (rd_T69 a' (x : Nat)).f3, .string (rd_T69 a' (x : Nat)).f4, .string (rd_T69 a' (x : Nat)).f5, .int .u64 (rd_T69 a' (x : Nat)).f6, .int .i64 (rd_T69 a' (x : Nat)).f7, .slice (f (x : Nat)).1 (rd_T69 a' (x : Nat)).f8.length (f (x : Nat)).2.1, .slice (f (x : Nat)).2.2.1 (rd_T69 a' (x : Nat)).f9.length (f (x : Nat)).2.2.2], undef, undef, undef, undef, undef, undef, undef, undef, undef, undef, undef, undef, undef, undef, undef, undef], defers := [] })
      (fun x a'' s W W' row hs hg hr => by obtain ⟨g10, h1, h2, h3⟩ := hs; exact ⟨g10, h1, blk_kept h2 hg (fun r e => (hr r e).2), h3⟩) ?assign ?body ?done ?stop
    case assign =>
      intro l pre x W K hi hK
      unfold encB
      gi_wp2
      have hb := below_alloc (Below.refl W.heap.size W) (.cells #[.int .u64 (rd_T69 a' (x : Nat)).f0, .int .u64 (rd_T69 a' (x : Nat)).f1, .string (rd_T69 a' (x : Nat)).f2, .int .i64 (rd_T69 a' (x : Nat)).f3, .string (rd_T69 a' (x : Nat)).f4, .string (rd_T69 a' (x : Nat)).f5, .int .u64 (rd_T69 a' (x : Nat)).f6, .int .i64 (rd_T69 a' (x : Nat)).f7, .slice (f (x : Nat)).1 (rd_T69 a' (x : Nat)).f8.length (f (x : Nat)).2.1, .slice (f (x : Nat)).2.2.1 (rd_T69 a' (x : Nat)).f9.length (f (x : Nat)).2.2.2] 69)
      exact hK _ _ (keeps_below hb) (hb.mono (by rw [s5]; exact hi.sz)) (hi.carry hb) ⟨W.heap.size, by rw [s5]; exact hi.sz, blk_new W _, rfl⟩
    case body =>
      rintro l pre x a'' W hl ⟨r, hr⟩ hi ⟨g10, hg10, BK10, rfl⟩ hlt
      have hxl := x.isLt
      obtain rfl : Bd = some bd := hBd (by omega)
      have RA := Aside0.mk ((hrA (x : Nat) hxl).below hi.bl)
      have RB := Aside0.mk ((hrB (x : Nat) (by omega)).below hi.bl)
      have KA := Aside0.mk (hsa (rd_T69 a' ((x : Nat) : Int)) (by rw [rdT a' _ hxl]; exact List.getElem_mem _))
      have KB := Aside0.mk (hsb (rd_T69 b' ((x : Nat) : Int)) (by rw [rdT b' _ (by omega)]; exact List.getElem_mem _))
      have HI := Aside0.mk hi
      have BK10' := Aside0.mk BK10
      have h8 : W.cell? ⟨w.heap.size + 1 + 1 + 1, 0, none⟩ = some (.slice (some bd) a'.length cbd) := (blk_cell hi.b8 0).trans rfl
      obtain ⟨hr0, hr1, hr2, hr3, hr4, hr5, hr6, hr7, hr8, hr9, -⟩ := RB.out
      have xb1 : ((x : Nat) : Int) < (a'.length : Int) := by omega
      have HA0 := Aside0.mk (below_alloc (Below.refl W.heap.size W) (.cells #[.int .u64 (rd_T69 b' (x : Nat)).f0, .int .u64 (rd_T69 b' (x : Nat)).f1, .string (rd_T69 b' (x : Nat)).f2, .int .i64 (rd_T69 b' (x : Nat)).f3, .string (rd_T69 b' (x : Nat)).f4, .string (rd_T69 b' (x : Nat)).f5, .int .u64 (rd_T69 b' (x : Nat)).f6, .int .i64 (rd_T69 b' (x : Nat)).f7, .slice (h (x : Nat)).1 (rd_T69 b' (x : Nat)).f8.length (h (x : Nat)).2.1, .slice (h (x : Nat)).2.2.1 (rd_T69 b' (x : Nat)).f9.length (h (x : Nat)).2.2.2] 69))
      have BP := Aside0.mk (blk_below BK10 HA0.out)
      have BQ := Aside0.mk (blk_new W (.cells #[.int .u64 (rd_T69 b' (x : Nat)).f0, .int .u64 (rd_T69 b' (x : Nat)).f1, .string (rd_T69 b' (x : Nat)).f2, .int .i64 (rd_T69 b' (x : Nat)).f3, .string (rd_T69 b' (x : Nat)).f4, .string (rd_T69 b' (x : Nat)).f5, .int .u64 (rd_T69 b' (x : Nat)).f6, .int .i64 (rd_T69 b' (x : Nat)).f7, .slice (h (x : Nat)).1 (rd_T69 b' (x : Nat)).f8.length (h (x : Nat)).2.1, .slice (h (x : Nat)).2.2.1 (rd_T69 b' (x : Nat)).f9.length (h (x : Nat)).2.2.2] 69))
      obtain ⟨hp0, hp1, hp2, hp3, hp4, hp5, hp6, hp7, hp8, hp9, fp0, fp1, fp2, fp3, fp4, fp5, fp6, fp7, fp8, fp9⟩ := cells10 BP.out
      obtain ⟨hq0, hq1, hq2, hq3, hq4, hq5, hq6, hq7, hq8, hq9, fq0, fq1, fq2, fq3, fq4, fq5, fq6, fq7, fq8, fq9⟩ := cells10 BQ.out
      have hd : (1 : Nat) ≤ 5 - 1 - 1 := by decide
      obtain ⟨s, hs⟩ : ∃ s, sameP (rd_T69 a' ((x : Nat) : Int)) (rd_T69 b' ((x : Nat) : Int)) = s := ⟨_, rfl⟩
      have SC := Aside0.mk (fun W' h1 h2 => asame_b (rd_T69 a' ((x : Nat) : Int)) (rd_T69 b' ((x : Nat) : Int)) s hs (f (x : Nat)).1 (f (x : Nat)).2.1 (f (x : Nat)).2.2.1 (f (x : Nat)).2.2.2 (h (x : Nat)).1 (h (x : Nat)).2.1 (h (x : Nat)).2.2.1 (h (x : Nat)).2.2.2 W' h1 KA.out h2 KB.out)
      have HS := Aside0.mk hs
      clear hs hi BK10 hlt
      cases s with
      | true =>
        gi_wp2_with (refine ⟨trivial, ?_⟩; gi_at_call 86; refine (CallsIn.inRound l (callsIn_wide.2 (SC.out _ (RA.out.R.below HA0.out) (RB.out.R.below HA0.out)))).mono ?_; rintro e W1 ⟨rfl, hb⟩; have HB1 := Aside0.mk (below_step HA0.out hb); clear hb)
        exact ⟨keeps_below HB1.out, HB1.out.mono (by rw [s5]; exact HI.out.sz), HI.out.next HB1.out HS.out⟩
      | false =>
        have hmx : Try.prog.follows .mixedOrders = true := by kernel_rfl
        obtain ⟨t, ht⟩ : ∃ t, (digP (rd_T69 a' ((x : Nat) : Int)) == digP (rd_T69 b' ((x : Nat) : Int))) = t := ⟨_, rfl⟩
        have HT := Aside0.mk ht
        have DPc := Aside0.mk (fun W' h1 => adigC (rd_T69 a' ((x : Nat) : Int)) (f (x : Nat)).1 (f (x : Nat)).2.1 (f (x : Nat)).2.2.1 (f (x : Nat)).2.2.2 W' h1 KA.out)
        have DQc := Aside0.mk (fun W' h1 => adigC (rd_T69 b' ((x : Nat) : Int)) (h (x : Nat)).1 (h (x : Nat)).2.1 (h (x : Nat)).2.2.1 (h (x : Nat)).2.2.2 W' h1 KB.out)
        have DSc := Aside0.mk (fun A c A1 c1 W' h1 h2 h3 h4 => ddsame (rd_T69 a' ((x : Nat) : Int)) (rd_T69 b' ((x : Nat) : Int)) t ht A c A1 c1 W' h1 h2 h3 h4)
        clear ht
        gi_wp2_with (refine ⟨trivial, ?_⟩; gi_at_call 86; refine (CallsIn.inRound l (callsIn_wide.2 (SC.out _ (RA.out.R.below HA0.out) (RB.out.R.below HA0.out)))).mono ?_; rintro e W1 ⟨rfl, hb⟩; have HB1 := Aside0.mk (below_step HA0.out hb); have P1 := Aside0.mk (blk_below BP.out hb); have Q1 := Aside0.mk (blk_below BQ.out hb); have HI1 := Aside0.mk (HI.out.carry HB1.out); clear hp0 fp0 hp1 fp1 hp2 fp2 hp3 fp3 hp4 fp4 hp5 fp5 hp6 fp6 hp7 fp7 hp8 fp8 hp9 fp9 hq0 fq0 hq1 fq1 hq2 fq2 hq3 fq3 hq4 fq4 hq5 fq5 hq6 fq6 hq7 fq7 hq8 fq8 hq9 fq9 BP BQ HA0 hb; obtain ⟨hp0, hp1, hp2, hp3, hp4, hp5, hp6, hp7, hp8, hp9, fp0, fp1, fp2, fp3, fp4, fp5, fp6, fp7, fp8, fp9⟩ := cells10 P1.out; obtain ⟨hq0, hq1, hq2, hq3, hq4, hq5, hq6, hq7, hq8, hq9, fq0, fq1, fq2, fq3, fq4, fq5, fq6, fq7, fq8, fq9⟩ := cells10 Q1.out)
        gi_region_with_o (first
          | (refine ⟨trivial, ?_⟩; gi_at_call 81; refine (CallsIn.inRound l (callsIn_wide.2 (DPc.out _ (by first | exact RA.out.R.below HB1.out | exact RA.out.R.below (below_drew1 HB1.out))))).mono ?_; rintro e W2 ⟨Da, da, rfl, hC, hdd, hb⟩; have D1 := Aside0.mk hC; have M1 := Aside0.mk hdd; (try replace hb := below_undr hb); have nb_ := Aside0.mk (below_step HB1.out hb); have p_ := Aside0.mk (blk_below P1.out hb); have q_ := Aside0.mk (blk_below Q1.out hb); have i_ := Aside0.mk (HI1.out.carry hb); clear P1 Q1 HI1 HB1 hp0 fp0 hp1 fp1 hp2 fp2 hp3 fp3 hp4 fp4 hp5 fp5 hp6 fp6 hp7 fp7 hp8 fp8 hp9 fp9 hq0 fq0 hq1 fq1 hq2 fq2 hq3 fq3 hq4 fq4 hq5 fq5 hq6 fq6 hq7 fq7 hq8 fq8 hq9 fq9 hb; have P1 := p_; have Q1 := q_; have HI1 := i_; have HB1 := nb_; clear p_ q_ i_ nb_; obtain ⟨hp0, hp1, hp2, hp3, hp4, hp5, hp6, hp7, hp8, hp9, fp0, fp1, fp2, fp3, fp4, fp5, fp6, fp7, fp8, fp9⟩ := cells10 P1.out; obtain ⟨hq0, hq1, hq2, hq3, hq4, hq5, hq6, hq7, hq8, hq9, fq0, fq1, fq2, fq3, fq4, fq5, fq6, fq7, fq8, fq9⟩ := cells10 Q1.out; clear DPc hC hdd)
          | (refine ⟨trivial, ?_⟩; gi_at_call 81; refine (CallsIn.inRound l (callsIn_wide.2 (DQc.out _ (by first | exact RB.out.R.below HB1.out | exact RB.out.R.below (below_drew1 HB1.out))))).mono ?_; rintro e W3 ⟨Db, db, rfl, hC, hdd, hb⟩; have D2 := Aside0.mk hC; have M2 := Aside0.mk hdd; (try replace hb := below_undr hb); have d1_ := Aside0.mk (Kd.C_below D1.out hb); clear D1; have D1 := d1_; clear d1_; (try replace hb := below_undr hb); have nb_ := Aside0.mk (below_step HB1.out hb); have p_ := Aside0.mk (blk_below P1.out hb); have q_ := Aside0.mk (blk_below Q1.out hb); have i_ := Aside0.mk (HI1.out.carry hb); clear P1 Q1 HI1 HB1 hp0 fp0 hp1 fp1 hp2 fp2 hp3 fp3 hp4 fp4 hp5 fp5 hp6 fp6 hp7 fp7 hp8 fp8 hp9 fp9 hq0 fq0 hq1 fq1 hq2 fq2 hq3 fq3 hq4 fq4 hq5 fq5 hq6 fq6 hq7 fq7 hq8 fq8 hq9 fq9 hb; have P1 := p_; have Q1 := q_; have HI1 := i_; have HB1 := nb_; clear p_ q_ i_ nb_; obtain ⟨hp0, hp1, hp2, hp3, hp4, hp5, hp6, hp7, hp8, hp9, fp0, fp1, fp2, fp3, fp4, fp5, fp6, fp7, fp8, fp9⟩ := cells10 P1.out; obtain ⟨hq0, hq1, hq2, hq3, hq4, hq5, hq6, hq7, hq8, hq9, fq0, fq1, fq2, fq3, fq4, fq5, fq6, fq7, fq8, fq9⟩ := cells10 Q1.out; clear DQc hC hdd)
          | (refine ⟨trivial, ?_⟩; gi_at_call 146; refine (CallsIn.inRound l (callsIn_wide.2 (DSc.out _ _ _ _ _ D1.out M1.out D2.out M2.out))).mono ?_; rintro e W4 ⟨rfl, hb⟩; (try replace hb := below_undr hb); have nb_ := Aside0.mk (below_step HB1.out hb); have p_ := Aside0.mk (blk_below P1.out hb); have q_ := Aside0.mk (blk_below Q1.out hb); have i_ := Aside0.mk (HI1.out.carry hb); clear P1 Q1 HI1 HB1 hp0 fp0 hp1 fp1 hp2 fp2 hp3 fp3 hp4 fp4 hp5 fp5 hp6 fp6 hp7 fp7 hp8 fp8 hp9 fp9 hq0 fq0 hq1 fq1 hq2 fq2 hq3 fq3 hq4 fq4 hq5 fq5 hq6 fq6 hq7 fq7 hq8 fq8 hq9 fq9 hb; have P1 := p_; have Q1 := q_; have HI1 := i_; have HB1 := nb_; clear p_ q_ i_ nb_; obtain ⟨hp0, hp1, hp2, hp3, hp4, hp5, hp6, hp7, hp8, hp9, fp0, fp1, fp2, fp3, fp4, fp5, fp6, fp7, fp8, fp9⟩ := cells10 P1.out; obtain ⟨hq0, hq1, hq2, hq3, hq4, hq5, hq6, hq7, hq8, hq9, fq0, fq1, fq2, fq3, fq4, fq5, fq6, fq7, fq8, fq9⟩ := cells10 Q1.out; clear DSc D1 D2 M1 M2))
        all_goals
         cases t with
         | false =>
          gi_wp2
          exact ⟨keeps_below HB1.out, ⟨HI1.out.bl, pre, x, rfl, HI1.out.same, HS.out, .inr ⟨rfl, HT.out, HI1.out.b4, HI1.out.b5, HI1.out.b6⟩⟩⟩
         | true =>
          have SPc := Aside0.mk (fun W' h1 => ashowC (rd_T69 a' ((x : Nat) : Int)) (f (x : Nat)).1 (f (x : Nat)).2.1 (f (x : Nat)).2.2.1 (f (x : Nat)).2.2.2 W' h1 KA.out)
          have SQc := Aside0.mk (fun W' h1 => ashowC (rd_T69 b' ((x : Nat) : Int)) (h (x : Nat)).1 (h (x : Nat)).2.1 (h (x : Nat)).2.2.1 (h (x : Nat)).2.2.2 W' h1 KB.out)
          gi_wp2
          gi_region_with_o (first
            | (refine ⟨trivial, ?_⟩; gi_at_call 84; refine (CallsIn.inRound l (callsIn_wide.2 (SPc.out _ (by first | exact RA.out.R.below HB1.out | exact RA.out.R.below (below_drew1 HB1.out))))).mono ?_; rintro e W5 ⟨Sa, sa, rfl, hC, hdd, hb⟩; have D1 := Aside0.mk hC; have M1 := Aside0.mk hdd; (try replace hb := below_undr hb); have nb_ := Aside0.mk (below_step HB1.out hb); have p_ := Aside0.mk (blk_below P1.out hb); have q_ := Aside0.mk (blk_below Q1.out hb); have i_ := Aside0.mk (HI1.out.carry hb); clear P1 Q1 HI1 HB1 hp0 fp0 hp1 fp1 hp2 fp2 hp3 fp3 hp4 fp4 hp5 fp5 hp6 fp6 hp7 fp7 hp8 fp8 hp9 fp9 hq0 fq0 hq1 fq1 hq2 fq2 hq3 fq3 hq4 fq4 hq5 fq5 hq6 fq6 hq7 fq7 hq8 fq8 hq9 fq9 hb; have P1 := p_; have Q1 := q_; have HI1 := i_; have HB1 := nb_; clear p_ q_ i_ nb_; obtain ⟨hp0, hp1, hp2, hp3, hp4, hp5, hp6, hp7, hp8, hp9, fp0, fp1, fp2, fp3, fp4, fp5, fp6, fp7, fp8, fp9⟩ := cells10 P1.out; obtain ⟨hq0, hq1, hq2, hq3, hq4, hq5, hq6, hq7, hq8, hq9, fq0, fq1, fq2, fq3, fq4, fq5, fq6, fq7, fq8, fq9⟩ := cells10 Q1.out; clear SPc hC hdd)
            | (refine ⟨trivial, ?_⟩; gi_at_call 84; refine (CallsIn.inRound l (callsIn_wide.2 (SQc.out _ (by first | exact RB.out.R.below HB1.out | exact RB.out.R.below (below_drew1 HB1.out))))).mono ?_; rintro e W6 ⟨Sb, sb, rfl, hC, hdd, hb⟩; have D2 := Aside0.mk hC; have M2 := Aside0.mk hdd; (try replace hb := below_undr hb); have d1_ := Aside0.mk (Kd.C_below D1.out hb); clear D1; have D1 := d1_; clear d1_; (try replace hb := below_undr hb); have nb_ := Aside0.mk (below_step HB1.out hb); have p_ := Aside0.mk (blk_below P1.out hb); have q_ := Aside0.mk (blk_below Q1.out hb); have i_ := Aside0.mk (HI1.out.carry hb); clear P1 Q1 HI1 HB1 hp0 fp0 hp1 fp1 hp2 fp2 hp3 fp3 hp4 fp4 hp5 fp5 hp6 fp6 hp7 fp7 hp8 fp8 hp9 fp9 hq0 fq0 hq1 fq1 hq2 fq2 hq3 fq3 hq4 fq4 hq5 fq5 hq6 fq6 hq7 fq7 hq8 fq8 hq9 fq9 hb; have P1 := p_; have Q1 := q_; have HI1 := i_; have HB1 := nb_; clear p_ q_ i_ nb_; obtain ⟨hp0, hp1, hp2, hp3, hp4, hp5, hp6, hp7, hp8, hp9, fp0, fp1, fp2, fp3, fp4, fp5, fp6, fp7, fp8, fp9⟩ := cells10 P1.out; obtain ⟨hq0, hq1, hq2, hq3, hq4, hq5, hq6, hq7, hq8, hq9, fq0, fq1, fq2, fq3, fq4, fq5, fq6, fq7, fq8, fq9⟩ := cells10 Q1.out; clear SQc hC hdd; have k4 := (blk_cell HI1.out.b4 0).trans (show _ = some (Value.slice none 0 0) from rfl); have k5 := (blk_cell HI1.out.b5 0).trans (show _ = some (Value.slice none 0 0) from rfl); have k6 := (blk_cell HI1.out.b6 0).trans (show _ = some (Value.bool false) from rfl); have z4 := blk_frozen HI1.out.b4 0; have z5 := blk_frozen HI1.out.b5 0; have z6 := blk_frozen HI1.out.b6 0))
          all_goals
           gi_wp2
           exact coll_leaf w5.heap.size HI1.out (keeps_below HB1.out) HS.out HT.out D1.out M1.out D2.out M2.out
    case done =>
      rintro D ys W hD rfl hI hK
      have k4 := (blk_cell hI.b4 0).trans (show _ = some (Value.slice none 0 0) from rfl)
      have k5 := (blk_cell hI.b5 0).trans (show _ = some (Value.slice none 0 0) from rfl)
      have k6 := (blk_cell hI.b6 0).trans (show _ = some (Value.bool false) from rfl)
      have z4 := blk_frozen hI.b4 0
      have z5 := blk_frozen hI.b5 0
      have z6 := blk_frozen hI.b6 0
      have HI := Aside0.mk hI
      have HK := Aside0.mk hK
      have HN := Aside0.mk (coll_none a' b' hab.symm (fun j hj => hI.same ⟨j, hj⟩ ((dnF_mem _ _ (Nat.le_refl _) _).2 (by omega))))
      clear hI hK
      gi_wp2
      have h3 := three (.slice none 0 0) (.slice none 0 0) (.bool false) HI.out.b4 HI.out.b5 HI.out.b6
      have hB3 := three_below (.slice none 0 0) (.slice none 0 0) (.bool false) HI.out.bl
      obtain ⟨W', hW'⟩ : ∃ W', (((W.setCell ⟨w.heap.size, 0, none⟩ (.slice none 0 0)).setCell ⟨w.heap.size + 1, 0, none⟩ (.slice none 0 0)).setCell ⟨w.heap.size + 1 + 1, 0, none⟩ (.bool false)) = W' := ⟨_, rfl⟩
      have hK' : W'.heap[D]? = some (.deferred (some [])) := by rw [← hW']; exact (KeepsOthers.setCell _ _ _).same D _ ((KeepsOthers.setCell _ _ _).same D _ ((KeepsOthers.setCell _ _ _).same D _ HK.out rfl) rfl) rfl
      rw [hW'] at h3 hB3 ⊢
      refine ⟨by simp, .inl ⟨_, _, rfl, run_takeDeferred hK', ?_⟩⟩
      have hgr := grownBy_putObj' W' D (.deferred none)
      have hrr : ∀ r, some D = some r → ∃ o : Obj, W'.heap[r]? = some o ∧ o.isCells = false := fun r e => by cases e; exact ⟨_, hK', rfl⟩
      have c4 := cell_kept ((blk_cell h3.1 0).trans (show _ = some (Value.slice none 0 0) from rfl)) hgr hrr
      have c5 := cell_kept ((blk_cell h3.2.1 0).trans (show _ = some (Value.slice none 0 0) from rfl)) hgr hrr
      have c6 := cell_kept ((blk_cell h3.2.2 0).trans (show _ = some (Value.bool false) from rfl)) hgr hrr
      refine ⟨.tuple #[.slice none 0 0, .slice none 0 0, .bool false], ?_, CollPost_below (CollPost_none HN.out hB3) hgr hrr (hB3.grown hgr hB3.size (fun k e => by cases e; exact Nat.le_trans (by omega) hD))⟩
      simp [results, Try.f87, go_sem, c4, c5, c6]
    case stop =>
      rintro D cd pre W hD ⟨k, hk, rfl⟩ hX hK
      obtain ⟨ini, x, e1, hsame, hd, hcase⟩ := hX.ex
      have HX := Aside0.mk hX.bl
      have HK := Aside0.mk hK
      have HN := Aside0.mk (coll_at a' b' hab.symm x.val x.isLt (fun j h1 h2 => hsame ⟨j, h2⟩ (dn_last _ k hk ini x e1 ⟨j, h2⟩ h1)) hd)
      rcases hcase with ⟨rfl, ht, Sa, sa, Sb, sb, q4, q5, q6, C1, M1, C2, M2⟩ | ⟨rfl, ht, q4, q5, q6⟩
      · have QQ := Aside0.mk (And.intro q4 (And.intro q5 q6))
        have PO := Aside0.mk (CollPost_same HN.out ht C1 M1 C2 M2 HX.out)
        clear hX hK e1 hsame hd ht q4 q5 q6 C1 M1 C2 M2 HN
        gi_wp2
        refine ⟨by simp, .inl ⟨_, _, rfl, run_takeDeferred HK.out, ?_⟩⟩
        have hgr := grownBy_putObj' W D (.deferred none)
        have hrr : ∀ r, some D = some r → ∃ o : Obj, W.heap[r]? = some o ∧ o.isCells = false := fun r e => by cases e; exact ⟨_, HK.out, rfl⟩
        have c4 := cell_kept ((blk_cell QQ.out.1 0).trans (show _ = some (Value.slice Sa (showP (rd_T69 a' ((x : Nat) : Int))).length sa) from rfl)) hgr hrr
        have c5 := cell_kept ((blk_cell QQ.out.2.1 0).trans (show _ = some (Value.slice Sb (showP (rd_T69 b' ((x : Nat) : Int))).length sb) from rfl)) hgr hrr
        have c6 := cell_kept ((blk_cell QQ.out.2.2 0).trans (show _ = some (Value.bool true) from rfl)) hgr hrr
        refine ⟨.tuple #[.slice Sa (showP (rd_T69 a' ((x : Nat) : Int))).length sa, .slice Sb (showP (rd_T69 b' ((x : Nat) : Int))).length sb, .bool true], ?_, CollPost_below PO.out hgr hrr (HX.out.grown hgr HX.out.size (fun k e => by cases e; exact Nat.le_trans (by omega) hD))⟩
        simp [results, Try.f87, go_sem, c4, c5, c6]
      · have k4 := (blk_cell q4 0).trans (show _ = some (Value.slice none 0 0) from rfl)
        have k5 := (blk_cell q5 0).trans (show _ = some (Value.slice none 0 0) from rfl)
        have k6 := (blk_cell q6 0).trans (show _ = some (Value.bool false) from rfl)
        have z4 := blk_frozen q4 0
        have z5 := blk_frozen q5 0
        have z6 := blk_frozen q6 0
        have QQ := Aside0.mk (And.intro q4 (And.intro q5 q6))
        have PO := Aside0.mk (fun W' (hb : Below w.heap.size w W') => CollPost_differ (w' := W') HN.out ht hb)
        clear hX hK e1 hsame hd ht q4 q5 q6 HN
        gi_wp2
        have h3 := three (.slice none 0 0) (.slice none 0 0) (.bool false) QQ.out.1 QQ.out.2.1 QQ.out.2.2
        have hB3 := three_below (.slice none 0 0) (.slice none 0 0) (.bool false) HX.out
        obtain ⟨W', hW'⟩ : ∃ W', (((W.setCell ⟨w.heap.size, 0, none⟩ (.slice none 0 0)).setCell ⟨w.heap.size + 1, 0, none⟩ (.slice none 0 0)).setCell ⟨w.heap.size + 1 + 1, 0, none⟩ (.bool false)) = W' := ⟨_, rfl⟩
        have hK' : W'.heap[D]? = some (.deferred (some [])) := by rw [← hW']; exact (KeepsOthers.setCell _ _ _).same D _ ((KeepsOthers.setCell _ _ _).same D _ ((KeepsOthers.setCell _ _ _).same D _ HK.out rfl) rfl) rfl
        rw [hW'] at h3 hB3 ⊢
        refine ⟨by simp, .inl ⟨_, _, rfl, run_takeDeferred hK', ?_⟩⟩
        have hgr := grownBy_putObj' W' D (.deferred none)
        have hrr : ∀ r, some D = some r → ∃ o : Obj, W'.heap[r]? = some o ∧ o.isCells = false := fun r e => by cases e; exact ⟨_, hK', rfl⟩
        have c4 := cell_kept ((blk_cell h3.1 0).trans (show _ = some (Value.slice none 0 0) from rfl)) hgr hrr
        have c5 := cell_kept ((blk_cell h3.2.1 0).trans (show _ = some (Value.slice none 0 0) from rfl)) hgr hrr
        have c6 := cell_kept ((blk_cell h3.2.2 0).trans (show _ = some (Value.bool false) from rfl)) hgr hrr
        refine ⟨.tuple #[.slice none 0 0, .slice none 0 0, .bool false], ?_, CollPost_below (PO.out _ hB3) hgr hrr (hB3.grown hgr hB3.size (fun k e => by cases e; exact Nat.le_trans (by omega) hD))⟩
        simp [results, Try.f87, go_sem, c4, c5, c6]
end Go.Proofs.Ytlnpmodhejakiaa.AV
