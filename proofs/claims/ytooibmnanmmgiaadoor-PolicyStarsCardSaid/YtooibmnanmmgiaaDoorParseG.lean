/- policy.Parse of a text whose rules are all good. -/
import Derived.Test.YtooibmnanmmgiaaDoorSplitG
import Derived.Test.YtooibmnanmmgiaaDoorWordG
import Derived.Test.YtooibmnanmmgiaaDoorPCx0
import Derived.Test.YtooibmnanmmgiaaDoorRegIn
namespace Go.Proofs.YtooibmnanmmgiaaDoor.SQ
open Go.RowKit Go.Shelf Go.Proofs.YtooibmnanmmgiaaDoorW.PrintWords Go.Proofs.YtooibmnanmmgiaaDoorW.PrintLast Go.Proofs.YtooibmnanmmgiaaDoorW.PrintMore
open Go.Proofs.YtooibmnanmmgiaaDoor.PC (S43 k43 k43_mkM)
theorem info43 : (Tryd.prog.info? 43).map (fun i => (i.zero, i.size, i.bytes)) = some (some (.agg #[(.bool false), (.string ⟨#[]⟩), (.string ⟨#[]⟩), (.string ⟨#[]⟩)]), 4, 56) := by kernel_rfl
set_option linter.unusedVariables false
set_option linter.unusedSimpArgs false
attribute [local go_sem] Oper.semAt_some
/-- a good rule's text and its words -/
structure PR where
  txt : ByteArray
  a0 : ByteArray
  a1 : ByteArray
  a2 : ByteArray
  a3 : ByteArray
  j : Joins 32 txt.data.toList ([a0, a1, a2, a3].map fun x => x.data.toList)
  d : a0 = (⟨#[97, 108, 108, 111, 119]⟩ : ByteArray) ∨ a0 = (⟨#[100, 101, 110, 121]⟩ : ByteArray)
  g : ∀ x ∈ [a1, a2, a3], GoodW x
  sz : txt.size < 4294967281
def PR.deny (p : PR) : Bool := p.a0.data.toList == [100, 101, 110, 121]
def PR.rule (p : PR) : S43 := ⟨p.deny, p.a1, p.a2, p.a3⟩
/-- six new blocks -/
theorem six (w : World) (s : ByteArray) : ∃ V, ((((((w.alloc (.cells #[.slice none 0 0] 27)).alloc (.cells #[.int .i64 0] 38)).alloc (.cells #[.slice none 0 0] 27)).alloc (.cells #[.string s] 9)).alloc (.cells #[.string ⟨#[59]⟩] 9)).alloc (.cells #[.int .i64 0] 3)) = V ∧ V.heap.size = w.heap.size + 6 ∧
    V.heap[w.heap.size]? = some (.cells #[.slice none 0 0] 27 (0, 0)) ∧ V.heap[w.heap.size + 1]? = some (.cells #[.int .i64 0] 38 (0, 0)) ∧ V.heap[w.heap.size + 1 + 1]? = some (.cells #[.slice none 0 0] 27 (0, 0)) ∧ V.heap[w.heap.size + 1 + 1 + 1]? = some (.cells #[.string s] 9 (0, 0)) ∧ V.heap[w.heap.size + 1 + 1 + 1 + 1]? = some (.cells #[.string ⟨#[59]⟩] 9 (0, 0)) ∧ V.heap[w.heap.size + 1 + 1 + 1 + 1 + 1]? = some (.cells #[.int .i64 0] 3 (0, 0)) ∧ Below w.heap.size w V := by
  refine ⟨_, rfl, by simp only [World.size_alloc], ?_, ?_, ?_, ?_, ?_, ?_, ?_⟩
  · exact blk_alloc (blk_alloc (blk_alloc (blk_alloc (blk_alloc (blk_new w _) _) _) _) _) _
  · have := blk_new (w.alloc (.cells #[.slice none 0 0] 27)) (.cells #[.int .i64 0] 38)
    simp only [World.size_alloc] at this
    exact blk_alloc (blk_alloc (blk_alloc (blk_alloc this _) _) _) _
  · have := blk_new ((w.alloc (.cells #[.slice none 0 0] 27)).alloc (.cells #[.int .i64 0] 38)) (.cells #[.slice none 0 0] 27)
    simp only [World.size_alloc] at this
    exact blk_alloc (blk_alloc (blk_alloc this _) _) _
  · have := blk_new (((w.alloc (.cells #[.slice none 0 0] 27)).alloc (.cells #[.int .i64 0] 38)).alloc (.cells #[.slice none 0 0] 27)) (.cells #[.string s] 9)
    simp only [World.size_alloc] at this
    exact blk_alloc (blk_alloc this _) _
  · have := blk_new ((((w.alloc (.cells #[.slice none 0 0] 27)).alloc (.cells #[.int .i64 0] 38)).alloc (.cells #[.slice none 0 0] 27)).alloc (.cells #[.string s] 9)) (.cells #[.string ⟨#[59]⟩] 9)
    simp only [World.size_alloc] at this
    exact blk_alloc this _
  · have := blk_new (((((w.alloc (.cells #[.slice none 0 0] 27)).alloc (.cells #[.int .i64 0] 38)).alloc (.cells #[.slice none 0 0] 27)).alloc (.cells #[.string s] 9)).alloc (.cells #[.string ⟨#[59]⟩] 9)) (.cells #[.int .i64 0] 3)
    simp only [World.size_alloc] at this
    exact this
  · exact below_alloc (below_alloc (below_alloc (below_alloc (below_alloc (below_alloc (Below.refl _ w) _) _) _) _) _) _
/-- between two rounds -/
structure PI (w : World) (pre : List PR) (W : World) : Prop where
  out : ∃ v, W.heap[w.heap.size + 1 + 1]? = some (.cells #[v] 27 (0, 0)) ∧ Kd.R k43 43 W (w.heap.size + 6) (fun _ => True) v (pre.map PR.rule)
  r2 : W.heap[w.heap.size]? = some (.cells #[.slice none 0 0] 27 (0, 0))
  r3 : W.heap[w.heap.size + 1]? = some (.cells #[.int .i64 0] 38 (0, 0))
  bl : Below w.heap.size w W
  sz : w.heap.size + 6 ≤ W.heap.size
theorem blk_kept {W W' : World} {row : Option Nat} {g : Nat} {cs : Array Value} {t : TypeId} {fr : Nat × Nat} (h : W.heap[g]? = some (.cells cs t fr)) (hg : W.grownBy W' row) (hr : ∀ r, row = some r → ∃ o : Obj, W.heap[r]? = some o ∧ o.isCells = false) : W'.heap[g]? = some (.cells cs t fr) := by
  refine (hg.block g (blk_lt h) (fun e => ?_)).trans h
  obtain ⟨o, ho, hc⟩ := hr g e.symm
  rw [h] at ho
  cases ho
  cases hc
theorem R_kept {W W' : World} {row : Option Nat} {b : Nat} {v : Value} {l : List S43} (h : Kd.R k43 43 W b (fun _ => True) v l) (hg : W.grownBy W' row) (hr : ∀ r, row = some r → ∃ o : Obj, W.heap[r]? = some o ∧ o.isCells = false) : Kd.R k43 43 W' b (fun _ => True) v l :=
  Kd.R_mono (Kd.R_grown (Kd.R_bound h) hg (fun k hk e => by
    obtain ⟨_, _, _, q, _, cells, hc⟩ := hk
    obtain ⟨o, ho, hn⟩ := hr k e.symm
    rw [hc] at ho
    cases ho
    cases hn)) (fun _ _ => trivial)
theorem PI_own (w : World) (n : Nat) (hn : w.heap.size + 6 ≤ n) : OwnFrom n (PI w) := fun s W W' row hs hg hr => by
  obtain ⟨v, h1, h2⟩ := hs.out
  have hr' : ∀ r, row = some r → ∃ o : Obj, W.heap[r]? = some o ∧ o.isCells = false := fun r e => (hr r e).2
  exact ⟨⟨v, blk_kept h1 hg hr', R_kept h2 hg hr'⟩, blk_kept hs.r2 hg hr', blk_kept hs.r3 hg hr', hs.bl.grown hg hs.bl.size (fun k e => by cases e; have := (hr k rfl).1; omega), Nat.le_trans hs.sz hg.size⟩
theorem PI_far (w : World) (s : List PR) (A : World) (g : Nat) (u : Value) (h0 : w.heap.size + 1 + 1 < g) (h6 : g < w.heap.size + 6) (hs : PI w s A) : PI w s (A.setCell ⟨g, 0, none⟩ u) := by
  obtain ⟨v, h1, h2⟩ := hs.out
  refine ⟨⟨v, blk_far h1 (Nat.ne_of_lt h0) _, Kd.R_mono (Kd.R_far (p := ⟨g, 0, none⟩) (Kd.R_bound h2) (fun k hk => by have := hk.2.1; show k ≠ g; omega) u) (fun _ _ => trivial)⟩, blk_far hs.r2 (Nat.ne_of_lt (show w.heap.size < g by omega)) _, blk_far hs.r3 (Nat.ne_of_lt (show w.heap.size + 1 < g by omega)) _, below_set hs.bl (by show _ ≤ g; omega), by rw [World.size_setCell]; exact hs.sz⟩
/-- a round's end -/
theorem parse_leaf (w : World) (B : Nat) (hB : B = w.heap.size + 6) {pre : List PR} {W W3 w5 : World} {vo v1 : Value} {l : List S43} (hi : PI w pre W) (ho : w5.heap[w.heap.size + 1 + 1]? = some (.cells #[vo] 27 (0, 0))) (hr : Kd.R k43 43 w5 (w.heap.size + 6) (fun _ => True) v1 l) (hb : Below (w.heap.size + 6) W w5)
    (hg : W3.grownBy w5 vo.ownBlock) (hc : ∀ k, k < W.heap.size → W3.heap[k]? = W.heap[k]?) {l0 : List S43} (h3 : Kd.R k43 43 W3 (w.heap.size + 6) (fun _ => True) vo l0) (xs : List PR) (hx : l = xs.map PR.rule) :
    KeepsFrom B W (w5.setCell ⟨w.heap.size + 1 + 1, 0, none⟩ v1) ∧ Kp3 (w.heap.size + 1 + 1 + 1 + 1) (w.heap.size + 1 + 1 + 1) (w.heap.size + 1 + 1 + 1 + 1 + 1) W (w5.setCell ⟨w.heap.size + 1 + 1, 0, none⟩ v1) ∧ PI w xs (w5.setCell ⟨w.heap.size + 1 + 1, 0, none⟩ v1) := by
  subst hB
  have far : ∀ k, k ≠ w.heap.size + 1 + 1 → (w5.setCell ⟨w.heap.size + 1 + 1, 0, none⟩ v1).heap[k]? = w5.heap[k]? := fun k hk => Below.heap_setCell w5 ⟨w.heap.size + 1 + 1, 0, none⟩ v1 k hk
  refine ⟨⟨by rw [World.size_setCell]; exact hb.size, fun k o hk hko hn => ?_⟩, ⟨fun o h => (far _ (by omega)).trans ((hb.block _ (by omega)).trans h), fun o h => (far _ (by omega)).trans ((hb.block _ (by omega)).trans h), fun o h => (far _ (by omega)).trans ((hb.block _ (by omega)).trans h)⟩, ?_⟩
  · have hlt := (Array.getElem?_eq_some_iff.1 hko).1
    refine (far k (by omega)).trans ((hg.block k (by have := (Array.getElem?_eq_some_iff.1 ((hc k hlt).trans hko)).1; exact this) (fun e => ?_)).trans ((hc k hlt).trans hko))
    obtain ⟨inner, hown⟩ := Kd.R_own h3
    obtain ⟨cells, hcs⟩ := own_typed hown k e.symm
    rw [hc k hlt, hko] at hcs
    cases hcs
    cases hn
  · subst hx
    refine ⟨⟨v1, blk_put (cs := #[vo]) ho 0 _ rfl, Kd.R_mono (Kd.R_far (p := ⟨w.heap.size + 1 + 1, 0, none⟩) (Kd.R_bound hr) (fun k hk => by have := hk.2.1; show k ≠ w.heap.size + 1 + 1; omega) v1) (fun _ _ => trivial)⟩, (far _ (by omega)).trans ((hb.block _ (by omega)).trans hi.r2), (far _ (by omega)).trans ((hb.block _ (by omega)).trans hi.r3), below_set (hi.bl.trans (hb.mono (by omega))) (by show _ ≤ w.heap.size + 1 + 1; omega), by rw [World.size_setCell]; exact Nat.le_trans hi.sz hb.size⟩
set_option maxRecDepth 100000 in
set_option maxHeartbeats 8000000 in
theorem parse_good (ps : List PR) (hps : ps.length ≤ 1000) (s : ByteArray) (hs : s.size ≤ 150) (h0 : 0 < s.size) (hJ : Joins 59 s.data.toList (ps.map fun p => p.txt.data.toList)) (w : World) :
    Calls Tryd.prog 18 #[.string s] w fun e w' => ∃ v, e = .returned (.tuple #[v, .int .i64 0]) ∧ Kd.R k43 43 w' w.heap.size (fun _ => True) v (ps.map PR.rule) ∧ Below w.heap.size w w' := by
  have hu27 := Tryd.underlying27
  have hu43 := Tryd.underlying43
  have HJ := Aside0.mk hJ
  have t1 : decide (150 < (s.size : Int)) = false := decide_eq_false (by omega)
  have t2 : decide (150 < s.size) = false := decide_eq_false (by omega)
  have s0 : s.toList.isEmpty = false := by
    rw [Lib.toList_data, List.isEmpty_eq_false_iff]
    intro e
    have := congrArg List.length e
    rw [← Lib.size_eq, List.length_nil] at this
    omega
  have s1 : (s.toList = []) = False := eq_false (fun e => by rw [e] at s0; cases s0)
  have HZ := Aside0.mk hs
  clear hJ hs h0
  refine (callsIn_wide (n := 5)).1 ?_
  have hro : Fence.wide.round = none := rfl
  have h1 : (1 : Nat) ≤ 5 := by decide
  refine callsIn_of_wp_marks Tryd.func18 rfl trivial ?_ hro
  simp only [Tryd.ntmps18, List.size_toArray, List.length_cons, List.length_nil, Nat.reduceAdd, Nat.reduceSub, Array.replicate_succ, Array.replicate_zero, List.push_toArray, List.append_toArray, List.nil_append, List.cons_append]
  gi_wp2_with (refine ⟨trivial, ?_⟩; gi_at_call 25; refine (sq_in _ (by decide) s ⟨#[59]⟩ _).mono ?_; rintro e w' ⟨rfl, rfl⟩)
  obtain ⟨V, eV, sV, q2, q3, q4, qs, qp, qv, bV⟩ := six w s
  rw [eV]
  clear eV
  have hI0 : PI w [] V := ⟨⟨_, q4, Kd.R_nil _ _ _ _ _⟩, q2, q3, bV, by omega⟩
  refine range_on hro h1 (gf := 51) (lb := #[.pointer (some ⟨w.heap.size + 1 + 1 + 1 + 1, 0, none⟩), .pointer (some ⟨w.heap.size + 1 + 1 + 1, 0, none⟩), .pointer (some ⟨w.heap.size + 1 + 1 + 1 + 1 + 1, 0, none⟩)]) rfl trivial (enters_of Tryd.func51 (by kernel_rfl) rfl) (Bs := w.heap.size + 1 + 1 + 1) (by omega)
    (sq1_all PR.txt 4 (by decide) (w.heap.size + 1 + 1 + 1 + 1) (w.heap.size + 1 + 1 + 1) (w.heap.size + 1 + 1 + 1 + 1 + 1) 59 s ps (by have := HZ.out; omega) HJ.out V (by omega) (by omega) qp qs qv)
    (fun h k => ⟨fun o ho => k.p o (h.p o ho), fun o ho => k.s o (h.s o ho), fun o ho => k.v o (h.v o ho)⟩)
    (fun W l o hl => ⟨fun o' ho => (World.putObj_heap_other (by omega)).trans ho, fun o' ho => (World.putObj_heap_other (by omega)).trans ho, fun o' ho => (World.putObj_heap_other (by omega)).trans ho⟩)
    (fun _ => rfl) (PI w) (PI_own w _ (by omega)) (fun s A v h => PI_far w s A _ v (by omega) (by omega) h) hI0 ?a1 ?assign ?body ?done
  case assign =>
    intro l pre x W K hi hK
    gi_wp2
    exact hK
  case body =>
    intro l pre x W hl hi hlen
    obtain ⟨txt, a0, a1, a2, a3, j, d, g, sz⟩ := x
    have HI := Aside0.mk hi
    have Hl := Aside0.mk hl
    have SP := Aside0.mk (fun W' => split_one txt 32 [a0, a1, a2, a3] sz j W')
    have WD := Aside0.mk (fun W' g' h' => words_ok g' 3 a0 [a1, a2, a3] g (by simp) W' h')
    obtain ⟨vo, ho, hR⟩ := HI.out.out
    have HO := Aside0.mk ho
    have HR := Aside0.mk hR
    clear hi hl ho hR
    have HLEN := Aside0.mk (show pre.length < 1000 from Nat.lt_of_lt_of_le hlen hps)
    rcases d with rfl | rfl
    · gi_wp2_with (first
        | (refine ⟨trivial, ?_⟩; gi_at_call 26; refine (CallsIn.inRound l (callsIn_wide.2 (SP.out W))).mono ?_; rintro e W1 ⟨rfl, hW1⟩; have bs_ := blk_new W (.cells ([(⟨#[97, 108, 108, 111, 119]⟩ : ByteArray), a1, a2, a3].map Value.string).toArray 9); have bb_ := below_alloc (Below.refl W.heap.size W) (.cells ([(⟨#[97, 108, 108, 111, 119]⟩ : ByteArray), a1, a2, a3].map Value.string).toArray 9); rw [← hW1] at bs_ bb_; obtain ⟨gs, hgs⟩ : ∃ g, W.heap.size = g := ⟨_, rfl⟩; rw [hgs] at bs_ ⊢; have BS := Aside0.mk (show W1.heap[gs]? = some (.cells #[.string (⟨#[97, 108, 108, 111, 119]⟩ : ByteArray), .string a1, .string a2, .string a3] 9 (0, 0)) from bs_); have BB := Aside0.mk bb_; have HGS := Aside0.mk hgs; clear hW1 bs_ bb_ hgs; have hz0 := (blk_cell BS.out 0).trans (show _ = some (Value.string (⟨#[97, 108, 108, 111, 119]⟩ : ByteArray)) from rfl); have hz1 := (blk_cell BS.out 1).trans (show _ = some (Value.string a1) from rfl); have hz2 := (blk_cell BS.out 2).trans (show _ = some (Value.string a2) from rfl); have hz3 := (blk_cell BS.out 3).trans (show _ = some (Value.string a3) from rfl))
        | (refine ⟨trivial, ?_⟩; gi_at_call 27; refine (CallsIn.inRound l (callsIn_wide.2 (WD.out W1 gs BS.out))).mono ?_; rintro e W2 ⟨rfl, hb⟩; have bs_ := blk_below BS.out hb; have bb_ := below_step BB.out hb; clear BS BB hz0 hz1 hz2 hz3 hb; have BS := Aside0.mk bs_; have BB := Aside0.mk bb_; clear bs_ bb_; have hz0 := (blk_cell BS.out 0).trans (show _ = some (Value.string (⟨#[97, 108, 108, 111, 119]⟩ : ByteArray)) from rfl); have hz1 := (blk_cell BS.out 1).trans (show _ = some (Value.string a1) from rfl); have hz2 := (blk_cell BS.out 2).trans (show _ = some (Value.string a2) from rfl); have hz3 := (blk_cell BS.out 3).trans (show _ = some (Value.string a3) from rfl)))
      have BS3 := Aside0.mk (blk_drew BS.out)
      have HO3 := Aside0.mk (blk_drew (blk_below HO.out BB.out))
      have BB3 := Aside0.mk (below_drew1 (BB.out.mono HI.out.sz))
      have HR3 := Aside0.mk (Kd.R_drew (Kd.R_below HR.out BB.out))
      have NC3 := Aside0.mk (show ∀ k, k < W.heap.size → W2.drew.heap[k]? = W.heap[k]? from fun k hk => (below_drew1 BB.out).block k hk)
      clear BS BB hz0 hz1 hz2 hz3
      refine startIn_ (n := 18) (S := fun w' => w'.cell? ⟨w.heap.size + 1 + 1, 0, none⟩ = some vo ∧ w'.cell? ⟨gs, 0, none⟩ = some (.string (⟨#[97, 108, 108, 111, 119]⟩ : ByteArray)) ∧ w'.cell? ⟨gs, 1, none⟩ = some (.string a1) ∧ w'.cell? ⟨gs, 2, none⟩ = some (.string a2) ∧ w'.cell? ⟨gs, 3, none⟩ = some (.string a3)) (ds := [17]) #[false, false, false, false, false, false, false, false, false, false, false, false, false, false, false, false, false, false] (by kernel_rfl) rfl rfl (by rfl) (fun ⟨_, _, h⟩ => h) ⟨(blk_cell HO3.out 0).trans rfl, (blk_cell BS3.out 0).trans rfl, (blk_cell BS3.out 1).trans rfl, (blk_cell BS3.out 2).trans rfl, (blk_cell BS3.out 3).trans rfl⟩ (fun hHeld => ?_)
      generalize World.drew W2 = W3 at BS3 HO3 BB3 HR3 NC3 hHeld ⊢
      refine pure_ (i := 1) (N := some 41) (v := ?_) (a' := ?_) #[false, true, false, false, false, false, false, false, false, false, false, false, false, false, false, false, false, false] rfl rfl (by kernel_rfl) (fun _ _ _ h => h) (Or.inl ⟨by rfl, ?_⟩) ?_ ?_
      rotate_left
      · intro w'
        go_simp
        with_reducible rfl
      rotate_left
      · simp only [Act.put, List.setIfInBounds_toArray, List.set_cons_zero, List.set_cons_succ, i64_w, i32_w]
        rfl
      refine pure_ (i := 2) (N := some 42) (v := ?_) (a' := ?_) #[false, true, true, false, false, false, false, false, false, false, false, false, false, false, false, false, false, false] rfl rfl (by kernel_rfl) (fun _ _ _ h => h) (Or.inl ⟨by rfl, ?_⟩) ?_ ?_
      rotate_left
      · intro w'
        go_simp
        with_reducible rfl
      rotate_left
      · simp only [Act.put, List.setIfInBounds_toArray, List.set_cons_zero, List.set_cons_succ, i64_w, i32_w]
        rfl
      refine pure_ (i := 5) (N := some 45) (v := ?_) (a' := ?_) #[false, true, true, false, false, true, false, false, false, false, false, false, false, false, false, false, false, false] rfl rfl (by kernel_rfl) (fun _ _ _ h => h) (Or.inl ⟨by rfl, ?_⟩) ?_ ?_
      rotate_left
      · intro w'
        go_simp
        with_reducible rfl
      rotate_left
      · simp only [Act.put, List.setIfInBounds_toArray, List.set_cons_zero, List.set_cons_succ, i64_w, i32_w]
        rfl
      refine pure_ (i := 6) (N := some 46) (v := ?_) (a' := ?_) #[false, true, true, false, false, true, true, false, false, false, false, false, false, false, false, false, false, false] rfl rfl (by kernel_rfl) (fun _ _ _ h => h) (Or.inl ⟨by rfl, ?_⟩) ?_ ?_
      rotate_left
      · intro w'
        go_simp
        with_reducible rfl
      rotate_left
      · simp only [Act.put, List.setIfInBounds_toArray, List.set_cons_zero, List.set_cons_succ, i64_w, i32_w]
        rfl
      refine pure_ (i := 8) (N := some 48) (v := ?_) (a' := ?_) #[false, true, true, false, false, true, true, false, true, false, false, false, false, false, false, false, false, false] rfl rfl (by kernel_rfl) (fun _ _ _ h => h) (Or.inl ⟨by rfl, ?_⟩) ?_ ?_
      rotate_left
      · intro w'
        go_simp
        with_reducible rfl
      rotate_left
      · simp only [Act.put, List.setIfInBounds_toArray, List.set_cons_zero, List.set_cons_succ, i64_w, i32_w]
        rfl
      refine pure_ (i := 9) (N := some 49) (v := ?_) (a' := ?_) #[false, true, true, false, false, true, true, false, true, true, false, false, false, false, false, false, false, false] rfl rfl (by kernel_rfl) (fun _ _ _ h => h) (Or.inl ⟨by rfl, ?_⟩) ?_ ?_
      rotate_left
      · intro w'
        go_simp
        with_reducible rfl
      rotate_left
      · simp only [Act.put, List.setIfInBounds_toArray, List.set_cons_zero, List.set_cons_succ, i64_w, i32_w]
        rfl
      refine pure_ (i := 11) (N := some 51) (v := ?_) (a' := ?_) #[false, true, true, false, false, true, true, false, true, true, false, true, false, false, false, false, false, false] rfl rfl (by kernel_rfl) (fun _ _ _ h => h) (Or.inl ⟨by rfl, ?_⟩) ?_ ?_
      rotate_left
      · intro w'
        go_simp
        with_reducible rfl
      rotate_left
      · simp only [Act.put, List.setIfInBounds_toArray, List.set_cons_zero, List.set_cons_succ, i64_w, i32_w]
        rfl
      refine pure_ (i := 12) (N := some 52) (v := ?_) (a' := ?_) #[false, true, true, false, false, true, true, false, true, true, false, true, true, false, false, false, false, false] rfl rfl (by kernel_rfl) (fun _ _ _ h => h) (Or.inl ⟨by rfl, ?_⟩) ?_ ?_
      rotate_left
      · intro w'
        go_simp
        with_reducible rfl
      rotate_left
      · simp only [Act.put, List.setIfInBounds_toArray, List.set_cons_zero, List.set_cons_succ, i64_w, i32_w]
        rfl
      refine take_ (i := 0) (N := some 40) (v := ?_) (a' := ?_) #[true, true, true, false, false, true, true, false, true, true, false, true, true, false, false, false, false, false] rfl rfl (by kernel_rfl) (fun _ _ _ h => h) (Or.inl ⟨by rfl, ?_⟩) hHeld ?_ ?_
      rotate_left
      · rintro w' ⟨s0, s1, s2, s3, s4⟩
        go_simp
        with_reducible rfl
      rotate_left
      · simp only [Act.put, List.setIfInBounds_toArray, List.set_cons_zero, List.set_cons_succ, i64_w, i32_w]
        rfl
      refine take_ (i := 3) (N := some 43) (v := ?_) (a' := ?_) #[true, true, true, true, false, true, true, false, true, true, false, true, true, false, false, false, false, false] rfl rfl (by kernel_rfl) (fun _ _ _ h => h) (Or.inl ⟨by rfl, ?_⟩) hHeld ?_ ?_
      rotate_left
      · rintro w' ⟨s0, s1, s2, s3, s4⟩
        go_simp
        with_reducible rfl
      rotate_left
      · simp only [Act.put, List.setIfInBounds_toArray, List.set_cons_zero, List.set_cons_succ, i64_w, i32_w]
        rfl
      refine pure_ (i := 4) (N := some 44) (v := ?_) (a' := ?_) #[true, true, true, true, true, true, true, false, true, true, false, true, true, false, false, false, false, false] rfl rfl (by kernel_rfl) (fun _ _ _ h => h) (Or.inl ⟨by rfl, ?_⟩) ?_ ?_
      rotate_left
      · intro w'
        go_simp
        with_reducible rfl
      rotate_left
      · simp only [Act.put, List.setIfInBounds_toArray, List.set_cons_zero, List.set_cons_succ, i64_w, i32_w]
        rfl
      refine take_ (i := 7) (N := some 47) (v := ?_) (a' := ?_) #[true, true, true, true, true, true, true, true, true, true, false, true, true, false, false, false, false, false] rfl rfl (by kernel_rfl) (fun _ _ _ h => h) (Or.inl ⟨by rfl, ?_⟩) hHeld ?_ ?_
      rotate_left
      · rintro w' ⟨s0, s1, s2, s3, s4⟩
        go_simp
        with_reducible rfl
      rotate_left
      · simp only [Act.put, List.setIfInBounds_toArray, List.set_cons_zero, List.set_cons_succ, i64_w, i32_w]
        rfl
      refine take_ (i := 10) (N := some 50) (v := ?_) (a' := ?_) #[true, true, true, true, true, true, true, true, true, true, true, true, true, false, false, false, false, false] rfl rfl (by kernel_rfl) (fun _ _ _ h => h) (Or.inl ⟨by rfl, ?_⟩) hHeld ?_ ?_
      rotate_left
      · rintro w' ⟨s0, s1, s2, s3, s4⟩
        go_simp
        with_reducible rfl
      rotate_left
      · simp only [Act.put, List.setIfInBounds_toArray, List.set_cons_zero, List.set_cons_succ, i64_w, i32_w]
        rfl
      refine take_ (i := 13) (N := some 53) (v := ?_) (a' := ?_) #[true, true, true, true, true, true, true, true, true, true, true, true, true, true, false, false, false, false] rfl rfl (by kernel_rfl) (fun _ _ _ h => h) (Or.inl ⟨by rfl, ?_⟩) hHeld ?_ ?_
      rotate_left
      · rintro w' ⟨s0, s1, s2, s3, s4⟩
        go_simp
        with_reducible rfl
      rotate_left
      · simp only [Act.put, List.setIfInBounds_toArray, List.set_cons_zero, List.set_cons_succ, i64_w, i32_w]
        rfl
      refine pure_ (i := 14) (N := some 54) (v := ?_) (a' := ?_) #[true, true, true, true, true, true, true, true, true, true, true, true, true, true, true, false, false, false] rfl rfl (by kernel_rfl) (fun _ _ _ h => h) (Or.inl ⟨by rfl, ?_⟩) ?_ ?_
      rotate_left
      · intro w'
        go_simp
        with_reducible rfl
      rotate_left
      · simp only [Act.put, List.setIfInBounds_toArray, List.set_cons_zero, List.set_cons_succ, i64_w, i32_w]
        rfl
      refine one_ (i := 15) (N := some 55) #[true, true, true, true, true, true, true, true, true, true, true, true, true, true, true, true, false, false] rfl rfl (by kernel_rfl) (by decide) (fun K hK => ?_)
      refine value_ (w1 := ?_) (v := ?_) (by rfl) rfl ?_ ?_
      rotate_left 2
      · go_simp
        constructor
        · rfl
        · rfl
      refine hK.out _ _ ⟨(blk_cell (blk_alloc HO3.out _) 0).trans rfl, (blk_cell (blk_alloc BS3.out _) 0).trans rfl, (blk_cell (blk_alloc BS3.out _) 1).trans rfl, (blk_cell (blk_alloc BS3.out _) 2).trans rfl, (blk_cell (blk_alloc BS3.out _) 3).trans rfl⟩ (fun hHeld => ?_)
      clear hK K
      refine norm_ (a' := ?_) ?_ ?_
      rotate_left
      · show Act.put _ (some 55) _ = _
        simp only [Act.put, List.setIfInBounds_toArray, List.set_cons_zero, List.set_cons_succ, i64_w, i32_w]
        rfl
      refine one_ (i := 16) (N := some 56) #[true, true, true, true, true, true, true, true, true, true, true, true, true, true, true, true, true, false] rfl rfl (by kernel_rfl) (by decide) (fun K hK => ?_)
      refine Kd.R_append_step k43 (w0 := W) (w.heap.size + 6) (by rfl) (.tmp 40) (.tmp 55) 27 43 (.agg #[(.bool false), (.string ⟨#[]⟩), (.string ⟨#[]⟩), (.string ⟨#[]⟩)]) 56 rfl Tryd.underlying27 info43 rfl (by decide) (by omega) vo (pre.map PR.rule) (⟨false, a1, a2, a3⟩ : S43) [.bool false, .string a1, .string a2, .string a3] (fun _ => True) (fun _ => False) rfl rfl ?aP (fun _ hk => hk.elim) ?aF ?aO ?aB ?aS ?aL ?_
      (case aP => exact k43_mkM _ _ _ (⟨false, a1, a2, a3⟩ : S43))
      (case aB => exact BB3.out)
      (case aF => exact (fun _ _ => trivial))
      (case aO => exact HR3.out)
      (case aS => exact (Nat.le_trans HI.out.sz BB3.out.size))
      (case aL => have := HLEN.out; rw [List.length_map]; omega)
      intro v1 w5 ho hb hg hat
      obtain ⟨Av, cv, ev⟩ := Kd.R_slice ho
      subst ev
      have HO5 := Aside0.mk ((hb.block _ (show w.heap.size + 1 + 1 < w.heap.size + 6 by omega)).trans HO.out)
      have BS5 := Aside0.mk ((hg.block gs (blk_lt BS3.out) (fun e => (by have := own_typed (Kd.R_own HR3.out).choose_spec gs e.symm; obtain ⟨cells, hc⟩ := this; rw [BS3.out] at hc; cases hc))).trans BS3.out)
      have HR5 := Aside0.mk ho
      have BB5 := Aside0.mk hb
      have HG5 := Aside0.mk hg
      clear ho hb hg hat
      refine hK.out _ _ ⟨(blk_cell HO5.out 0).trans rfl, (blk_cell BS5.out 0).trans rfl, (blk_cell BS5.out 1).trans rfl, (blk_cell BS5.out 2).trans rfl, (blk_cell BS5.out 3).trans rfl⟩ (fun hHeld => ?_)
      clear hK K
      refine norm_ (a' := ?_) ?_ ?_
      rotate_left
      · show Act.put _ (some 56) _ = _
        simp only [Act.put, List.setIfInBounds_toArray, List.set_cons_zero, List.set_cons_succ, i64_w, i32_w]
        rfl
      refine last_ (i := 17) (N := none) #[true, true, true, true, true, true, true, true, true, true, true, true, true, true, true, true, true, true] rfl rfl (by kernel_rfl) (by decide) (fun K hK => ?_)
      have hx := (blk_cell HO5.out 0).trans (show _ = some vo from rfl)
      have fx := blk_frozen HO5.out 0
      refine skip_ (w1 := w5.setCell ⟨w.heap.size + 1 + 1, 0, none⟩ (.slice Av (pre.map PR.rule ++ [(⟨false, a1, a2, a3⟩ : S43)]).length cv)) (by rfl) rfl ?_ ?_
      · go_simp
        try rfl
      clear hx fx
      refine hK.out _ _ ?_
      clear hK K
      refine done_ (by kernel_rfl) ?_
      gi_wp2
      exact parse_leaf w V.heap.size sV HI.out HO5.out HR5.out BB5.out HG5.out NC3.out HR3.out _ (by rw [List.map_append]; rfl)
    · gi_wp2_with (first
        | (refine ⟨trivial, ?_⟩; gi_at_call 26; refine (CallsIn.inRound l (callsIn_wide.2 (SP.out W))).mono ?_; rintro e W1 ⟨rfl, hW1⟩; have bs_ := blk_new W (.cells ([(⟨#[100, 101, 110, 121]⟩ : ByteArray), a1, a2, a3].map Value.string).toArray 9); have bb_ := below_alloc (Below.refl W.heap.size W) (.cells ([(⟨#[100, 101, 110, 121]⟩ : ByteArray), a1, a2, a3].map Value.string).toArray 9); rw [← hW1] at bs_ bb_; obtain ⟨gs, hgs⟩ : ∃ g, W.heap.size = g := ⟨_, rfl⟩; rw [hgs] at bs_ ⊢; have BS := Aside0.mk (show W1.heap[gs]? = some (.cells #[.string (⟨#[100, 101, 110, 121]⟩ : ByteArray), .string a1, .string a2, .string a3] 9 (0, 0)) from bs_); have BB := Aside0.mk bb_; have HGS := Aside0.mk hgs; clear hW1 bs_ bb_ hgs; have hz0 := (blk_cell BS.out 0).trans (show _ = some (Value.string (⟨#[100, 101, 110, 121]⟩ : ByteArray)) from rfl); have hz1 := (blk_cell BS.out 1).trans (show _ = some (Value.string a1) from rfl); have hz2 := (blk_cell BS.out 2).trans (show _ = some (Value.string a2) from rfl); have hz3 := (blk_cell BS.out 3).trans (show _ = some (Value.string a3) from rfl))
        | (refine ⟨trivial, ?_⟩; gi_at_call 27; refine (CallsIn.inRound l (callsIn_wide.2 (WD.out W1 gs BS.out))).mono ?_; rintro e W2 ⟨rfl, hb⟩; have bs_ := blk_below BS.out hb; have bb_ := below_step BB.out hb; clear BS BB hz0 hz1 hz2 hz3 hb; have BS := Aside0.mk bs_; have BB := Aside0.mk bb_; clear bs_ bb_; have hz0 := (blk_cell BS.out 0).trans (show _ = some (Value.string (⟨#[100, 101, 110, 121]⟩ : ByteArray)) from rfl); have hz1 := (blk_cell BS.out 1).trans (show _ = some (Value.string a1) from rfl); have hz2 := (blk_cell BS.out 2).trans (show _ = some (Value.string a2) from rfl); have hz3 := (blk_cell BS.out 3).trans (show _ = some (Value.string a3) from rfl)))
      have BS3 := Aside0.mk (blk_drew BS.out)
      have HO3 := Aside0.mk (blk_drew (blk_below HO.out BB.out))
      have BB3 := Aside0.mk (below_drew1 (BB.out.mono HI.out.sz))
      have HR3 := Aside0.mk (Kd.R_drew (Kd.R_below HR.out BB.out))
      have NC3 := Aside0.mk (show ∀ k, k < W.heap.size → W2.drew.heap[k]? = W.heap[k]? from fun k hk => (below_drew1 BB.out).block k hk)
      clear BS BB hz0 hz1 hz2 hz3
      refine startIn_ (n := 18) (S := fun w' => w'.cell? ⟨w.heap.size + 1 + 1, 0, none⟩ = some vo ∧ w'.cell? ⟨gs, 0, none⟩ = some (.string (⟨#[100, 101, 110, 121]⟩ : ByteArray)) ∧ w'.cell? ⟨gs, 1, none⟩ = some (.string a1) ∧ w'.cell? ⟨gs, 2, none⟩ = some (.string a2) ∧ w'.cell? ⟨gs, 3, none⟩ = some (.string a3)) (ds := [17]) #[false, false, false, false, false, false, false, false, false, false, false, false, false, false, false, false, false, false] (by kernel_rfl) rfl rfl (by rfl) (fun ⟨_, _, h⟩ => h) ⟨(blk_cell HO3.out 0).trans rfl, (blk_cell BS3.out 0).trans rfl, (blk_cell BS3.out 1).trans rfl, (blk_cell BS3.out 2).trans rfl, (blk_cell BS3.out 3).trans rfl⟩ (fun hHeld => ?_)
      generalize World.drew W2 = W3 at BS3 HO3 BB3 HR3 NC3 hHeld ⊢
      refine pure_ (i := 1) (N := some 41) (v := ?_) (a' := ?_) #[false, true, false, false, false, false, false, false, false, false, false, false, false, false, false, false, false, false] rfl rfl (by kernel_rfl) (fun _ _ _ h => h) (Or.inl ⟨by rfl, ?_⟩) ?_ ?_
      rotate_left
      · intro w'
        go_simp
        with_reducible rfl
      rotate_left
      · simp only [Act.put, List.setIfInBounds_toArray, List.set_cons_zero, List.set_cons_succ, i64_w, i32_w]
        rfl
      refine pure_ (i := 2) (N := some 42) (v := ?_) (a' := ?_) #[false, true, true, false, false, false, false, false, false, false, false, false, false, false, false, false, false, false] rfl rfl (by kernel_rfl) (fun _ _ _ h => h) (Or.inl ⟨by rfl, ?_⟩) ?_ ?_
      rotate_left
      · intro w'
        go_simp
        with_reducible rfl
      rotate_left
      · simp only [Act.put, List.setIfInBounds_toArray, List.set_cons_zero, List.set_cons_succ, i64_w, i32_w]
        rfl
      refine pure_ (i := 5) (N := some 45) (v := ?_) (a' := ?_) #[false, true, true, false, false, true, false, false, false, false, false, false, false, false, false, false, false, false] rfl rfl (by kernel_rfl) (fun _ _ _ h => h) (Or.inl ⟨by rfl, ?_⟩) ?_ ?_
      rotate_left
      · intro w'
        go_simp
        with_reducible rfl
      rotate_left
      · simp only [Act.put, List.setIfInBounds_toArray, List.set_cons_zero, List.set_cons_succ, i64_w, i32_w]
        rfl
      refine pure_ (i := 6) (N := some 46) (v := ?_) (a' := ?_) #[false, true, true, false, false, true, true, false, false, false, false, false, false, false, false, false, false, false] rfl rfl (by kernel_rfl) (fun _ _ _ h => h) (Or.inl ⟨by rfl, ?_⟩) ?_ ?_
      rotate_left
      · intro w'
        go_simp
        with_reducible rfl
      rotate_left
      · simp only [Act.put, List.setIfInBounds_toArray, List.set_cons_zero, List.set_cons_succ, i64_w, i32_w]
        rfl
      refine pure_ (i := 8) (N := some 48) (v := ?_) (a' := ?_) #[false, true, true, false, false, true, true, false, true, false, false, false, false, false, false, false, false, false] rfl rfl (by kernel_rfl) (fun _ _ _ h => h) (Or.inl ⟨by rfl, ?_⟩) ?_ ?_
      rotate_left
      · intro w'
        go_simp
        with_reducible rfl
      rotate_left
      · simp only [Act.put, List.setIfInBounds_toArray, List.set_cons_zero, List.set_cons_succ, i64_w, i32_w]
        rfl
      refine pure_ (i := 9) (N := some 49) (v := ?_) (a' := ?_) #[false, true, true, false, false, true, true, false, true, true, false, false, false, false, false, false, false, false] rfl rfl (by kernel_rfl) (fun _ _ _ h => h) (Or.inl ⟨by rfl, ?_⟩) ?_ ?_
      rotate_left
      · intro w'
        go_simp
        with_reducible rfl
      rotate_left
      · simp only [Act.put, List.setIfInBounds_toArray, List.set_cons_zero, List.set_cons_succ, i64_w, i32_w]
        rfl
      refine pure_ (i := 11) (N := some 51) (v := ?_) (a' := ?_) #[false, true, true, false, false, true, true, false, true, true, false, true, false, false, false, false, false, false] rfl rfl (by kernel_rfl) (fun _ _ _ h => h) (Or.inl ⟨by rfl, ?_⟩) ?_ ?_
      rotate_left
      · intro w'
        go_simp
        with_reducible rfl
      rotate_left
      · simp only [Act.put, List.setIfInBounds_toArray, List.set_cons_zero, List.set_cons_succ, i64_w, i32_w]
        rfl
      refine pure_ (i := 12) (N := some 52) (v := ?_) (a' := ?_) #[false, true, true, false, false, true, true, false, true, true, false, true, true, false, false, false, false, false] rfl rfl (by kernel_rfl) (fun _ _ _ h => h) (Or.inl ⟨by rfl, ?_⟩) ?_ ?_
      rotate_left
      · intro w'
        go_simp
        with_reducible rfl
      rotate_left
      · simp only [Act.put, List.setIfInBounds_toArray, List.set_cons_zero, List.set_cons_succ, i64_w, i32_w]
        rfl
      refine take_ (i := 0) (N := some 40) (v := ?_) (a' := ?_) #[true, true, true, false, false, true, true, false, true, true, false, true, true, false, false, false, false, false] rfl rfl (by kernel_rfl) (fun _ _ _ h => h) (Or.inl ⟨by rfl, ?_⟩) hHeld ?_ ?_
      rotate_left
      · rintro w' ⟨s0, s1, s2, s3, s4⟩
        go_simp
        with_reducible rfl
      rotate_left
      · simp only [Act.put, List.setIfInBounds_toArray, List.set_cons_zero, List.set_cons_succ, i64_w, i32_w]
        rfl
      refine take_ (i := 3) (N := some 43) (v := ?_) (a' := ?_) #[true, true, true, true, false, true, true, false, true, true, false, true, true, false, false, false, false, false] rfl rfl (by kernel_rfl) (fun _ _ _ h => h) (Or.inl ⟨by rfl, ?_⟩) hHeld ?_ ?_
      rotate_left
      · rintro w' ⟨s0, s1, s2, s3, s4⟩
        go_simp
        with_reducible rfl
      rotate_left
      · simp only [Act.put, List.setIfInBounds_toArray, List.set_cons_zero, List.set_cons_succ, i64_w, i32_w]
        rfl
      refine pure_ (i := 4) (N := some 44) (v := ?_) (a' := ?_) #[true, true, true, true, true, true, true, false, true, true, false, true, true, false, false, false, false, false] rfl rfl (by kernel_rfl) (fun _ _ _ h => h) (Or.inl ⟨by rfl, ?_⟩) ?_ ?_
      rotate_left
      · intro w'
        go_simp
        with_reducible rfl
      rotate_left
      · simp only [Act.put, List.setIfInBounds_toArray, List.set_cons_zero, List.set_cons_succ, i64_w, i32_w]
        rfl
      refine take_ (i := 7) (N := some 47) (v := ?_) (a' := ?_) #[true, true, true, true, true, true, true, true, true, true, false, true, true, false, false, false, false, false] rfl rfl (by kernel_rfl) (fun _ _ _ h => h) (Or.inl ⟨by rfl, ?_⟩) hHeld ?_ ?_
      rotate_left
      · rintro w' ⟨s0, s1, s2, s3, s4⟩
        go_simp
        with_reducible rfl
      rotate_left
      · simp only [Act.put, List.setIfInBounds_toArray, List.set_cons_zero, List.set_cons_succ, i64_w, i32_w]
        rfl
      refine take_ (i := 10) (N := some 50) (v := ?_) (a' := ?_) #[true, true, true, true, true, true, true, true, true, true, true, true, true, false, false, false, false, false] rfl rfl (by kernel_rfl) (fun _ _ _ h => h) (Or.inl ⟨by rfl, ?_⟩) hHeld ?_ ?_
      rotate_left
      · rintro w' ⟨s0, s1, s2, s3, s4⟩
        go_simp
        with_reducible rfl
      rotate_left
      · simp only [Act.put, List.setIfInBounds_toArray, List.set_cons_zero, List.set_cons_succ, i64_w, i32_w]
        rfl
      refine take_ (i := 13) (N := some 53) (v := ?_) (a' := ?_) #[true, true, true, true, true, true, true, true, true, true, true, true, true, true, false, false, false, false] rfl rfl (by kernel_rfl) (fun _ _ _ h => h) (Or.inl ⟨by rfl, ?_⟩) hHeld ?_ ?_
      rotate_left
      · rintro w' ⟨s0, s1, s2, s3, s4⟩
        go_simp
        with_reducible rfl
      rotate_left
      · simp only [Act.put, List.setIfInBounds_toArray, List.set_cons_zero, List.set_cons_succ, i64_w, i32_w]
        rfl
      refine pure_ (i := 14) (N := some 54) (v := ?_) (a' := ?_) #[true, true, true, true, true, true, true, true, true, true, true, true, true, true, true, false, false, false] rfl rfl (by kernel_rfl) (fun _ _ _ h => h) (Or.inl ⟨by rfl, ?_⟩) ?_ ?_
      rotate_left
      · intro w'
        go_simp
        with_reducible rfl
      rotate_left
      · simp only [Act.put, List.setIfInBounds_toArray, List.set_cons_zero, List.set_cons_succ, i64_w, i32_w]
        rfl
      refine one_ (i := 15) (N := some 55) #[true, true, true, true, true, true, true, true, true, true, true, true, true, true, true, true, false, false] rfl rfl (by kernel_rfl) (by decide) (fun K hK => ?_)
      refine value_ (w1 := ?_) (v := ?_) (by rfl) rfl ?_ ?_
      rotate_left 2
      · go_simp
        constructor
        · rfl
        · rfl
      refine hK.out _ _ ⟨(blk_cell (blk_alloc HO3.out _) 0).trans rfl, (blk_cell (blk_alloc BS3.out _) 0).trans rfl, (blk_cell (blk_alloc BS3.out _) 1).trans rfl, (blk_cell (blk_alloc BS3.out _) 2).trans rfl, (blk_cell (blk_alloc BS3.out _) 3).trans rfl⟩ (fun hHeld => ?_)
      clear hK K
      refine norm_ (a' := ?_) ?_ ?_
      rotate_left
      · show Act.put _ (some 55) _ = _
        simp only [Act.put, List.setIfInBounds_toArray, List.set_cons_zero, List.set_cons_succ, i64_w, i32_w]
        rfl
      refine one_ (i := 16) (N := some 56) #[true, true, true, true, true, true, true, true, true, true, true, true, true, true, true, true, true, false] rfl rfl (by kernel_rfl) (by decide) (fun K hK => ?_)
      refine Kd.R_append_step k43 (w0 := W) (w.heap.size + 6) (by rfl) (.tmp 40) (.tmp 55) 27 43 (.agg #[(.bool false), (.string ⟨#[]⟩), (.string ⟨#[]⟩), (.string ⟨#[]⟩)]) 56 rfl Tryd.underlying27 info43 rfl (by decide) (by omega) vo (pre.map PR.rule) (⟨true, a1, a2, a3⟩ : S43) [.bool true, .string a1, .string a2, .string a3] (fun _ => True) (fun _ => False) rfl rfl ?aP (fun _ hk => hk.elim) ?aF ?aO ?aB ?aS ?aL ?_
      (case aP => exact k43_mkM _ _ _ (⟨true, a1, a2, a3⟩ : S43))
      (case aB => exact BB3.out)
      (case aF => exact (fun _ _ => trivial))
      (case aO => exact HR3.out)
      (case aS => exact (Nat.le_trans HI.out.sz BB3.out.size))
      (case aL => have := HLEN.out; rw [List.length_map]; omega)
      intro v1 w5 ho hb hg hat
      obtain ⟨Av, cv, ev⟩ := Kd.R_slice ho
      subst ev
      have HO5 := Aside0.mk ((hb.block _ (show w.heap.size + 1 + 1 < w.heap.size + 6 by omega)).trans HO.out)
      have BS5 := Aside0.mk ((hg.block gs (blk_lt BS3.out) (fun e => (by have := own_typed (Kd.R_own HR3.out).choose_spec gs e.symm; obtain ⟨cells, hc⟩ := this; rw [BS3.out] at hc; cases hc))).trans BS3.out)
      have HR5 := Aside0.mk ho
      have BB5 := Aside0.mk hb
      have HG5 := Aside0.mk hg
      clear ho hb hg hat
      refine hK.out _ _ ⟨(blk_cell HO5.out 0).trans rfl, (blk_cell BS5.out 0).trans rfl, (blk_cell BS5.out 1).trans rfl, (blk_cell BS5.out 2).trans rfl, (blk_cell BS5.out 3).trans rfl⟩ (fun hHeld => ?_)
      clear hK K
      refine norm_ (a' := ?_) ?_ ?_
      rotate_left
      · show Act.put _ (some 56) _ = _
        simp only [Act.put, List.setIfInBounds_toArray, List.set_cons_zero, List.set_cons_succ, i64_w, i32_w]
        rfl
      refine last_ (i := 17) (N := none) #[true, true, true, true, true, true, true, true, true, true, true, true, true, true, true, true, true, true] rfl rfl (by kernel_rfl) (by decide) (fun K hK => ?_)
      have hx := (blk_cell HO5.out 0).trans (show _ = some vo from rfl)
      have fx := blk_frozen HO5.out 0
      refine skip_ (w1 := w5.setCell ⟨w.heap.size + 1 + 1, 0, none⟩ (.slice Av (pre.map PR.rule ++ [(⟨true, a1, a2, a3⟩ : S43)]).length cv)) (by rfl) rfl ?_ ?_
      · go_simp
        try rfl
      clear hx fx
      refine hK.out _ _ ?_
      clear hK K
      refine done_ (by kernel_rfl) ?_
      gi_wp2
      exact parse_leaf w V.heap.size sV HI.out HO5.out HR5.out BB5.out HG5.out NC3.out HR3.out _ (by rw [List.map_append]; rfl)
  case done =>
    intro D W hD hi hK
    obtain ⟨v, ho, hR⟩ := hi.out
    obtain ⟨Av, cv, ev⟩ := Kd.R_slice hR
    subst ev
    rw [List.length_map] at hR ho
    have k2 := (blk_cell hi.r2 0).trans (show _ = some (Value.slice none 0 0) from rfl)
    have k3 := (blk_cell hi.r3 0).trans (show _ = some (Value.int .i64 0) from rfl)
    have k4 := (blk_cell ho 0).trans (show _ = some (Value.slice Av ps.length cv) from rfl)
    have z2 := blk_frozen hi.r2 0
    have z3 := blk_frozen hi.r3 0
    have HI := Aside0.mk hi
    have HK := Aside0.mk hK
    have HD := Aside0.mk hD
    have HR := Aside0.mk hR
    clear hi hK hD hR ho
    gi_wp2
    obtain ⟨W', hW'⟩ : ∃ W', (W.setCell ⟨w.heap.size, 0, none⟩ (.slice Av ps.length cv)).setCell ⟨w.heap.size + 1, 0, none⟩ (.int .i64 0) = W' := ⟨_, rfl⟩
    have b2 : W'.heap[w.heap.size]? = some (.cells #[.slice Av ps.length cv] 27 (0, 0)) := by rw [← hW']; exact blk_far (blk_put (cs := #[.slice none 0 0]) HI.out.r2 0 _ rfl) (Nat.ne_of_lt (Nat.lt_succ_self _)) _
    have b3 : W'.heap[w.heap.size + 1]? = some (.cells #[.int .i64 0] 38 (0, 0)) := by rw [← hW']; exact blk_put (cs := #[.int .i64 0]) (blk_far HI.out.r3 (Nat.ne_of_gt (Nat.lt_succ_self _)) _) 0 _ rfl
    have hK' : W'.heap[D]? = some (.deferred (some [])) := by rw [← hW']; exact (KeepsOthers.setCell _ _ _).same D _ ((KeepsOthers.setCell _ _ _).same D _ HK.out rfl) rfl
    have hR' : Kd.R k43 43 W' (w.heap.size + 6) (fun _ => True) (.slice Av ps.length cv) (ps.map PR.rule) := by
      rw [← hW']
      exact Kd.R_mono (Kd.R_far (p := ⟨w.heap.size + 1, 0, none⟩) (Kd.R_bound (Kd.R_far (p := ⟨w.heap.size, 0, none⟩) (Kd.R_bound HR.out) (fun k hk => by have := hk.2.1; show k ≠ w.heap.size; omega) _)) (fun k hk => by have := hk.2.1; show k ≠ w.heap.size + 1; omega) _) (fun _ _ => trivial)
    have hB' : Below w.heap.size w W' := by rw [← hW']; exact below_set (below_set HI.out.bl (Nat.le_refl _)) (Nat.le_succ _)
    rw [hW']
    clear hW'
    refine ⟨by simp, .inl ⟨_, _, rfl, run_takeDeferred hK', ?_⟩⟩
    have hgr := grownBy_putObj' W' D (.deferred none)
    have hrr : ∀ r, some D = some r → ∃ o : Obj, W'.heap[r]? = some o ∧ o.isCells = false := fun r e => by cases e; exact ⟨_, hK', rfl⟩
    have c2 := cell_kept ((blk_cell b2 0).trans (show _ = some (Value.slice Av ps.length cv) from rfl)) hgr hrr
    have c3 := cell_kept ((blk_cell b3 0).trans (show _ = some (Value.int .i64 0) from rfl)) hgr hrr
    refine ⟨.tuple #[.slice Av ps.length cv, .int .i64 0], ?_, _, rfl, Kd.R_lower (R_kept hR' hgr hrr) (by omega), hB'.grown hgr hB'.size (fun k e => by cases e; have := HD.out; omega)⟩
    simp [results, Tryd.f18, go_sem, c2, c3]
end Go.Proofs.YtooibmnanmmgiaaDoor.SQ
