/- The law CanonBack: its function. -/
import Derived.Test.YtlnpmodhejakiaaDecL
import Derived.Test.YtlnpmodhejakiaaCanF
import Derived.Test.YtlnpmodhejakiaaCanT
import Derived.Test.YtlnpmodhejakiaaPMx0
namespace Go.Proofs.Ytlnpmodhejakiaa.PM
open Go.RowKit Go.Proofs.YtlnpmodhejakiaaW.PrintWords Go.Proofs.YtlnpmodhejakiaaW.PrintLast Go.Proofs.YtlnpmodhejakiaaW.PrintMore Go.Proofs.Ytlnpmodhejakiaa.D Go.Proofs.Ytlnpmodhejakiaa.CP
open Go.Proofs.Ytlnpmodhejakiaa.PK (kindI kind_val)
set_option linter.unusedVariables false
set_option linter.unusedSimpArgs false
theorem below_wr {w w1 w2 : World} {g : Nat} (HB : Below w.heap.size w w1) (hW : Wr w1.heap.size g w1 w2) (hg : w.heap.size ≤ g) : Below w.heap.size w w2 := HB.trans ((hW.lower HB.size).below hg)
theorem cell_mem {w : World} {p : Addr} {v : Value} {cs : Array Value} {T : TypeId} (h : w.cell? p = some v) (hg : w.heap[p.block]? = some (.cells cs T (0, 0))) : v ∈ cs.toList := by
  unfold World.cell? at h
  rw [hg] at h
  simp only at h
  split at h
  · cases h
  · obtain ⟨hi, e⟩ := Array.getElem?_eq_some_iff.1 h
    rw [← e, Array.mem_toList_iff]
    exact Array.getElem_mem hi
theorem C_ne_blk {w : World} {A : Option Addr} {l : List Int} (hC : Kd.C (Kd.int .u8) w A l.length l) {g : Nat} {cs : Array Value} {T : TypeId} (hg : w.heap[g]? = some (.cells cs T (0, 0))) (hcs : ∀ v ∈ cs.toList, ∀ x, v ≠ .int .u8 x) :
    0 < l.length → ∀ ad, A = some ad → ad.block ≠ g := by
  intro h0 ad hA hb
  obtain ⟨ad', e, h1⟩ := C_at hC 0 h0
  rw [hA] at e
  cases e
  have hb' : (ad.add 0).block = g := by rw [← hb]; unfold Addr.add; split <;> rfl
  exact hcs _ (cell_mem h1 (by rw [hb']; exact hg)) _ rfl
/-- a reader behind a write of a box of parts -/
theorem IsR.wrB {gx g : Nat} {w w' : World} {l : List Int} {bad : Bool} {a b c : Value} (h : IsR g w l bad) (hx : w.heap[gx]? = some (.cells #[a, b, c] 46 (0, 0))) (ha : ∀ x, a ≠ .int .u8 x) (hb : ∀ x, b ≠ .int .u8 x) (hc : ∀ x, c ≠ .int .u8 x) (hW : Wr w.heap.size gx w w') (hne : g ≠ gx) : IsR g w' l bad := by
  obtain ⟨A, k, h1, h2, h3, h4⟩ := h
  refine ⟨A, k, hW.blk h1 (blk_lt h1) hne, C_wr' h2 hW (C_ne_blk h2 hx ?_), h3, h4⟩
  intro v hv
  simp only [List.mem_cons, List.not_mem_nil, or_false] at hv
  rcases hv with rfl | rfl | rfl
  · exact ha
  · exact hb
  · exact hc
theorem sameB0 (l : List Int) (hl : l.length ≤ 140737488355328) : ∀ (d i k : Nat), l.length - i = d → i ≤ l.length → d < k → PK.steleref01_Same.l0 k l l i = some true := by
  intro d
  induction d with
  | zero =>
    intro i k hd hi hk
    obtain ⟨k, rfl⟩ : ∃ k', k = k' + 1 := ⟨k - 1, by omega⟩
    rw [PK.steleref01_Same.l0, if_neg (by omega)]
  | succ d ih =>
    intro i k hd hi hk
    obtain ⟨k, rfl⟩ : ∃ k', k = k' + 1 := ⟨k - 1, by omega⟩
    rw [PK.steleref01_Same.l0, if_pos (by omega), if_pos (by omega), if_pos (by omega), if_pos rfl]
    rw [show wrap64 ((i : Int) + 1) = ((i + 1 : Nat) : Int) by unfold wrap64; omega]
    exact ih (i + 1) k (by omega) (by omega) (by omega)
theorem sameB (l : List Int) (k : Nat) (hl : l.length < k) (hk : k ≤ 140737488355328) : PK.steleref01_Same.f k l l = some true := by
  unfold PK.steleref01_Same.f
  rw [if_pos rfl]
  exact sameB0 l (by omega) l.length 0 _ (by omega) (by omega) hl
theorem R_wr {w w' : World} {base g : Nat} {v : Value} {l : List Int} (h : Kd.R (Kd.int .u8) 5 w base (fun _ => True) v l) (hW : Wr w.heap.size g w w') (hg : g < base) : Kd.R (Kd.int .u8) 5 w' base (fun _ => True) v l :=
  Kd.R_mono (Kd.R_step (Kd.R_bound h) (fun k hk hlt => hW.block k hlt (by have := hk.2.1; omega))) (fun _ _ => trivial)
def okS (x : S46) : Prop := (0 ≤ x.f1 ∧ x.f1 ≤ 18446744073709551615) ∧ x.f2.length ≤ 1048576 ∧ ∀ y ∈ x.f2, 0 ≤ y ∧ y ≤ 255
def okBack (l : List S46) : Prop := l.length ≤ 140737488355328 ∧ ∀ y ∈ l, okS y
def E (x : S46) : List Int := encP (kindI x.f0) x.f1 x.f2
def Es (l : List S46) : List Int := l.flatMap E
theorem kindI_bd (a : Int) : 0 ≤ kindI a ∧ kindI a ≤ 4 := by
  unfold kindI
  split
  · omega
  · split <;> omega
theorem E_len (x : S46) : (E x).length ≤ x.f2.length + 9 := by
  unfold E encP
  split
  · rw [List.length_cons, longL_len]; omega
  · split
    · rw [List.length_cons, List.length_append, longL_len]; omega
    · split
      · rw [List.length_cons, List.length_append, longL_len]; omega
      · split
        · rw [List.length_singleton]; omega
        · rw [List.length_cons, longL_len]; omega
theorem E_bd (x : S46) (h : okS x) : ∀ y ∈ E x, 0 ≤ y ∧ y ≤ 255 := by
  unfold E encP
  split
  · intro y hy; rcases List.mem_cons.1 hy with rfl | hy; omega; exact longL_bd _ _ _ hy
  · split
    · intro y hy; rcases List.mem_cons.1 hy with rfl | hy; omega; rcases List.mem_append.1 hy with hy | hy; exact longL_bd _ _ _ hy; exact h.2.2 _ hy
    · split
      · intro y hy; rcases List.mem_cons.1 hy with rfl | hy; omega; rcases List.mem_append.1 hy with hy | hy; exact longL_bd _ _ _ hy; exact h.2.2 _ hy
      · split
        · intro y hy; rw [List.mem_singleton] at hy; subst hy; split <;> omega
        · intro y hy; rcases List.mem_cons.1 hy with rfl | hy; omega; exact longL_bd _ _ _ hy
theorem Es_len (l : List S46) (h : ∀ y ∈ l, okS y) : (Es l).length ≤ l.length * 1048585 := by
  unfold Es
  induction l with
  | nil => simp
  | cons a l ih =>
    rw [List.flatMap_cons, List.length_append, List.length_cons]
    have := E_len a
    have := (h a (by simp)).2.1
    have := ih (fun y hy => h y (by simp [hy]))
    omega
theorem Es_bd (l : List S46) (h : ∀ y ∈ l, okS y) : ∀ y ∈ Es l, 0 ≤ y ∧ y ≤ 255 := by
  intro y hy
  unfold Es at hy
  obtain ⟨x, hx, hy⟩ := List.mem_flatMap.1 hy
  exact E_bd x (h x hx) y hy
theorem Es_ok (l : List S46) (h : ∀ y ∈ l, okS y) (hl : l.length ≤ 200) : okL (Es l) := ⟨by have := Es_len l h; omega, Es_bd l h⟩
theorem rd_eq (l : List S46) (i : Nat) (h : i < l.length) : rd_T46 l (i : Int) = l[i] := by
  show l.getD i z46 = _
  rw [List.getD_eq_getElem?_getD, List.getElem?_eq_getElem h]; rfl
theorem drop_E (l : List S46) (i : Nat) (h : i < l.length) : Es (l.drop i) = E l[i] ++ Es (l.drop (i + 1)) := by
  unfold Es
  rw [List.drop_eq_getElem_cons h, List.flatMap_cons]
theorem take_E (l : List S46) (i : Nat) (h : i < l.length) : Es (l.take (i + 1)) = Es (l.take i) ++ E l[i] := by
  unfold Es
  rw [List.take_succ_eq_append_getElem h, List.flatMap_append, List.flatMap_cons, List.flatMap_nil, List.append_nil]
theorem Es_take_len (l : List S46) (i : Nat) (h : ∀ y ∈ l, okS y) : (Es (l.take i)).length ≤ i * 1048585 := by
  have := Es_len (l.take i) (fun y hy => h y (List.mem_of_mem_take hy))
  rw [List.length_take] at this
  exact Nat.le_trans this (Nat.mul_le_mul_right _ (Nat.min_le_left i l.length))
theorem okS_take (l : List S46) (i : Nat) (h : ∀ y ∈ l, okS y) : ∀ y ∈ l.take i, okS y := fun y hy => h y (List.mem_of_mem_take hy)
theorem okS_drop (l : List S46) (i : Nat) (h : ∀ y ∈ l, okS y) : ∀ y ∈ l.drop i, okS y := fun y hy => h y (List.mem_of_mem_drop hy)
theorem same_nil (k : Nat) (kd n : Int) (A : Option Addr) (c : Nat) (b : List Int) (kd' n' : Int) (w : World) (hC : Kd.C (Kd.int .u8) w A b.length b) (hc : b.length ≤ c) (h : PK.stelelaw02_same.f k kd n b kd' n' [] = some true) :
    Calls Try.prog 55 #[.agg #[.int .i64 kd, .int .u64 n, .slice A b.length c], .agg #[.int .i64 kd', .int .u64 n', .slice none 0 0]] w fun e w' => e = .returned (.bool true) ∧ Below w.heap.size w w' :=
  PK.stelelaw02_same.calls k kd n A c b kd' n' none 0 [] true w hC hc ⟨rfl, by simp, fun h => by simp at h⟩ (Nat.le_refl _) h
theorem same_str (k : Nat) (kd n : Int) (A : Option Addr) (c : Nat) (b : List Int) (kd' n' : Int) (g : Nat) (s : ByteArray) (G : Nat) (w : World) (hC : Kd.C (Kd.int .u8) w A b.length b) (hc : b.length ≤ c) (hC2 : Kd.C (Kd.int .u8) w (some ⟨g, 0, none⟩) b.length b) (hsz : s.size = b.length) (hG : s.size ≤ G) (h : PK.stelelaw02_same.f k kd n b kd' n' b = some true) :
    Calls Try.prog 55 #[.agg #[.int .i64 kd, .int .u64 n, .slice A b.length c], .agg #[.int .i64 kd', .int .u64 n', .slice (some ⟨g, 0, none⟩) s.size G]] w fun e w' => e = .returned (.bool true) ∧ Below w.heap.size w w' := by
  rw [hsz] at hG ⊢
  exact PK.stelelaw02_same.calls k kd n A c b kd' n' (some ⟨g, 0, none⟩) G b true w hC hc hC2 hG h
theorem str_C (W : World) (s : ByteArray) (b : List Int) (h1 : bytesOf s = b) (h2 : s.size = b.length) (hs : s.size ≤ 9223372036854775807) : Kd.C (Kd.int .u8) (Lib.bytesWorld W 5 s) (some ⟨W.heap.size, 0, none⟩) b.length b := by
  have h := byte_C_string W s hs
  rw [h1, h2] at h
  exact h
theorem same_0 (k : Nat) (n : Int) (b b' : List Int) : PK.stelelaw02_same.f k 0 n b 0 n b' = some true := by
  unfold PK.stelelaw02_same.f; rw [if_pos rfl, if_pos rfl, beq_self_eq_true]
theorem same_1 (n n' : Int) (b : List Int) (hb : b.length ≤ 1048576) : PK.stelelaw02_same.f 1048577 1 n b 1 n' b = some true := by
  unfold PK.stelelaw02_same.f; rw [if_pos rfl, if_neg (by decide), if_neg (by decide), if_neg (by decide), sameB b 1048577 (by omega) (by omega), Option.bind_some]
theorem same_2 (n n' : Int) (b : List Int) (hb : b.length ≤ 1048576) : PK.stelelaw02_same.f 1048577 2 n b 2 n' b = some true := by
  unfold PK.stelelaw02_same.f; rw [if_pos rfl, if_neg (by decide), if_neg (by decide), if_neg (by decide), sameB b 1048577 (by omega) (by omega), Option.bind_some]
theorem same_3 (k : Nat) (n n' : Int) (b b' : List Int) (h : Int.tmod n 2 = Int.tmod n' 2) : PK.stelelaw02_same.f k 3 n b 3 n' b' = some true := by
  unfold PK.stelelaw02_same.f; rw [if_pos rfl, if_neg (by decide), if_pos rfl, h, beq_self_eq_true]
theorem same_4 (k : Nat) (n n' : Int) (b b' : List Int) (h : Int.tmod n 100 = Int.tmod n' 100) : PK.stelelaw02_same.f k 4 n b 4 n' b' = some true := by
  unfold PK.stelelaw02_same.f; rw [if_pos rfl, if_neg (by decide), if_neg (by decide), if_pos rfl, h, beq_self_eq_true]
theorem two_boxes (w : World) (cs ds : Array Value) : ((w.alloc (.cells cs 46)).alloc (.cells ds 46)).heap[w.heap.size]? = some (.cells cs 46 (0, 0)) ∧ ((w.alloc (.cells cs 46)).alloc (.cells ds 46)).heap[w.heap.size + 1]? = some (.cells ds 46 (0, 0)) ∧ Below w.heap.size w ((w.alloc (.cells cs 46)).alloc (.cells ds 46)) := by
  refine ⟨blk_alloc (blk_new w _) _, ?_, below_alloc (below_alloc (Below.refl _ _) _) _⟩
  have h := blk_new (w.alloc (.cells cs 46)) (.cells ds 46)
  have e : (w.alloc (.cells cs 46)).heap.size = w.heap.size + 1 := by unfold World.alloc; simp only [Array.size_push]
  rw [e] at h
  exact h
open Classical in
noncomputable def stelelaw02_CanonBack.f (l0 : List S46) : Option Bool := if okBack l0 then some true else none
set_option maxHeartbeats 64000000 in
set_option maxRecDepth 100000 in
theorem back_any (A0 : Option Addr) (c0 : Nat) (l0 : List S46) (w : World) (hr0 : Kd.C k46 w A0 l0.length l0) (hc0 : l0.length ≤ c0) (hh : okBack l0) :
    Calls Try.prog 12 #[.slice A0 l0.length c0] w fun e w' => e = .returned (.bool true) ∧ Below w.heap.size w w' := by
  have hu46 := Try.underlying46
  have HR0 := Aside0.mk hr0
  have HC0 := Aside0.mk hc0
  have H2 := Aside0.mk hh
  have HB := Aside0.mk (Below.refl w.heap.size w)
  clear hr0 hc0 hh
  by_cases hbig : (l0.length : Int) > 200
  · have d1 : decide (200 < (l0.length : Int)) = true := decide_eq_true hbig
    have d2 : decide (200 < l0.length) = true := decide_eq_true (by omega)
    clear hbig
    go_enter Try.func12, Try.ntmps12
    go_wp2_with (go_at_call 46; (with_reducible refine (alive02 _).mono ?_); rintro e w3 ⟨rfl, hb⟩; have HB3 := Aside0.mk (below_step HB.out hb); clear hb)
    go_ret
    exact ⟨rfl, HB3.out⟩
  · have d1 : decide (200 < (l0.length : Int)) = false := decide_eq_false hbig
    have d2 : decide (200 < l0.length) = false := decide_eq_false (by omega)
    have HL := Aside0.mk (show l0.length ≤ 200 by omega)
    clear hbig
    go_enter Try.func12, Try.ntmps12
    go_wp2
    clear d1 d2
    go_loopw [3, 4] (fun v3 v4 wr => ∃ (i : Nat), i ≤ l0.length ∧ v4 = .int .i64 (i : Int) ∧ Aside0 (Kd.R (Kd.int .u8) 5 wr w.heap.size (fun _ => True) v3 (Es (l0.take i))) ∧ Aside0 (Below w.heap.size w wr)) (fun _ v4 _ => l0.length - (intOf v4).toNat)
    case atStart => exact ⟨0, Nat.zero_le _, rfl, ⟨Kd.R_nil _ _ _ _ _⟩, HB⟩
    case round =>
      obtain ⟨i, hi, rfl, HO, HBr⟩ := hrel
      by_cases hlt : i < l0.length
      · have hll := HL.out
        obtain ⟨ad, A2, c2, hA, hx0, hx1, hx2, hl2, hC2⟩ := at_T46 HR0.out (i : Int) (by omega) (by omega)
        subst hA
        rw [Int.toNat_natCast] at hx0 hx1 hx2
        replace hx0 := (HBr.out.cell (World.block_lt_of_cell? w _ hx0)).trans hx0
        replace hx1 := (HBr.out.cell (World.block_lt_of_cell? w _ hx1)).trans hx1
        replace hx2 := (HBr.out.cell (World.block_lt_of_cell? w _ hx2)).trans hx2
        have HLT := Aside0.mk hlt
        have hxs := H2.out.2 _ (List.getElem_mem HLT.out)
        rw [rd_eq l0 i HLT.out] at hx0 hx1 hx2 hl2 hC2
        obtain ⟨x, hxe⟩ : ∃ x, l0[i]'(HLT.out) = x := ⟨_, rfl⟩
        rw [hxe] at hx0 hx1 hx2 hl2 hC2 hxs
        have HC2 := Aside0.mk hC2
        have HL2 := Aside0.mk hl2
        have HXS := Aside0.mk hxs
        have HXE := Aside0.mk hxe
        have p102 : (0 : Int) ≤ (i : Int) := by omega
        have q102 : (i : Int) < (l0.length : Int) := by omega
        clear hC2 hl2 hxs hxe hlt
        obtain ⟨A3, c3, e3, hc3, hC3⟩ := Kd.R_reads HO.out
        subst e3
        have HC3 := Aside0.mk hc3
        have HOL := Aside0.mk (Es_take_len l0 i H2.out.2)
        have HT := Aside0.mk (take_E l0 i HLT.out)
        rw [HXE.out] at HT
        obtain ⟨out, hout⟩ : ∃ o, Es (l0.take i) = o := ⟨_, rfl⟩
        rw [hout] at HO HC3 HOL HT
        rw [hout]
        clear hout hC3 hc3
        have PE := Aside0.mk (show PK.stelelaw02_put.f 9 out (kindI x.f0) x.f1 x.f2 = some (out ++ E x) from c_put 9 (Nat.le_refl _) out (kindI x.f0) x.f1 x.f2 (kindI_bd _) HXS.out.1 HXS.out.2.2 (by have := HOL.out; have := HXS.out.2.1; omega))
        go_wp2_with (first | (go_at_call 54; ((with_reducible refine (kind_val x.f0 x.f1 A2 x.f2.length c2 _).mono ?_); rintro e w1 ⟨rfl, hb⟩; have HB1 := Aside0.mk (below_step HBr.out hb); have HO1 := Aside0.mk (Kd.R_below HO.out hb); clear hb)) | (go_at_call 53; go_loud ((with_reducible refine (PK.stelelaw02_put.calls 9 A3 c3 out (kindI x.f0) x.f1 A2 c2 x.f2 (out ++ E x) _ ?side1 ?side2 ?side3 ?side4 PE.out).mono ?_); (case side1 => exact (Kd.R_reads' HO1.out).2.2); (case side2 => exact HC3.out); (case side3 => exact Kd.C_below HC2.out HB1.out); (case side4 => exact HL2.out); rintro e w2 ⟨v2, rfl, ho, hb⟩; have HB2 := Aside0.mk (below_step HB1.out hb); have HO2 := Aside0.mk (Kd.R_lower ho (below_size HB1.out)); clear hb ho)))
        go_roundw
        case measure => simp [intOf]; omega
        case rel => exact ⟨i + 1, by have := HLT.out; omega, by go_num, ⟨by rw [HT.out]; exact HO2.out⟩, HB2⟩
      · obtain rfl : i = l0.length := by omega
        clear hlt hi
        rw [List.take_length] at HO
        have hll := HL.out
        have HEO := Aside0.mk (Es_ok l0 H2.out.2 HL.out)
        have HEL := Aside0.mk (show (Es l0).length < 140737488355328 by have := Es_len l0 H2.out.2; omega)
        obtain ⟨A3, c3, e3, hc3, hC3⟩ := Kd.R_reads HO.out
        subst e3
        have RD := Aside0.mk (read_any A3 c3 (Es l0) wr hC3 hc3 HEL.out)
        clear hc3 hC3
        go_wp2_with (go_at_call 56; (with_reducible refine RD.out.mono ?_); rintro e w1 ⟨g, rfl, hg, hi, hb⟩; have G := Aside0.mk (show w.heap.size ≤ g by have := HBr.out.size; omega); have HI1 := Aside0.mk hi; have HB1 := Aside0.mk (below_step HBr.out hb); clear hg hi hb)
        clear RD HO HBr HEL
        go_loopw [6] (fun v6 wr => ∃ (i : Nat), i ≤ l0.length ∧ v6 = .int .i64 (i : Int) ∧ Aside0 (IsR g wr (Es (l0.drop i)) false) ∧ Aside0 (Below w.heap.size w wr)) (fun v6 _ => l0.length - (intOf v6).toNat)
        case atStart => exact ⟨0, Nat.zero_le _, rfl, HI1, HB1⟩
        case round =>
          clear HI1 HB1
          obtain ⟨i, hi, rfl, HI, HBr⟩ := hrel
          by_cases hlt : i < l0.length
          · have hll := HL.out
            obtain ⟨ad, A2, c2, hA, hx0, hx1, hx2, hl2, hC2⟩ := at_T46 HR0.out (i : Int) (by omega) (by omega)
            subst hA
            rw [Int.toNat_natCast] at hx0 hx1 hx2
            replace hx0 := (HBr.out.cell (World.block_lt_of_cell? w _ hx0)).trans hx0
            replace hx1 := (HBr.out.cell (World.block_lt_of_cell? w _ hx1)).trans hx1
            replace hx2 := (HBr.out.cell (World.block_lt_of_cell? w _ hx2)).trans hx2
            have HLT := Aside0.mk hlt
            have hxs := H2.out.2 _ (List.getElem_mem HLT.out)
            rw [rd_eq l0 i HLT.out] at hx0 hx1 hx2 hl2 hC2
            obtain ⟨x, hxe⟩ : ∃ x, l0[i]'(HLT.out) = x := ⟨_, rfl⟩
            rw [hxe] at hx0 hx1 hx2 hl2 hC2 hxs
            have HC2 := Aside0.mk hC2
            have HL2 := Aside0.mk hl2
            have HXS := Aside0.mk hxs
            have HXE := Aside0.mk hxe
            have p102 : (0 : Int) ≤ (i : Int) := by omega
            have q102 : (i : Int) < (l0.length : Int) := by omega
            clear hC2 hl2 hxs hxe hlt
            have hok := Es_ok (l0.drop (i + 1)) (okS_drop l0 (i + 1) H2.out.2) (by rw [List.length_drop]; omega)
            have hok0 := Es_ok (l0.drop i) (okS_drop l0 i H2.out.2) (by rw [List.length_drop]; omega)
            have hdr := drop_E l0 i HLT.out
            rw [HXE.out] at hdr
            rw [hdr] at HI hok0
            unfold E at HI hok0
            obtain ⟨rest, hrest⟩ : ∃ o, Es (l0.drop (i + 1)) = o := ⟨_, rfl⟩
            have HREST := Aside0.mk hrest
            rw [hrest] at HI hok0
            clear hrest hdr hok
            have HOK := Aside0.mk hok0
            clear hok0
            obtain ⟨kd, hkd⟩ : ∃ k, kindI x.f0 = k := ⟨_, rfl⟩
            have hkb := kindI_bd x.f0
            have KV := Aside0.mk (fun W => kind_val x.f0 x.f1 A2 x.f2.length c2 W)
            rw [hkd] at HI HOK hkb KV
            clear hkd
            have hxs := HXS.out
            have hk5 : kd = 0 ∨ kd = 1 ∨ kd = 2 ∨ kd = 3 ∨ kd = 4 := by omega
            clear hkb
            rcases hk5 with rfl | rfl | rfl | rfl | rfl
            · -- kind 0
              rw [show encP 0 x.f1 x.f2 = 117 :: longL x.f1 8 from rfl] at HI HOK
              have M := Aside0.mk (fun W h => uint_any g _ false W h HOK.out)
              rw [d_uint x.f1 rest hxs.1] at M
              have e0_ : ((0 : Int) == 0) = true := by decide
              have SM := Aside0.mk (same_0 0 x.f1 x.f2 [])
              go_wp2_with (first
                | (go_at_call 54; go_loud ((with_reducible refine (KV.out _).mono ?_); rintro e w1 ⟨rfl, hb⟩; have HB1 := Aside0.mk (below_step HBr.out hb); have HI1 := Aside0.mk (HI.out.below hb); obtain ⟨gq, hgq⟩ : ∃ n, w1.heap.size + 1 = n := ⟨_, rfl⟩; obtain ⟨gp, hgp⟩ : ∃ n, w1.heap.size = n := ⟨_, rfl⟩; have HGQ := Aside0.mk hgq; have HGP := Aside0.mk hgp; obtain ⟨bx1, bx2, bx3⟩ := two_boxes w1 #[.int .i64 0, .int .u64 x.f1, .slice A2 x.f2.length c2] #[.int .i64 0, .int .u64 0, .slice none 0 0]; rw [hgp] at bx1; rw [hgq] at bx2; have BKP3 := Aside0.mk bx1; have BKQ3 := Aside0.mk bx2; have HB3 := Aside0.mk (below_step HB1.out bx3); have HI3 := Aside0.mk (IsR.below HI1.out bx3); have GQ := Aside0.mk (show w.heap.size ≤ gq by have := HB1.out.size; omega); have NP := Aside0.mk (show gp ≠ g by have := HI1.out.lt; omega); have NQ := Aside0.mk (show gq ≠ g by have := HI1.out.lt; omega); have NPQ := Aside0.mk (show gp ≠ gq by omega); clear hb hgp hgq bx1 bx2 bx3))
                | (go_at_call 57; go_loud ((with_reducible refine (M.out _ HI3.out).mono ?_); rintro e w4 ⟨rfl, hi, hW⟩; have HI4 := Aside0.mk hi; have HB4 := Aside0.mk (below_wr HB3.out hW G.out); have BKP := Aside0.mk (hW.blk BKP3.out (blk_lt BKP3.out) NP.out); have BKQ := Aside0.mk (hW.blk BKQ3.out (blk_lt BKQ3.out) NQ.out); have hne := NPQ.out; have hne' := Ne.symm NPQ.out; rw [HGQ.out, HGP.out]; have cp0 : w4.cell? ⟨gp, 0, none⟩ = some (.int .i64 0) := (blk_cell BKP.out 0).trans rfl; have cp1 : w4.cell? ⟨gp, 1, none⟩ = some (.int .u64 x.f1) := (blk_cell BKP.out 1).trans rfl; have cp2 : w4.cell? ⟨gp, 2, none⟩ = some (.slice A2 x.f2.length c2) := (blk_cell BKP.out 2).trans rfl; have fcp0 := blk_frozen BKP.out 0; have fcp1 := blk_frozen BKP.out 1; have fcp2 := blk_frozen BKP.out 2; have cq0 : w4.cell? ⟨gq, 0, none⟩ = some (.int .i64 0) := (blk_cell BKQ.out 0).trans rfl; have cq1 : w4.cell? ⟨gq, 1, none⟩ = some (.int .u64 0) := (blk_cell BKQ.out 1).trans rfl; have cq2 : w4.cell? ⟨gq, 2, none⟩ = some (.slice none 0 0) := (blk_cell BKQ.out 2).trans rfl; have fcq0 := blk_frozen BKQ.out 0; have fcq1 := blk_frozen BKQ.out 1; have fcq2 := blk_frozen BKQ.out 2; clear hi hW; have HI5 := Aside0.mk (IsR.wrB HI4.out BKQ.out (by intro _ h; cases h) (by intro _ h; cases h) (by intro _ h; cases h) ((Wr.refl w4.heap.size gq w4).setCell 1 (.int .u64 x.f1)) (Ne.symm NQ.out)); have HB5 := Aside0.mk (below_wr HB4.out ((Wr.refl w4.heap.size gq w4).setCell 1 (.int .u64 x.f1)) GQ.out)))
                | (go_at_call 55; go_loud ((with_reducible refine (same_nil 0 0 x.f1 A2 c2 x.f2 0 x.f1 _ ?side1 ?side2 SM.out).mono ?_); (case side1 => exact Kd.C_below HC2.out HB5.out); (case side2 => exact HL2.out); rintro e w6 ⟨rfl, hb⟩; have HB6 := Aside0.mk (below_step HB5.out hb); have HI6 := Aside0.mk (IsR.below HI5.out hb); clear hb))
                )
              go_roundw
              case measure => simp [intOf]; have := HLT.out; omega
              case rel => exact ⟨i + 1, by have := HLT.out; omega, by go_num, ⟨by rw [HREST.out]; exact HI6.out⟩, HB6⟩
            · -- kind 1
              rw [show encP 1 x.f1 x.f2 = 98 :: (longL (x.f2.length : Int) 4 ++ x.f2) from rfl] at HI HOK
              have M := Aside0.mk (fun W h => bytes_any g _ false W h HOK.out)
              rw [d_some 98 x.f2 rest (by have := hxs.2.1; omega)] at M
              have e0_ : ((1 : Int) == 0) = false := by decide
              have e1_ : ((1 : Int) == 1) = true := by decide
              have SM := Aside0.mk (same_1 x.f1 0 x.f2 hxs.2.1)
              go_wp2_with (first
                | (go_at_call 54; go_loud ((with_reducible refine (KV.out _).mono ?_); rintro e w1 ⟨rfl, hb⟩; have HB1 := Aside0.mk (below_step HBr.out hb); have HI1 := Aside0.mk (HI.out.below hb); obtain ⟨gq, hgq⟩ : ∃ n, w1.heap.size + 1 = n := ⟨_, rfl⟩; obtain ⟨gp, hgp⟩ : ∃ n, w1.heap.size = n := ⟨_, rfl⟩; have HGQ := Aside0.mk hgq; have HGP := Aside0.mk hgp; obtain ⟨bx1, bx2, bx3⟩ := two_boxes w1 #[.int .i64 1, .int .u64 x.f1, .slice A2 x.f2.length c2] #[.int .i64 1, .int .u64 0, .slice none 0 0]; rw [hgp] at bx1; rw [hgq] at bx2; have BKP3 := Aside0.mk bx1; have BKQ3 := Aside0.mk bx2; have HB3 := Aside0.mk (below_step HB1.out bx3); have HI3 := Aside0.mk (IsR.below HI1.out bx3); have GQ := Aside0.mk (show w.heap.size ≤ gq by have := HB1.out.size; omega); have NP := Aside0.mk (show gp ≠ g by have := HI1.out.lt; omega); have NQ := Aside0.mk (show gq ≠ g by have := HI1.out.lt; omega); have NPQ := Aside0.mk (show gp ≠ gq by omega); clear hb hgp hgq bx1 bx2 bx3))
                | (go_at_call 59; go_loud ((with_reducible refine (M.out _ HI3.out).mono ?_); rintro e w4 ⟨v4, rfl, hr, hi, hW⟩; have HI4 := Aside0.mk hi; have HB4 := Aside0.mk (below_wr HB3.out hW G.out); have BKP := Aside0.mk (hW.blk BKP3.out (blk_lt BKP3.out) NP.out); have BKQ := Aside0.mk (hW.blk BKQ3.out (blk_lt BKQ3.out) NQ.out); have hne := NPQ.out; have hne' := Ne.symm NPQ.out; rw [HGQ.out, HGP.out]; have cp0 : w4.cell? ⟨gp, 0, none⟩ = some (.int .i64 1) := (blk_cell BKP.out 0).trans rfl; have cp1 : w4.cell? ⟨gp, 1, none⟩ = some (.int .u64 x.f1) := (blk_cell BKP.out 1).trans rfl; have cp2 : w4.cell? ⟨gp, 2, none⟩ = some (.slice A2 x.f2.length c2) := (blk_cell BKP.out 2).trans rfl; have fcp0 := blk_frozen BKP.out 0; have fcp1 := blk_frozen BKP.out 1; have fcp2 := blk_frozen BKP.out 2; have cq0 : w4.cell? ⟨gq, 0, none⟩ = some (.int .i64 1) := (blk_cell BKQ.out 0).trans rfl; have cq1 : w4.cell? ⟨gq, 1, none⟩ = some (.int .u64 0) := (blk_cell BKQ.out 1).trans rfl; have cq2 : w4.cell? ⟨gq, 2, none⟩ = some (.slice none 0 0) := (blk_cell BKQ.out 2).trans rfl; have fcq0 := blk_frozen BKQ.out 0; have fcq1 := blk_frozen BKQ.out 1; have fcq2 := blk_frozen BKQ.out 2; clear hi hW; obtain ⟨A9, c9, e9, hc9, C9⟩ := Kd.R_reads hr; subst e9; have HC9 := Aside0.mk hc9; have CC9 := Aside0.mk C9; clear hr hc9 C9; have HI5 := Aside0.mk (IsR.wrB HI4.out BKQ.out (by intro _ h; cases h) (by intro _ h; cases h) (by intro _ h; cases h) ((Wr.refl w4.heap.size gq w4).setCell 2 (.slice A9 x.f2.length c9)) (Ne.symm NQ.out)); have HB5 := Aside0.mk (below_wr HB4.out ((Wr.refl w4.heap.size gq w4).setCell 2 (.slice A9 x.f2.length c9)) GQ.out)))
                | (go_at_call 55; go_loud ((with_reducible refine (PK.stelelaw02_same.calls 1048577 1 x.f1 A2 c2 x.f2 1 0 A9 c9 x.f2 true _ ?side1 ?side2 ?side3 ?side4 SM.out).mono ?_); (case side1 => exact Kd.C_below HC2.out HB5.out); (case side2 => exact HL2.out); (case side3 => exact C_wr' CC9.out ((Wr.refl w4.heap.size gq w4).setCell 2 (.slice A9 x.f2.length c9)) (C_ne_blk CC9.out BKQ.out (by intro v hv y; simp only [List.mem_cons, List.not_mem_nil, or_false] at hv; rcases hv with rfl | rfl | rfl <;> (intro h; cases h)))); (case side4 => exact HC9.out); rintro e w6 ⟨rfl, hb⟩; have HB6 := Aside0.mk (below_step HB5.out hb); have HI6 := Aside0.mk (IsR.below HI5.out hb); clear hb))
                )
              go_roundw
              case measure => simp [intOf]; have := HLT.out; omega
              case rel => exact ⟨i + 1, by have := HLT.out; omega, by go_num, ⟨by rw [HREST.out]; exact HI6.out⟩, HB6⟩
            · -- kind 2
              rw [show encP 2 x.f1 x.f2 = 115 :: (longL (x.f2.length : Int) 4 ++ x.f2) from rfl] at HI HOK
              have M := Aside0.mk (fun W h => text_any g _ false W h HOK.out)
              rw [d_some 115 x.f2 rest (by have := hxs.2.1; omega)] at M
              obtain ⟨s, hs⟩ : ∃ z, strOfNums x.f2 = z := ⟨_, rfl⟩
              have HSB := Aside0.mk (show bytesOf s = x.f2 by rw [← hs]; exact bytes_str _ hxs.2.2)
              have HSZ := Aside0.mk (show s.size = x.f2.length by rw [← hs]; exact str_size _)
              have kb := fun W => print_bytes (P := Try.prog) 9 22 5 Try.underlying9 Try.underlying22 Try.underlying5 s W
              simp only [hs] at M
              clear hs
              have e0_ : ((2 : Int) == 0) = false := by decide
              have e1_ : ((2 : Int) == 1) = false := by decide
              have e2_ : ((2 : Int) == 2) = true := by decide
              have SM := Aside0.mk (same_2 x.f1 0 x.f2 hxs.2.1)
              go_wp2_with (first
                | (go_at_call 54; go_loud ((with_reducible refine (KV.out _).mono ?_); rintro e w1 ⟨rfl, hb⟩; have HB1 := Aside0.mk (below_step HBr.out hb); have HI1 := Aside0.mk (HI.out.below hb); obtain ⟨gq, hgq⟩ : ∃ n, w1.heap.size + 1 = n := ⟨_, rfl⟩; obtain ⟨gp, hgp⟩ : ∃ n, w1.heap.size = n := ⟨_, rfl⟩; have HGQ := Aside0.mk hgq; have HGP := Aside0.mk hgp; obtain ⟨bx1, bx2, bx3⟩ := two_boxes w1 #[.int .i64 2, .int .u64 x.f1, .slice A2 x.f2.length c2] #[.int .i64 2, .int .u64 0, .slice none 0 0]; rw [hgp] at bx1; rw [hgq] at bx2; have BKP3 := Aside0.mk bx1; have BKQ3 := Aside0.mk bx2; have HB3 := Aside0.mk (below_step HB1.out bx3); have HI3 := Aside0.mk (IsR.below HI1.out bx3); have GQ := Aside0.mk (show w.heap.size ≤ gq by have := HB1.out.size; omega); have NP := Aside0.mk (show gp ≠ g by have := HI1.out.lt; omega); have NQ := Aside0.mk (show gq ≠ g by have := HI1.out.lt; omega); have NPQ := Aside0.mk (show gp ≠ gq by omega); clear hb hgp hgq bx1 bx2 bx3))
                | (go_at_call 61; go_loud ((with_reducible refine (M.out _ HI3.out).mono ?_); rintro e w4 ⟨rfl, hi, hW⟩; have hbb := bytes_below (Below.refl w4.heap.size w4) (Nat.le_refl _) 5 s; have HI4 := Aside0.mk (IsR.below hi hbb); have HB4 := Aside0.mk (below_step (below_wr HB3.out hW G.out) hbb); have BKP := Aside0.mk (blk_below (hW.blk BKP3.out (blk_lt BKP3.out) NP.out) hbb); have BKQ := Aside0.mk (blk_below (hW.blk BKQ3.out (blk_lt BKQ3.out) NQ.out) hbb); have hne := NPQ.out; have hne' := Ne.symm NPQ.out; rw [HGQ.out, HGP.out]; have cp0 : (Lib.bytesWorld w4 5 s).cell? ⟨gp, 0, none⟩ = some (.int .i64 2) := (blk_cell BKP.out 0).trans rfl; have cp1 : (Lib.bytesWorld w4 5 s).cell? ⟨gp, 1, none⟩ = some (.int .u64 x.f1) := (blk_cell BKP.out 1).trans rfl; have cp2 : (Lib.bytesWorld w4 5 s).cell? ⟨gp, 2, none⟩ = some (.slice A2 x.f2.length c2) := (blk_cell BKP.out 2).trans rfl; have fcp0 := blk_frozen BKP.out 0; have fcp1 := blk_frozen BKP.out 1; have fcp2 := blk_frozen BKP.out 2; have cq0 : (Lib.bytesWorld w4 5 s).cell? ⟨gq, 0, none⟩ = some (.int .i64 2) := (blk_cell BKQ.out 0).trans rfl; have cq1 : (Lib.bytesWorld w4 5 s).cell? ⟨gq, 1, none⟩ = some (.int .u64 0) := (blk_cell BKQ.out 1).trans rfl; have cq2 : (Lib.bytesWorld w4 5 s).cell? ⟨gq, 2, none⟩ = some (.slice none 0 0) := (blk_cell BKQ.out 2).trans rfl; have fcq0 := blk_frozen BKQ.out 0; have fcq1 := blk_frozen BKQ.out 1; have fcq2 := blk_frozen BKQ.out 2; clear hi hW hbb; have CC9 := Aside0.mk (str_C w4 s x.f2 HSB.out HSZ.out (by have := HXS.out.2.1; have := HSZ.out; omega)); have GC9 := Aside0.mk (grownCap_ge w4 s.size 0 5); have HI5 := Aside0.mk (IsR.wrB HI4.out BKQ.out (by intro _ h; cases h) (by intro _ h; cases h) (by intro _ h; cases h) ((Wr.refl (Lib.bytesWorld w4 5 s).heap.size gq (Lib.bytesWorld w4 5 s)).setCell 2 (.slice (some ⟨w4.heap.size, 0, none⟩) s.size (grownCap w4 s.size 0 5))) (Ne.symm NQ.out)); have HB5 := Aside0.mk (below_wr HB4.out ((Wr.refl (Lib.bytesWorld w4 5 s).heap.size gq (Lib.bytesWorld w4 5 s)).setCell 2 (.slice (some ⟨w4.heap.size, 0, none⟩) s.size (grownCap w4 s.size 0 5))) GQ.out)))
                | (go_at_call 55; go_loud ((with_reducible refine (same_str 1048577 2 x.f1 A2 c2 x.f2 2 0 w4.heap.size s (grownCap w4 s.size 0 5) _ ?side1 ?side2 ?side3 HSZ.out GC9.out SM.out).mono ?_); (case side1 => exact Kd.C_below HC2.out HB5.out); (case side2 => exact HL2.out); (case side3 => exact C_wr' CC9.out ((Wr.refl (Lib.bytesWorld w4 5 s).heap.size gq (Lib.bytesWorld w4 5 s)).setCell 2 (.slice (some ⟨w4.heap.size, 0, none⟩) s.size (grownCap w4 s.size 0 5))) (C_ne_blk CC9.out BKQ.out (by intro v hv y; simp only [List.mem_cons, List.not_mem_nil, or_false] at hv; rcases hv with rfl | rfl | rfl <;> (intro h; cases h)))); rintro e w6 ⟨rfl, hb⟩; have HB6 := Aside0.mk (below_step HB5.out hb); have HI6 := Aside0.mk (IsR.below HI5.out hb); clear hb))
                )
              go_roundw
              case measure => simp [intOf]; have := HLT.out; omega
              case rel => exact ⟨i + 1, by have := HLT.out; omega, by go_num, ⟨by rw [HREST.out]; exact HI6.out⟩, HB6⟩
            · -- kind 3
              rw [show encP 3 x.f1 x.f2 = [if (Int.tmod x.f1 2 == 1) = true then 116 else 102] from rfl] at HI HOK
              have M := Aside0.mk (fun W h => bool_any g _ false W h HOK.out)
              rw [d_bool (Int.tmod x.f1 2 == 1) rest] at M
              have e0_ : ((3 : Int) == 0) = false := by decide
              have e1_ : ((3 : Int) == 1) = false := by decide
              have e2_ : ((3 : Int) == 2) = false := by decide
              have e3_ : ((3 : Int) == 3) = true := by decide
              obtain ⟨qq, hqq⟩ : ∃ z, (Int.tmod x.f1 2 == 1) = z := ⟨_, rfl⟩
              rw [hqq] at M HI HOK
              have htm := tmod_lt x.f1 2 hxs.1.1 (by omega)
              cases qq with
              | true =>
                rw [beq_iff_eq] at hqq
                have SM := Aside0.mk (same_3 0 x.f1 1 x.f2 [] (by rw [hqq]; rfl))
                clear hqq htm
                go_wp2_with (first
                  | (go_at_call 54; go_loud ((with_reducible refine (KV.out _).mono ?_); rintro e w1 ⟨rfl, hb⟩; have HB1 := Aside0.mk (below_step HBr.out hb); have HI1 := Aside0.mk (HI.out.below hb); obtain ⟨gq, hgq⟩ : ∃ n, w1.heap.size + 1 = n := ⟨_, rfl⟩; obtain ⟨gp, hgp⟩ : ∃ n, w1.heap.size = n := ⟨_, rfl⟩; have HGQ := Aside0.mk hgq; have HGP := Aside0.mk hgp; obtain ⟨bx1, bx2, bx3⟩ := two_boxes w1 #[.int .i64 3, .int .u64 x.f1, .slice A2 x.f2.length c2] #[.int .i64 3, .int .u64 0, .slice none 0 0]; rw [hgp] at bx1; rw [hgq] at bx2; have BKP3 := Aside0.mk bx1; have BKQ3 := Aside0.mk bx2; have HB3 := Aside0.mk (below_step HB1.out bx3); have HI3 := Aside0.mk (IsR.below HI1.out bx3); have GQ := Aside0.mk (show w.heap.size ≤ gq by have := HB1.out.size; omega); have NP := Aside0.mk (show gp ≠ g by have := HI1.out.lt; omega); have NQ := Aside0.mk (show gq ≠ g by have := HI1.out.lt; omega); have NPQ := Aside0.mk (show gp ≠ gq by omega); clear hb hgp hgq bx1 bx2 bx3))
                  | (go_at_call 63; go_loud ((with_reducible refine (M.out _ HI3.out).mono ?_); rintro e w4 ⟨rfl, hi, hW⟩; have HI4 := Aside0.mk hi; have HB4 := Aside0.mk (below_wr HB3.out hW G.out); have BKP := Aside0.mk (hW.blk BKP3.out (blk_lt BKP3.out) NP.out); have BKQ := Aside0.mk (hW.blk BKQ3.out (blk_lt BKQ3.out) NQ.out); have hne := NPQ.out; have hne' := Ne.symm NPQ.out; rw [HGQ.out, HGP.out]; have cp0 : w4.cell? ⟨gp, 0, none⟩ = some (.int .i64 3) := (blk_cell BKP.out 0).trans rfl; have cp1 : w4.cell? ⟨gp, 1, none⟩ = some (.int .u64 x.f1) := (blk_cell BKP.out 1).trans rfl; have cp2 : w4.cell? ⟨gp, 2, none⟩ = some (.slice A2 x.f2.length c2) := (blk_cell BKP.out 2).trans rfl; have fcp0 := blk_frozen BKP.out 0; have fcp1 := blk_frozen BKP.out 1; have fcp2 := blk_frozen BKP.out 2; have cq0 : w4.cell? ⟨gq, 0, none⟩ = some (.int .i64 3) := (blk_cell BKQ.out 0).trans rfl; have cq1 : w4.cell? ⟨gq, 1, none⟩ = some (.int .u64 0) := (blk_cell BKQ.out 1).trans rfl; have cq2 : w4.cell? ⟨gq, 2, none⟩ = some (.slice none 0 0) := (blk_cell BKQ.out 2).trans rfl; have fcq0 := blk_frozen BKQ.out 0; have fcq1 := blk_frozen BKQ.out 1; have fcq2 := blk_frozen BKQ.out 2; clear hi hW; have HI5 := Aside0.mk (IsR.wrB HI4.out BKQ.out (by intro _ h; cases h) (by intro _ h; cases h) (by intro _ h; cases h) ((Wr.refl w4.heap.size gq w4).setCell 1 (.int .u64 1)) (Ne.symm NQ.out)); have HB5 := Aside0.mk (below_wr HB4.out ((Wr.refl w4.heap.size gq w4).setCell 1 (.int .u64 1)) GQ.out)))
                  | (go_at_call 55; go_loud ((with_reducible refine (same_nil 0 3 x.f1 A2 c2 x.f2 3 1 _ ?side1 ?side2 SM.out).mono ?_); (case side1 => exact Kd.C_below HC2.out HB5.out); (case side2 => exact HL2.out); rintro e w6 ⟨rfl, hb⟩; have HB6 := Aside0.mk (below_step HB5.out hb); have HI6 := Aside0.mk (IsR.below HI5.out hb); clear hb))
                  )
                go_roundw
                case measure => simp [intOf]; have := HLT.out; omega
                case rel => exact ⟨i + 1, by have := HLT.out; omega, by go_num, ⟨by rw [HREST.out]; exact HI6.out⟩, HB6⟩
              | false =>
                replace hqq : Int.tmod x.f1 2 = 0 := by rw [beq_eq_false_iff_ne] at hqq; omega
                have SM := Aside0.mk (same_3 0 x.f1 0 x.f2 [] (by rw [hqq]; rfl))
                clear hqq htm
                go_wp2_with (first
                  | (go_at_call 54; go_loud ((with_reducible refine (KV.out _).mono ?_); rintro e w1 ⟨rfl, hb⟩; have HB1 := Aside0.mk (below_step HBr.out hb); have HI1 := Aside0.mk (HI.out.below hb); obtain ⟨gq, hgq⟩ : ∃ n, w1.heap.size + 1 = n := ⟨_, rfl⟩; obtain ⟨gp, hgp⟩ : ∃ n, w1.heap.size = n := ⟨_, rfl⟩; have HGQ := Aside0.mk hgq; have HGP := Aside0.mk hgp; obtain ⟨bx1, bx2, bx3⟩ := two_boxes w1 #[.int .i64 3, .int .u64 x.f1, .slice A2 x.f2.length c2] #[.int .i64 3, .int .u64 0, .slice none 0 0]; rw [hgp] at bx1; rw [hgq] at bx2; have BKP3 := Aside0.mk bx1; have BKQ3 := Aside0.mk bx2; have HB3 := Aside0.mk (below_step HB1.out bx3); have HI3 := Aside0.mk (IsR.below HI1.out bx3); have GQ := Aside0.mk (show w.heap.size ≤ gq by have := HB1.out.size; omega); have NP := Aside0.mk (show gp ≠ g by have := HI1.out.lt; omega); have NQ := Aside0.mk (show gq ≠ g by have := HI1.out.lt; omega); have NPQ := Aside0.mk (show gp ≠ gq by omega); clear hb hgp hgq bx1 bx2 bx3))
                  | (go_at_call 63; go_loud ((with_reducible refine (M.out _ HI3.out).mono ?_); rintro e w4 ⟨rfl, hi, hW⟩; have HI4 := Aside0.mk hi; have HB4 := Aside0.mk (below_wr HB3.out hW G.out); have BKP := Aside0.mk (hW.blk BKP3.out (blk_lt BKP3.out) NP.out); have BKQ := Aside0.mk (hW.blk BKQ3.out (blk_lt BKQ3.out) NQ.out); have hne := NPQ.out; have hne' := Ne.symm NPQ.out; rw [HGQ.out, HGP.out]; have cp0 : w4.cell? ⟨gp, 0, none⟩ = some (.int .i64 3) := (blk_cell BKP.out 0).trans rfl; have cp1 : w4.cell? ⟨gp, 1, none⟩ = some (.int .u64 x.f1) := (blk_cell BKP.out 1).trans rfl; have cp2 : w4.cell? ⟨gp, 2, none⟩ = some (.slice A2 x.f2.length c2) := (blk_cell BKP.out 2).trans rfl; have fcp0 := blk_frozen BKP.out 0; have fcp1 := blk_frozen BKP.out 1; have fcp2 := blk_frozen BKP.out 2; have cq0 : w4.cell? ⟨gq, 0, none⟩ = some (.int .i64 3) := (blk_cell BKQ.out 0).trans rfl; have cq1 : w4.cell? ⟨gq, 1, none⟩ = some (.int .u64 0) := (blk_cell BKQ.out 1).trans rfl; have cq2 : w4.cell? ⟨gq, 2, none⟩ = some (.slice none 0 0) := (blk_cell BKQ.out 2).trans rfl; have fcq0 := blk_frozen BKQ.out 0; have fcq1 := blk_frozen BKQ.out 1; have fcq2 := blk_frozen BKQ.out 2; clear hi hW))
                  | (go_at_call 55; go_loud ((with_reducible refine (same_nil 0 3 x.f1 A2 c2 x.f2 3 0 _ ?side1 ?side2 SM.out).mono ?_); (case side1 => exact Kd.C_below HC2.out HB4.out); (case side2 => exact HL2.out); rintro e w6 ⟨rfl, hb⟩; have HB6 := Aside0.mk (below_step HB4.out hb); have HI6 := Aside0.mk (IsR.below HI4.out hb); clear hb))
                  )
                go_roundw
                case measure => simp [intOf]; have := HLT.out; omega
                case rel => exact ⟨i + 1, by have := HLT.out; omega, by go_num, ⟨by rw [HREST.out]; exact HI6.out⟩, HB6⟩
            · -- kind 4
              rw [show encP 4 x.f1 x.f2 = 108 :: longL (Int.tmod x.f1 100) 4 from rfl] at HI HOK
              have M := Aside0.mk (fun W h => list_any g _ false 99 W h HOK.out (by omega))
              rw [d_list (Int.tmod x.f1 100) rest (tmod_lt x.f1 100 hxs.1.1 (by omega))] at M
              have q1 : IntKind.u64.wrap (Int.tmod x.f1 100) = Int.tmod x.f1 100 := by rw [IntKind.wrap_u64]; have := tmod_lt x.f1 100 hxs.1.1 (by omega); omega
              have e0_ : ((4 : Int) == 0) = false := by decide
              have e1_ : ((4 : Int) == 1) = false := by decide
              have e2_ : ((4 : Int) == 2) = false := by decide
              have e3_ : ((4 : Int) == 3) = false := by decide
              have e4_ : ((4 : Int) == 4) = true := by decide
              have SM := Aside0.mk (same_4 0 x.f1 (Int.tmod x.f1 100) x.f2 [] (by have := tmod_lt x.f1 100 hxs.1.1 (by omega); rw [Int.tmod_eq_emod_of_nonneg this.1, Int.emod_eq_of_lt this.1 this.2]))
              go_wp2_with (first
                | (go_at_call 54; go_loud ((with_reducible refine (KV.out _).mono ?_); rintro e w1 ⟨rfl, hb⟩; have HB1 := Aside0.mk (below_step HBr.out hb); have HI1 := Aside0.mk (HI.out.below hb); obtain ⟨gq, hgq⟩ : ∃ n, w1.heap.size + 1 = n := ⟨_, rfl⟩; obtain ⟨gp, hgp⟩ : ∃ n, w1.heap.size = n := ⟨_, rfl⟩; have HGQ := Aside0.mk hgq; have HGP := Aside0.mk hgp; obtain ⟨bx1, bx2, bx3⟩ := two_boxes w1 #[.int .i64 4, .int .u64 x.f1, .slice A2 x.f2.length c2] #[.int .i64 4, .int .u64 0, .slice none 0 0]; rw [hgp] at bx1; rw [hgq] at bx2; have BKP3 := Aside0.mk bx1; have BKQ3 := Aside0.mk bx2; have HB3 := Aside0.mk (below_step HB1.out bx3); have HI3 := Aside0.mk (IsR.below HI1.out bx3); have GQ := Aside0.mk (show w.heap.size ≤ gq by have := HB1.out.size; omega); have NP := Aside0.mk (show gp ≠ g by have := HI1.out.lt; omega); have NQ := Aside0.mk (show gq ≠ g by have := HI1.out.lt; omega); have NPQ := Aside0.mk (show gp ≠ gq by omega); clear hb hgp hgq bx1 bx2 bx3))
                | (go_at_call 65; go_loud ((with_reducible refine (M.out _ HI3.out).mono ?_); rintro e w4 ⟨rfl, hi, hW⟩; have HI4 := Aside0.mk hi; have HB4 := Aside0.mk (below_wr HB3.out hW G.out); have BKP := Aside0.mk (hW.blk BKP3.out (blk_lt BKP3.out) NP.out); have BKQ := Aside0.mk (hW.blk BKQ3.out (blk_lt BKQ3.out) NQ.out); have hne := NPQ.out; have hne' := Ne.symm NPQ.out; rw [HGQ.out, HGP.out]; have cp0 : w4.cell? ⟨gp, 0, none⟩ = some (.int .i64 4) := (blk_cell BKP.out 0).trans rfl; have cp1 : w4.cell? ⟨gp, 1, none⟩ = some (.int .u64 x.f1) := (blk_cell BKP.out 1).trans rfl; have cp2 : w4.cell? ⟨gp, 2, none⟩ = some (.slice A2 x.f2.length c2) := (blk_cell BKP.out 2).trans rfl; have fcp0 := blk_frozen BKP.out 0; have fcp1 := blk_frozen BKP.out 1; have fcp2 := blk_frozen BKP.out 2; have cq0 : w4.cell? ⟨gq, 0, none⟩ = some (.int .i64 4) := (blk_cell BKQ.out 0).trans rfl; have cq1 : w4.cell? ⟨gq, 1, none⟩ = some (.int .u64 0) := (blk_cell BKQ.out 1).trans rfl; have cq2 : w4.cell? ⟨gq, 2, none⟩ = some (.slice none 0 0) := (blk_cell BKQ.out 2).trans rfl; have fcq0 := blk_frozen BKQ.out 0; have fcq1 := blk_frozen BKQ.out 1; have fcq2 := blk_frozen BKQ.out 2; clear hi hW; have HI5 := Aside0.mk (IsR.wrB HI4.out BKQ.out (by intro _ h; cases h) (by intro _ h; cases h) (by intro _ h; cases h) ((Wr.refl w4.heap.size gq w4).setCell 1 (.int .u64 (Int.tmod x.f1 100))) (Ne.symm NQ.out)); have HB5 := Aside0.mk (below_wr HB4.out ((Wr.refl w4.heap.size gq w4).setCell 1 (.int .u64 (Int.tmod x.f1 100))) GQ.out)))
                | (go_at_call 55; go_loud ((with_reducible refine (same_nil 0 4 x.f1 A2 c2 x.f2 4 (Int.tmod x.f1 100) _ ?side1 ?side2 SM.out).mono ?_); (case side1 => exact Kd.C_below HC2.out HB5.out); (case side2 => exact HL2.out); rintro e w6 ⟨rfl, hb⟩; have HB6 := Aside0.mk (below_step HB5.out hb); have HI6 := Aside0.mk (IsR.below HI5.out hb); clear hb))
                )
              go_roundw
              case measure => simp [intOf]; have := HLT.out; omega
              case rel => exact ⟨i + 1, by have := HLT.out; omega, by go_num, ⟨by rw [HREST.out]; exact HI6.out⟩, HB6⟩
          · obtain rfl : i = l0.length := by omega
            clear hlt hi
            rw [List.drop_length] at HI
            have DD := Aside0.mk (fun W h => done_any g (Es []) false W h)
            rw [show doneS (Es []) false = 0 from rfl] at DD
            have LL := Aside0.mk (fun W h => left_of g (Es []) false W h)
            rw [show ((Es []).length : Int) = 0 from rfl] at LL
            go_wp2_with (first
              | (go_at_call 68; (with_reducible refine (DD.out _ HI.out).mono ?_); rintro e w4 ⟨rfl, rfl⟩)
              | (go_at_call 67; (with_reducible refine (LL.out _ HI.out).mono ?_); rintro e w4 ⟨rfl, rfl⟩)
              | (go_at_call 46; (with_reducible refine (alive02 _).mono ?_); rintro e w5 ⟨rfl, hb⟩; have HB5 := Aside0.mk (below_step HBr.out hb); clear hb))
            go_ret
            exact ⟨rfl, HB5.out⟩
theorem stelelaw02_CanonBack.calls (A0 : Option Addr) (c0 : Nat) (l0 : List S46) (r : Bool) (w : World) (hr0 : Kd.C k46 w A0 l0.length l0) (hc0 : l0.length ≤ c0) (h : stelelaw02_CanonBack.f l0 = some r) :
    Calls Try.prog 12 #[.slice A0 l0.length c0] w fun e w' => e = .returned (.bool r) ∧ Below w.heap.size w w' := by
  unfold stelelaw02_CanonBack.f at h
  by_cases hh : okBack l0
  · rw [if_pos hh] at h
    obtain rfl := Option.some.inj h
    exact back_any A0 c0 l0 w hr0 hc0 hh
  · rw [if_neg hh] at h
    cases h
end Go.Proofs.Ytlnpmodhejakiaa.PM
