/- The law CanonReads: its function. -/
import Derived.Test.YtlnpmodhejakiaaRdC
import Derived.Test.YtlnpmodhejakiaaCanF
import Derived.Test.YtlnpmodhejakiaaPKx1
namespace Go.Proofs.Ytlnpmodhejakiaa.PL
open Go.RowKit Go.Proofs.YtlnpmodhejakiaaW.PrintWords Go.Proofs.YtlnpmodhejakiaaW.PrintLast Go.Proofs.YtlnpmodhejakiaaW.PrintMore Go.Proofs.Ytlnpmodhejakiaa.D
set_option linter.unusedVariables false
set_option linter.unusedSimpArgs false
theorem below_wr {w w1 w2 : World} {g : Nat} (HB : Below w.heap.size w w1) (hW : Wr w1.heap.size g w1 w2) (hg : w.heap.size ≤ g) : Below w.heap.size w w2 := HB.trans ((hW.lower HB.size).below hg)
theorem cell_mem {w : World} {p : Addr} {v : Value} {cs : Array Value} {T : TypeId} (h : w.cell? p = some v) (hg : w.heap[p.block]? = some (.cells cs T (0, 0))) : v ∈ cs.toList := by
  unfold World.cell? at h
  rw [hg] at h
  simp only at h
  split at h
  · cases h
  · obtain ⟨hi, e⟩ := Array.getElem?_eq_some_iff.1 h
    rw [← e, Array.mem_toList_iff]
    exact Array.getElem_mem hi
/-- bytes do not lie in a reader's own block -/
theorem C_ne_blk {w : World} {A : Option Addr} {l : List Int} (hC : Kd.C (Kd.int .u8) w A l.length l) {g : Nat} {cs : Array Value} {T : TypeId} (hg : w.heap[g]? = some (.cells cs T (0, 0))) (hcs : ∀ v ∈ cs.toList, ∀ x, v ≠ .int .u8 x) :
    0 < l.length → ∀ ad, A = some ad → ad.block ≠ g := by
  intro h0 ad hA hb
  obtain ⟨ad', e, h1⟩ := C_at hC 0 h0
  rw [hA] at e
  cases e
  have hb' : (ad.add 0).block = g := by rw [← hb]; unfold Addr.add; split <;> rfl
  exact hcs _ (cell_mem h1 (by rw [hb']; exact hg)) _ rfl
theorem IsX.wr {w0 : World} {gx g : Nat} {w w' : World} {b l : List Int} {bad : Bool} (h : IsX w0 gx w b l bad) (hW : Wr w.heap.size g w w') (hne : gx ≠ g) : IsX w0 gx w' b l bad := by
  obtain ⟨a, ha, hl, A, c, h1, h2, h3⟩ := h
  exact ⟨a, ha, hl, A, c, hW.blk h1 (blk_lt h1) hne, h2, h3⟩
theorem IsX.below {w0 : World} {gx : Nat} {w w' : World} {b l : List Int} {bad : Bool} (h : IsX w0 gx w b l bad) (hb : Below w.heap.size w w') : IsX w0 gx w' b l bad := by
  obtain ⟨a, ha, hl, A, c, h1, h2, h3⟩ := h
  exact ⟨a, ha, hl, A, c, blk_below h1 hb, h2, h3⟩
/-- a canon reader behind a write of the document's reader -/
theorem IsR.wr {w0 : World} {gx g : Nat} {w w' : World} {b l lx : List Int} {bad bx : Bool} (h : IsR g w l bad) (hx : IsX w0 gx w b lx bx) (hW : Wr w.heap.size gx w w') (hne : g ≠ gx) : IsR g w' l bad := by
  obtain ⟨A, c, h1, h2, h3, h4⟩ := h
  obtain ⟨a, ha, hl, A', c', k1, k2, k3⟩ := hx
  refine ⟨A, c, hW.blk h1 (blk_lt h1) hne, C_wr' h2 hW (C_ne_blk h2 k1 ?_), h3, h4⟩
  intro v hv x
  simp only [List.mem_cons, List.not_mem_nil, or_false] at hv
  rcases hv with rfl | rfl | rfl <;> (intro h; cases h)
theorem IsR.drewN {g : Nat} {w : World} {l : List Int} {bad : Bool} (h : IsR g w l bad) (n : Nat) : IsR g (w.drewN n) l bad := h
theorem okL_sub {w0 : World} {gx : Nat} {w : World} {b l : List Int} {bad : Bool} (h : IsX w0 gx w b l bad) (hb : okL b) : okL l := by
  obtain ⟨a, _, rfl, _⟩ := h
  exact okL_drop hb a
def inInt (x : Int) : Prop := -9223372036854775808 ≤ x ∧ x ≤ 9223372036854775807
instance (x : Int) : Decidable (inInt x) := inferInstanceAs (Decidable (_ ∧ _))
def okReads (l0 : List Int) (l1 : List Int) (a2 : Int) : Prop := (l0.length < 140737488355328 ∧ ∀ x ∈ l0, 0 ≤ x ∧ x ≤ 255) ∧ l1.length ≤ 140737488355328 ∧ inInt a2
instance (l0 l1 : List Int) (a2 : Int) : Decidable (okReads l0 l1 a2) := inferInstanceAs (Decidable ((_ ∧ _) ∧ _ ∧ _))
def stelelaw02_CanonReads.f (l0 : List Int) (l1 : List Int) (a2 : Int) : Option Bool := if okReads l0 l1 a2 then some true else none
theorem C_num {k : IntKind} {w : World} {A : Option Addr} {l : List Int} {n : Nat} (h : Kd.C (Kd.int k) w A n l) (i : Nat) (hi : i < l.length) : ∃ ad, A = some ad ∧ w.cell? (ad.add i) = some (.int k (l.getD i 0)) := by
  obtain ⟨ad, rfl, hc⟩ := h.2.2 (by have := h.1; omega)
  refine ⟨ad, rfl, ?_⟩
  obtain ⟨c, e1, e2, e3⟩ := hc i (l.getD i 0) (by rw [List.getD_eq_getElem?_getD, List.getElem?_eq_getElem hi]; rfl)
  have e2' : c = [.int k (l.getD i 0)] := e2
  subst e2'
  have := e3 0 _ rfl
  rw [show i * (Kd.int k).sz + 0 = i from by show i * 1 + 0 = i; omega] at this
  exact this
theorem same_me0 (l : List Int) (hl : l.length ≤ 140737488355328) : ∀ (d i k : Nat), l.length - i = d → i ≤ l.length → d < k → PK.steleref01_Same.l0 k l l i = some true := by
  intro d
  induction d with
  | zero =>
    intro i k hd hi hk
    obtain ⟨k, rfl⟩ : ∃ k', k = k' + 1 := ⟨k - 1, by omega⟩
    rw [PK.steleref01_Same.l0, if_neg (by omega)]
  | succ d ih =>
    intro i k hd hi hk
    obtain ⟨k, rfl⟩ : ∃ k', k = k' + 1 := ⟨k - 1, by omega⟩
    rw [PK.steleref01_Same.l0, if_pos (by omega), if_pos (by omega), if_pos (by omega), if_pos rfl]
    rw [show wrap64 ((i : Int) + 1) = ((i + 1 : Nat) : Int) by unfold wrap64; omega]
    exact ih (i + 1) k (by omega) (by omega) (by omega)
theorem same_me (l : List Int) (hl : l.length ≤ 140737488355328) : PK.steleref01_Same.f (l.length + 1) l l = some true := by
  unfold PK.steleref01_Same.f
  rw [if_pos rfl]
  exact same_me0 l hl l.length 0 _ (by omega) (by omega) (by omega)
theorem someS_len (l : List Int) (bad : Bool) (s : Int) (h : l.length ≤ 140737488355328) : (someS l bad s).1.length ≤ 140737488355328 := by
  unfold someS
  split
  · simp
  · split
    · simp
    · simp only [List.length_take, List.length_drop]; omega
theorem R_wr {w w' : World} {base g : Nat} {v : Value} {l : List Int} (h : Kd.R (Kd.int .u8) 5 w base (fun _ => True) v l) (hW : Wr w.heap.size g w w') (hg : g < base) : Kd.R (Kd.int .u8) 5 w' base (fun _ => True) v l :=
  Kd.R_mono (Kd.R_step (Kd.R_bound h) (fun k hk hlt => hW.block k hlt (by have := hk.2.1; omega))) (fun _ _ => trivial)
set_option maxHeartbeats 64000000 in
set_option maxRecDepth 100000 in
theorem reads_any (A0 : Option Addr) (c0 : Nat) (l0 : List Int) (A1 : Option Addr) (c1 : Nat) (l1 : List Int) (a2 : Int) (w : World) (hr0 : Kd.C (Kd.int .u8) w A0 l0.length l0) (hc0 : l0.length ≤ c0) (hr1 : Kd.C (Kd.int .i64) w A1 l1.length l1) (hc1 : l1.length ≤ c1) (hh : okReads l0 l1 a2) :
    Calls Try.prog 11 #[.slice A0 l0.length c0, .slice A1 l1.length c1, .int .i64 a2] w fun e w' => e = .returned (.bool true) ∧ Below w.heap.size w w' := by
  have HR0 := Aside0.mk hr0
  have HC0 := Aside0.mk hc0
  have HR1 := Aside0.mk hr1
  have HC1 := Aside0.mk hc1
  have hmost := hh.2.2
  have HMO := Aside0.mk hmost
  have hob : okL l0 := ⟨Nat.le_of_lt hh.1.1, hh.1.2⟩
  have HOB := Aside0.mk hob
  have H2 := Aside0.mk hh
  have RD := Aside0.mk (read_any A0 c0 l0 w hr0 hc0 hh.1.1)
  clear hr0 hc0 hr1 hc1 hmost hob hh
  go_enter Try.func11, Try.ntmps11
  go_wp2_with (first
    | (go_at_call 56; (with_reducible refine RD.out.mono ?_); rintro e w1 ⟨g, rfl, hg, hi, hb⟩; have G := Aside0.mk hg; have HI1 := Aside0.mk hi; have HB1 := Aside0.mk hb; clear hg hi hb)
    | ((with_reducible refine gate_dst (N := 16) rfl ?_); refine box_event ?hg (N := 16) ?hd (cs := #[.slice A0 l0.length c0, .int .i64 0, .bool false]) (t := 55) ?hr ?_; (case hd => rfl); (case hg => rfl); (case hr => first | (go_simp; done) | (go_simp; rfl)); intro gx hgx w2 hbox hBl; have HX2 := Aside0.mk (show IsX w gx w2 l0 l0 false from ⟨0, Nat.zero_le _, rfl, A0, c0, hbox, ⟨by have := HB1.out.size; omega, HC0.out⟩, HR0.out⟩); have GX := Aside0.mk (show w.heap.size ≤ gx by have := HB1.out.size; omega); have NE := Aside0.mk (show g ≠ gx by have := HI1.out.lt; omega); have HI2 := Aside0.mk (HI1.out.below hBl); have HB2 := Aside0.mk (below_step HB1.out hBl); clear hgx hbox hBl)
    | (go_at_call 46; (with_reducible refine (alive02 _).mono ?_); rintro e w3 ⟨rfl, hb⟩; have HI3 := Aside0.mk (HI2.out.below hb); have HX3 := Aside0.mk (IsX.below HX2.out hb); have HB3 := Aside0.mk (below_step HB2.out hb); clear hb))
  go_loopw [9] (fun v9 wr => ∃ (i : Nat) (l : List Int) (bad : Bool), i ≤ l1.length ∧ v9 = .int .i64 (i : Int) ∧ Aside0 (IsR g wr l bad) ∧ Aside0 (IsX w gx wr l0 l bad) ∧ Aside0 (Below w.heap.size w wr)) (fun v9 _ => l1.length - (intOf v9).toNat)
  case atStart => exact ⟨0, l0, false, Nat.zero_le _, rfl, HI3, HX3, HB3⟩
  case round =>
    clear HI3 HX3 HB3
    obtain ⟨i, l, bad, hi, rfl, HI, HX, HBr⟩ := hrel
    by_cases hlt : i < l1.length
    · obtain ⟨ad, hA, hx⟩ := C_num HR1.out i hlt
      subst hA
      replace hx := (HBr.out.cell (World.block_lt_of_cell? w _ hx)).trans hx
      obtain ⟨sc, hsc⟩ : ∃ x, l1.getD i 0 = x := ⟨_, rfl⟩
      rw [hsc] at hx
      clear hsc
      have hltI : (i : Int) < (l1.length : Int) := by omega
      have hok := okL_sub HX.out HOB.out
      have hmost := HMO.out
      have hob := HOB.out
      have GX0 := Aside0.mk (show gx < wr.heap.size by obtain ⟨_, _, _, _, _, k1, _⟩ := HX.out; exact blk_lt k1)
      have hlen0 := hob.1
      have hl1b : (l1.length : Int) ≤ 140737488355328 := by have := H2.out.2.1; omega
      by_cases hs0 : sc = 0
      · -- 0
        obtain ⟨r, hr⟩ : ∃ r, uintS l bad = r := ⟨_, rfl⟩
        have M1 := Aside0.mk (fun W h => uint_any g l bad W h hok)
        have M2 := Aside0.mk (fun W h hB => xuint_any w gx W l0 l bad h hB hob)
        rw [hr] at M1 M2
        clear hr
        obtain ⟨n, l', bad'⟩ := r
        have e0_ : ((0 : Int) == 0) = true := by decide
        subst hs0
        cases bad' with
        | true =>
          by_cases hnil : l' = []
          · have hp_ : l'.length = 0 := by rw [hnil]; rfl
            have HNIL := Aside0.mk hnil
            have HP := Aside0.mk hp_
            clear hnil hp_
            go_wp2_with (first
              | (go_at_call 57; (with_reducible refine (M1.out _ HI.out).mono ?_); rintro e w1 ⟨rfl, hi, hW⟩; have HI1 := Aside0.mk hi; have HX1 := Aside0.mk (IsX.wr HX.out hW (Ne.symm NE.out)); have HB1 := Aside0.mk (below_wr HBr.out hW G.out); have SZ1 := Aside0.mk hW.size; clear hi hW)
              | (go_at_call 58; (with_reducible refine (M2.out _ HX1.out HB1.out).mono ?_); rintro e w3 ⟨rfl, hx, hW⟩; have HX3 := Aside0.mk hx; have HI3 := Aside0.mk (IsR.wr HI1.out HX1.out hW NE.out); have HB3 := Aside0.mk (below_wr HB1.out hW GX.out); clear hx hW; obtain ⟨at_, hat, hl_, Ax, cx, k1, k2, k3⟩ := HX3.out; have d0 := blk_cell k1 0; have d1 := blk_cell k1 1; have d2 := blk_cell k1 2; replace d0 : w3.cell? ⟨gx, 0, none⟩ = some (.slice Ax l0.length cx) := d0; replace d1 : w3.cell? ⟨gx, 1, none⟩ = some (.int .i64 (at_ : Int)) := d1; replace d2 : w3.cell? ⟨gx, 2, none⟩ = some (.bool true) := d2; have hll := Aside0.mk (show l'.length = l0.length - at_ by rw [hl_, List.length_drop]); have HAT := Aside0.mk hat; clear k1 k2 k3 hl_; have q4 : decide ((at_ : Int) < (l0.length : Int)) = false := (by have := hll.out; have := HP.out; first | exact decide_eq_true (by omega) | exact decide_eq_false (by omega)); have q5 : decide (at_ < l0.length) = false := (by have := hll.out; have := HP.out; first | exact decide_eq_true (by omega) | exact decide_eq_false (by omega)); clear hat)
              )
            have DD := Aside0.mk (fun W h => done_any g l' true W h)
            rw [show doneS l' true = 4 from if_pos (Or.inl rfl)] at DD
            have q1 : IntKind.i64.wrap ((l0.length : Int) - (at_ : Int)) = (l0.length : Int) - (at_ : Int) := IntWalk.i64_in _ (by have := HAT.out; omega)
            have q2 : ((l'.length : Int) != (l0.length : Int) - (at_ : Int)) = false := by rw [bne_eq_false_iff_eq]; have := hll.out; have := HAT.out; omega
            go_quiet ((first | (go_at_call 67; exact Calls.quiet_of_same ((left_of g l' true _ (IsR.drewN HI3.out _)).mono fun _ _ h => ⟨h.1, h.2.symm⟩)) | (go_at_call 68; exact Calls.quiet_of_same ((DD.out _ (IsR.drewN HI3.out _)).mono fun _ _ h => ⟨h.1, h.2.symm⟩))))
            clear q1 q2 q4 q5 d0 d1 d2
            go_wp2
            go_roundw
            case measure => simp [intOf]; omega
            case rel => exact ⟨i + 1, l', true, by omega, by go_num, ⟨HI3.out⟩, ⟨HX3.out⟩, ⟨pw_below_drewN HB3.out nq⟩⟩
          · have hp_ : 0 < l'.length := List.length_pos_iff.2 hnil
            have HNIL := Aside0.mk hnil
            have HP := Aside0.mk hp_
            clear hnil hp_
            go_wp2_with (first
              | (go_at_call 57; (with_reducible refine (M1.out _ HI.out).mono ?_); rintro e w1 ⟨rfl, hi, hW⟩; have HI1 := Aside0.mk hi; have HX1 := Aside0.mk (IsX.wr HX.out hW (Ne.symm NE.out)); have HB1 := Aside0.mk (below_wr HBr.out hW G.out); have SZ1 := Aside0.mk hW.size; clear hi hW)
              | (go_at_call 58; (with_reducible refine (M2.out _ HX1.out HB1.out).mono ?_); rintro e w3 ⟨rfl, hx, hW⟩; have HX3 := Aside0.mk hx; have HI3 := Aside0.mk (IsR.wr HI1.out HX1.out hW NE.out); have HB3 := Aside0.mk (below_wr HB1.out hW GX.out); clear hx hW; obtain ⟨at_, hat, hl_, Ax, cx, k1, k2, k3⟩ := HX3.out; have d0 := blk_cell k1 0; have d1 := blk_cell k1 1; have d2 := blk_cell k1 2; replace d0 : w3.cell? ⟨gx, 0, none⟩ = some (.slice Ax l0.length cx) := d0; replace d1 : w3.cell? ⟨gx, 1, none⟩ = some (.int .i64 (at_ : Int)) := d1; replace d2 : w3.cell? ⟨gx, 2, none⟩ = some (.bool true) := d2; have hll := Aside0.mk (show l'.length = l0.length - at_ by rw [hl_, List.length_drop]); have HAT := Aside0.mk hat; clear k1 k2 k3 hl_; have q4 : decide ((at_ : Int) < (l0.length : Int)) = true := (by have := hll.out; have := HP.out; first | exact decide_eq_true (by omega) | exact decide_eq_false (by omega)); have q5 : decide (at_ < l0.length) = true := (by have := hll.out; have := HP.out; first | exact decide_eq_true (by omega) | exact decide_eq_false (by omega)); clear hat)
              )
            have DD := Aside0.mk (fun W h => done_any g l' true W h)
            rw [show doneS l' true = 4 from if_pos (Or.inl rfl)] at DD
            have q1 : IntKind.i64.wrap ((l0.length : Int) - (at_ : Int)) = (l0.length : Int) - (at_ : Int) := IntWalk.i64_in _ (by have := HAT.out; omega)
            have q2 : ((l'.length : Int) != (l0.length : Int) - (at_ : Int)) = false := by rw [bne_eq_false_iff_eq]; have := hll.out; have := HAT.out; omega
            go_quiet ((first | (go_at_call 67; exact Calls.quiet_of_same ((left_of g l' true _ (IsR.drewN HI3.out _)).mono fun _ _ h => ⟨h.1, h.2.symm⟩)) | (go_at_call 68; exact Calls.quiet_of_same ((DD.out _ (IsR.drewN HI3.out _)).mono fun _ _ h => ⟨h.1, h.2.symm⟩))))
            clear q1 q2 q4 q5 d0 d1 d2
            go_wp2
            go_roundw
            case measure => simp [intOf]; omega
            case rel => exact ⟨i + 1, l', true, by omega, by go_num, ⟨HI3.out⟩, ⟨HX3.out⟩, ⟨pw_below_drewN HB3.out nq⟩⟩
        | false =>
          by_cases hnil : l' = []
          · have hp_ : l'.length = 0 := by rw [hnil]; rfl
            have HNIL := Aside0.mk hnil
            have HP := Aside0.mk hp_
            clear hnil hp_
            go_wp2_with (first
              | (go_at_call 57; (with_reducible refine (M1.out _ HI.out).mono ?_); rintro e w1 ⟨rfl, hi, hW⟩; have HI1 := Aside0.mk hi; have HX1 := Aside0.mk (IsX.wr HX.out hW (Ne.symm NE.out)); have HB1 := Aside0.mk (below_wr HBr.out hW G.out); have SZ1 := Aside0.mk hW.size; clear hi hW)
              | (go_at_call 58; (with_reducible refine (M2.out _ HX1.out HB1.out).mono ?_); rintro e w3 ⟨rfl, hx, hW⟩; have HX3 := Aside0.mk hx; have HI3 := Aside0.mk (IsR.wr HI1.out HX1.out hW NE.out); have HB3 := Aside0.mk (below_wr HB1.out hW GX.out); clear hx hW; obtain ⟨at_, hat, hl_, Ax, cx, k1, k2, k3⟩ := HX3.out; have d0 := blk_cell k1 0; have d1 := blk_cell k1 1; have d2 := blk_cell k1 2; replace d0 : w3.cell? ⟨gx, 0, none⟩ = some (.slice Ax l0.length cx) := d0; replace d1 : w3.cell? ⟨gx, 1, none⟩ = some (.int .i64 (at_ : Int)) := d1; replace d2 : w3.cell? ⟨gx, 2, none⟩ = some (.bool false) := d2; have hll := Aside0.mk (show l'.length = l0.length - at_ by rw [hl_, List.length_drop]); have HAT := Aside0.mk hat; clear k1 k2 k3 hl_; have q4 : decide ((at_ : Int) < (l0.length : Int)) = false := (by have := hll.out; have := HP.out; first | exact decide_eq_true (by omega) | exact decide_eq_false (by omega)); have q5 : decide (at_ < l0.length) = false := (by have := hll.out; have := HP.out; first | exact decide_eq_true (by omega) | exact decide_eq_false (by omega)); clear hat)
              )
            have DD := Aside0.mk (fun W h => done_any g l' false W h)
            rw [show doneS l' false = 0 from if_neg (by rintro (h | h); cases h; exact h HNIL.out)] at DD
            have q1 : IntKind.i64.wrap ((l0.length : Int) - (at_ : Int)) = (l0.length : Int) - (at_ : Int) := IntWalk.i64_in _ (by have := HAT.out; omega)
            have q2 : ((l'.length : Int) != (l0.length : Int) - (at_ : Int)) = false := by rw [bne_eq_false_iff_eq]; have := hll.out; have := HAT.out; omega
            go_quiet ((first | (go_at_call 67; exact Calls.quiet_of_same ((left_of g l' false _ (IsR.drewN HI3.out _)).mono fun _ _ h => ⟨h.1, h.2.symm⟩)) | (go_at_call 68; exact Calls.quiet_of_same ((DD.out _ (IsR.drewN HI3.out _)).mono fun _ _ h => ⟨h.1, h.2.symm⟩))))
            clear q1 q2 q4 q5 d0 d1 d2
            go_wp2
            go_roundw
            case measure => simp [intOf]; omega
            case rel => exact ⟨i + 1, l', false, by omega, by go_num, ⟨HI3.out⟩, ⟨HX3.out⟩, ⟨pw_below_drewN HB3.out nq⟩⟩
          · have hp_ : 0 < l'.length := List.length_pos_iff.2 hnil
            have HNIL := Aside0.mk hnil
            have HP := Aside0.mk hp_
            clear hnil hp_
            go_wp2_with (first
              | (go_at_call 57; (with_reducible refine (M1.out _ HI.out).mono ?_); rintro e w1 ⟨rfl, hi, hW⟩; have HI1 := Aside0.mk hi; have HX1 := Aside0.mk (IsX.wr HX.out hW (Ne.symm NE.out)); have HB1 := Aside0.mk (below_wr HBr.out hW G.out); have SZ1 := Aside0.mk hW.size; clear hi hW)
              | (go_at_call 58; (with_reducible refine (M2.out _ HX1.out HB1.out).mono ?_); rintro e w3 ⟨rfl, hx, hW⟩; have HX3 := Aside0.mk hx; have HI3 := Aside0.mk (IsR.wr HI1.out HX1.out hW NE.out); have HB3 := Aside0.mk (below_wr HB1.out hW GX.out); clear hx hW; obtain ⟨at_, hat, hl_, Ax, cx, k1, k2, k3⟩ := HX3.out; have d0 := blk_cell k1 0; have d1 := blk_cell k1 1; have d2 := blk_cell k1 2; replace d0 : w3.cell? ⟨gx, 0, none⟩ = some (.slice Ax l0.length cx) := d0; replace d1 : w3.cell? ⟨gx, 1, none⟩ = some (.int .i64 (at_ : Int)) := d1; replace d2 : w3.cell? ⟨gx, 2, none⟩ = some (.bool false) := d2; have hll := Aside0.mk (show l'.length = l0.length - at_ by rw [hl_, List.length_drop]); have HAT := Aside0.mk hat; clear k1 k2 k3 hl_; have q4 : decide ((at_ : Int) < (l0.length : Int)) = true := (by have := hll.out; have := HP.out; first | exact decide_eq_true (by omega) | exact decide_eq_false (by omega)); have q5 : decide (at_ < l0.length) = true := (by have := hll.out; have := HP.out; first | exact decide_eq_true (by omega) | exact decide_eq_false (by omega)); clear hat)
              )
            have DD := Aside0.mk (fun W h => done_any g l' false W h)
            rw [show doneS l' false = 4 from if_pos (Or.inr HNIL.out)] at DD
            have q1 : IntKind.i64.wrap ((l0.length : Int) - (at_ : Int)) = (l0.length : Int) - (at_ : Int) := IntWalk.i64_in _ (by have := HAT.out; omega)
            have q2 : ((l'.length : Int) != (l0.length : Int) - (at_ : Int)) = false := by rw [bne_eq_false_iff_eq]; have := hll.out; have := HAT.out; omega
            go_quiet ((first | (go_at_call 67; exact Calls.quiet_of_same ((left_of g l' false _ (IsR.drewN HI3.out _)).mono fun _ _ h => ⟨h.1, h.2.symm⟩)) | (go_at_call 68; exact Calls.quiet_of_same ((DD.out _ (IsR.drewN HI3.out _)).mono fun _ _ h => ⟨h.1, h.2.symm⟩))))
            clear q1 q2 q4 q5 d0 d1 d2
            go_wp2
            go_roundw
            case measure => simp [intOf]; omega
            case rel => exact ⟨i + 1, l', false, by omega, by go_num, ⟨HI3.out⟩, ⟨HX3.out⟩, ⟨pw_below_drewN HB3.out nq⟩⟩
      by_cases hs1 : sc = 1
      · -- 1
        obtain ⟨r, hr⟩ : ∃ r, someS l bad 98 = r := ⟨_, rfl⟩
        have hsl := someS_len l bad 98 hok.1
        have M1 := Aside0.mk (fun W h => bytes_any g l bad W h hok)
        have M2 := Aside0.mk (fun W h hB => xbytes_any w gx W l0 l bad h hB hob)
        rw [hr] at M1 M2 hsl
        clear hr
        obtain ⟨n, l', bad'⟩ := r
        have HSM := Aside0.mk (same_me n hsl)
        clear hsl
        have e0_ : ((1 : Int) == 0) = false := by decide
        have e1_ : ((1 : Int) == 1) = true := by decide
        subst hs1
        cases bad' with
        | true =>
          by_cases hnil : l' = []
          · have hp_ : l'.length = 0 := by rw [hnil]; rfl
            have HNIL := Aside0.mk hnil
            have HP := Aside0.mk hp_
            clear hnil hp_
            go_wp2_with (first
              | (go_at_call 59; (with_reducible refine (M1.out _ HI.out).mono ?_); rintro e w1 ⟨v1, rfl, hr, hi, hW⟩; have R1 := Aside0.mk hr; have HI1 := Aside0.mk hi; have HX1 := Aside0.mk (IsX.wr HX.out hW (Ne.symm NE.out)); have HB1 := Aside0.mk (below_wr HBr.out hW G.out); have SZ1 := Aside0.mk hW.size; clear hi hW; clear hr)
              | (go_at_call 60; (with_reducible refine (M2.out _ HX1.out HB1.out).mono ?_); rintro e w2 ⟨v2, rfl, hr, hx, hW⟩; have R2 := Aside0.mk hr; have R1' := Aside0.mk (R_wr R1.out hW (by have := GX0.out; omega)); obtain ⟨A9, c9, e9, hc9, C9⟩ := Kd.R_reads R1'.out; obtain ⟨A11, c11, e11, hc11, C11⟩ := Kd.R_reads R2.out; subst e9 e11; have HX2 := Aside0.mk hx; have HI2 := Aside0.mk (IsR.wr HI1.out HX1.out hW NE.out); have HB2 := Aside0.mk (below_wr HB1.out hW GX.out); clear hr hx hW)
              | (go_at_call 29; (with_reducible refine (PK.steleref01_Same.calls (n.length + 1) A9 c9 n A11 c11 n true _ C9 hc9 C11 hc11 HSM.out).mono ?_); rintro e w3 ⟨rfl, hd⟩; have HX3 := Aside0.mk (IsX.below HX2.out hd.below); have HI3 := Aside0.mk (HI2.out.below hd.below); have HB3 := Aside0.mk (below_step HB2.out hd.below); clear hd; obtain ⟨at_, hat, hl_, Ax, cx, k1, k2, k3⟩ := HX3.out; have d0 := blk_cell k1 0; have d1 := blk_cell k1 1; have d2 := blk_cell k1 2; replace d0 : w3.cell? ⟨gx, 0, none⟩ = some (.slice Ax l0.length cx) := d0; replace d1 : w3.cell? ⟨gx, 1, none⟩ = some (.int .i64 (at_ : Int)) := d1; replace d2 : w3.cell? ⟨gx, 2, none⟩ = some (.bool true) := d2; have hll := Aside0.mk (show l'.length = l0.length - at_ by rw [hl_, List.length_drop]); have HAT := Aside0.mk hat; clear k1 k2 k3 hl_; have q4 : decide ((at_ : Int) < (l0.length : Int)) = false := (by have := hll.out; have := HP.out; first | exact decide_eq_true (by omega) | exact decide_eq_false (by omega)); have q5 : decide (at_ < l0.length) = false := (by have := hll.out; have := HP.out; first | exact decide_eq_true (by omega) | exact decide_eq_false (by omega)); clear hat)
              )
            have DD := Aside0.mk (fun W h => done_any g l' true W h)
            rw [show doneS l' true = 4 from if_pos (Or.inl rfl)] at DD
            have q1 : IntKind.i64.wrap ((l0.length : Int) - (at_ : Int)) = (l0.length : Int) - (at_ : Int) := IntWalk.i64_in _ (by have := HAT.out; omega)
            have q2 : ((l'.length : Int) != (l0.length : Int) - (at_ : Int)) = false := by rw [bne_eq_false_iff_eq]; have := hll.out; have := HAT.out; omega
            go_quiet ((first | (go_at_call 67; exact Calls.quiet_of_same ((left_of g l' true _ (IsR.drewN HI3.out _)).mono fun _ _ h => ⟨h.1, h.2.symm⟩)) | (go_at_call 68; exact Calls.quiet_of_same ((DD.out _ (IsR.drewN HI3.out _)).mono fun _ _ h => ⟨h.1, h.2.symm⟩))))
            clear q1 q2 q4 q5 d0 d1 d2
            go_wp2
            go_roundw
            case measure => simp [intOf]; omega
            case rel => exact ⟨i + 1, l', true, by omega, by go_num, ⟨HI3.out⟩, ⟨HX3.out⟩, ⟨pw_below_drewN HB3.out nq⟩⟩
          · have hp_ : 0 < l'.length := List.length_pos_iff.2 hnil
            have HNIL := Aside0.mk hnil
            have HP := Aside0.mk hp_
            clear hnil hp_
            go_wp2_with (first
              | (go_at_call 59; (with_reducible refine (M1.out _ HI.out).mono ?_); rintro e w1 ⟨v1, rfl, hr, hi, hW⟩; have R1 := Aside0.mk hr; have HI1 := Aside0.mk hi; have HX1 := Aside0.mk (IsX.wr HX.out hW (Ne.symm NE.out)); have HB1 := Aside0.mk (below_wr HBr.out hW G.out); have SZ1 := Aside0.mk hW.size; clear hi hW; clear hr)
              | (go_at_call 60; (with_reducible refine (M2.out _ HX1.out HB1.out).mono ?_); rintro e w2 ⟨v2, rfl, hr, hx, hW⟩; have R2 := Aside0.mk hr; have R1' := Aside0.mk (R_wr R1.out hW (by have := GX0.out; omega)); obtain ⟨A9, c9, e9, hc9, C9⟩ := Kd.R_reads R1'.out; obtain ⟨A11, c11, e11, hc11, C11⟩ := Kd.R_reads R2.out; subst e9 e11; have HX2 := Aside0.mk hx; have HI2 := Aside0.mk (IsR.wr HI1.out HX1.out hW NE.out); have HB2 := Aside0.mk (below_wr HB1.out hW GX.out); clear hr hx hW)
              | (go_at_call 29; (with_reducible refine (PK.steleref01_Same.calls (n.length + 1) A9 c9 n A11 c11 n true _ C9 hc9 C11 hc11 HSM.out).mono ?_); rintro e w3 ⟨rfl, hd⟩; have HX3 := Aside0.mk (IsX.below HX2.out hd.below); have HI3 := Aside0.mk (HI2.out.below hd.below); have HB3 := Aside0.mk (below_step HB2.out hd.below); clear hd; obtain ⟨at_, hat, hl_, Ax, cx, k1, k2, k3⟩ := HX3.out; have d0 := blk_cell k1 0; have d1 := blk_cell k1 1; have d2 := blk_cell k1 2; replace d0 : w3.cell? ⟨gx, 0, none⟩ = some (.slice Ax l0.length cx) := d0; replace d1 : w3.cell? ⟨gx, 1, none⟩ = some (.int .i64 (at_ : Int)) := d1; replace d2 : w3.cell? ⟨gx, 2, none⟩ = some (.bool true) := d2; have hll := Aside0.mk (show l'.length = l0.length - at_ by rw [hl_, List.length_drop]); have HAT := Aside0.mk hat; clear k1 k2 k3 hl_; have q4 : decide ((at_ : Int) < (l0.length : Int)) = true := (by have := hll.out; have := HP.out; first | exact decide_eq_true (by omega) | exact decide_eq_false (by omega)); have q5 : decide (at_ < l0.length) = true := (by have := hll.out; have := HP.out; first | exact decide_eq_true (by omega) | exact decide_eq_false (by omega)); clear hat)
              )
            have DD := Aside0.mk (fun W h => done_any g l' true W h)
            rw [show doneS l' true = 4 from if_pos (Or.inl rfl)] at DD
            have q1 : IntKind.i64.wrap ((l0.length : Int) - (at_ : Int)) = (l0.length : Int) - (at_ : Int) := IntWalk.i64_in _ (by have := HAT.out; omega)
            have q2 : ((l'.length : Int) != (l0.length : Int) - (at_ : Int)) = false := by rw [bne_eq_false_iff_eq]; have := hll.out; have := HAT.out; omega
            go_quiet ((first | (go_at_call 67; exact Calls.quiet_of_same ((left_of g l' true _ (IsR.drewN HI3.out _)).mono fun _ _ h => ⟨h.1, h.2.symm⟩)) | (go_at_call 68; exact Calls.quiet_of_same ((DD.out _ (IsR.drewN HI3.out _)).mono fun _ _ h => ⟨h.1, h.2.symm⟩))))
            clear q1 q2 q4 q5 d0 d1 d2
            go_wp2
            go_roundw
            case measure => simp [intOf]; omega
            case rel => exact ⟨i + 1, l', true, by omega, by go_num, ⟨HI3.out⟩, ⟨HX3.out⟩, ⟨pw_below_drewN HB3.out nq⟩⟩
        | false =>
          by_cases hnil : l' = []
          · have hp_ : l'.length = 0 := by rw [hnil]; rfl
            have HNIL := Aside0.mk hnil
            have HP := Aside0.mk hp_
            clear hnil hp_
            go_wp2_with (first
              | (go_at_call 59; (with_reducible refine (M1.out _ HI.out).mono ?_); rintro e w1 ⟨v1, rfl, hr, hi, hW⟩; have R1 := Aside0.mk hr; have HI1 := Aside0.mk hi; have HX1 := Aside0.mk (IsX.wr HX.out hW (Ne.symm NE.out)); have HB1 := Aside0.mk (below_wr HBr.out hW G.out); have SZ1 := Aside0.mk hW.size; clear hi hW; clear hr)
              | (go_at_call 60; (with_reducible refine (M2.out _ HX1.out HB1.out).mono ?_); rintro e w2 ⟨v2, rfl, hr, hx, hW⟩; have R2 := Aside0.mk hr; have R1' := Aside0.mk (R_wr R1.out hW (by have := GX0.out; omega)); obtain ⟨A9, c9, e9, hc9, C9⟩ := Kd.R_reads R1'.out; obtain ⟨A11, c11, e11, hc11, C11⟩ := Kd.R_reads R2.out; subst e9 e11; have HX2 := Aside0.mk hx; have HI2 := Aside0.mk (IsR.wr HI1.out HX1.out hW NE.out); have HB2 := Aside0.mk (below_wr HB1.out hW GX.out); clear hr hx hW)
              | (go_at_call 29; (with_reducible refine (PK.steleref01_Same.calls (n.length + 1) A9 c9 n A11 c11 n true _ C9 hc9 C11 hc11 HSM.out).mono ?_); rintro e w3 ⟨rfl, hd⟩; have HX3 := Aside0.mk (IsX.below HX2.out hd.below); have HI3 := Aside0.mk (HI2.out.below hd.below); have HB3 := Aside0.mk (below_step HB2.out hd.below); clear hd; obtain ⟨at_, hat, hl_, Ax, cx, k1, k2, k3⟩ := HX3.out; have d0 := blk_cell k1 0; have d1 := blk_cell k1 1; have d2 := blk_cell k1 2; replace d0 : w3.cell? ⟨gx, 0, none⟩ = some (.slice Ax l0.length cx) := d0; replace d1 : w3.cell? ⟨gx, 1, none⟩ = some (.int .i64 (at_ : Int)) := d1; replace d2 : w3.cell? ⟨gx, 2, none⟩ = some (.bool false) := d2; have hll := Aside0.mk (show l'.length = l0.length - at_ by rw [hl_, List.length_drop]); have HAT := Aside0.mk hat; clear k1 k2 k3 hl_; have q4 : decide ((at_ : Int) < (l0.length : Int)) = false := (by have := hll.out; have := HP.out; first | exact decide_eq_true (by omega) | exact decide_eq_false (by omega)); have q5 : decide (at_ < l0.length) = false := (by have := hll.out; have := HP.out; first | exact decide_eq_true (by omega) | exact decide_eq_false (by omega)); clear hat)
              )
            have DD := Aside0.mk (fun W h => done_any g l' false W h)
            rw [show doneS l' false = 0 from if_neg (by rintro (h | h); cases h; exact h HNIL.out)] at DD
            have q1 : IntKind.i64.wrap ((l0.length : Int) - (at_ : Int)) = (l0.length : Int) - (at_ : Int) := IntWalk.i64_in _ (by have := HAT.out; omega)
            have q2 : ((l'.length : Int) != (l0.length : Int) - (at_ : Int)) = false := by rw [bne_eq_false_iff_eq]; have := hll.out; have := HAT.out; omega
            go_quiet ((first | (go_at_call 67; exact Calls.quiet_of_same ((left_of g l' false _ (IsR.drewN HI3.out _)).mono fun _ _ h => ⟨h.1, h.2.symm⟩)) | (go_at_call 68; exact Calls.quiet_of_same ((DD.out _ (IsR.drewN HI3.out _)).mono fun _ _ h => ⟨h.1, h.2.symm⟩))))
            clear q1 q2 q4 q5 d0 d1 d2
            go_wp2
            go_roundw
            case measure => simp [intOf]; omega
            case rel => exact ⟨i + 1, l', false, by omega, by go_num, ⟨HI3.out⟩, ⟨HX3.out⟩, ⟨pw_below_drewN HB3.out nq⟩⟩
          · have hp_ : 0 < l'.length := List.length_pos_iff.2 hnil
            have HNIL := Aside0.mk hnil
            have HP := Aside0.mk hp_
            clear hnil hp_
            go_wp2_with (first
              | (go_at_call 59; (with_reducible refine (M1.out _ HI.out).mono ?_); rintro e w1 ⟨v1, rfl, hr, hi, hW⟩; have R1 := Aside0.mk hr; have HI1 := Aside0.mk hi; have HX1 := Aside0.mk (IsX.wr HX.out hW (Ne.symm NE.out)); have HB1 := Aside0.mk (below_wr HBr.out hW G.out); have SZ1 := Aside0.mk hW.size; clear hi hW; clear hr)
              | (go_at_call 60; (with_reducible refine (M2.out _ HX1.out HB1.out).mono ?_); rintro e w2 ⟨v2, rfl, hr, hx, hW⟩; have R2 := Aside0.mk hr; have R1' := Aside0.mk (R_wr R1.out hW (by have := GX0.out; omega)); obtain ⟨A9, c9, e9, hc9, C9⟩ := Kd.R_reads R1'.out; obtain ⟨A11, c11, e11, hc11, C11⟩ := Kd.R_reads R2.out; subst e9 e11; have HX2 := Aside0.mk hx; have HI2 := Aside0.mk (IsR.wr HI1.out HX1.out hW NE.out); have HB2 := Aside0.mk (below_wr HB1.out hW GX.out); clear hr hx hW)
              | (go_at_call 29; (with_reducible refine (PK.steleref01_Same.calls (n.length + 1) A9 c9 n A11 c11 n true _ C9 hc9 C11 hc11 HSM.out).mono ?_); rintro e w3 ⟨rfl, hd⟩; have HX3 := Aside0.mk (IsX.below HX2.out hd.below); have HI3 := Aside0.mk (HI2.out.below hd.below); have HB3 := Aside0.mk (below_step HB2.out hd.below); clear hd; obtain ⟨at_, hat, hl_, Ax, cx, k1, k2, k3⟩ := HX3.out; have d0 := blk_cell k1 0; have d1 := blk_cell k1 1; have d2 := blk_cell k1 2; replace d0 : w3.cell? ⟨gx, 0, none⟩ = some (.slice Ax l0.length cx) := d0; replace d1 : w3.cell? ⟨gx, 1, none⟩ = some (.int .i64 (at_ : Int)) := d1; replace d2 : w3.cell? ⟨gx, 2, none⟩ = some (.bool false) := d2; have hll := Aside0.mk (show l'.length = l0.length - at_ by rw [hl_, List.length_drop]); have HAT := Aside0.mk hat; clear k1 k2 k3 hl_; have q4 : decide ((at_ : Int) < (l0.length : Int)) = true := (by have := hll.out; have := HP.out; first | exact decide_eq_true (by omega) | exact decide_eq_false (by omega)); have q5 : decide (at_ < l0.length) = true := (by have := hll.out; have := HP.out; first | exact decide_eq_true (by omega) | exact decide_eq_false (by omega)); clear hat)
              )
            have DD := Aside0.mk (fun W h => done_any g l' false W h)
            rw [show doneS l' false = 4 from if_pos (Or.inr HNIL.out)] at DD
            have q1 : IntKind.i64.wrap ((l0.length : Int) - (at_ : Int)) = (l0.length : Int) - (at_ : Int) := IntWalk.i64_in _ (by have := HAT.out; omega)
            have q2 : ((l'.length : Int) != (l0.length : Int) - (at_ : Int)) = false := by rw [bne_eq_false_iff_eq]; have := hll.out; have := HAT.out; omega
            go_quiet ((first | (go_at_call 67; exact Calls.quiet_of_same ((left_of g l' false _ (IsR.drewN HI3.out _)).mono fun _ _ h => ⟨h.1, h.2.symm⟩)) | (go_at_call 68; exact Calls.quiet_of_same ((DD.out _ (IsR.drewN HI3.out _)).mono fun _ _ h => ⟨h.1, h.2.symm⟩))))
            clear q1 q2 q4 q5 d0 d1 d2
            go_wp2
            go_roundw
            case measure => simp [intOf]; omega
            case rel => exact ⟨i + 1, l', false, by omega, by go_num, ⟨HI3.out⟩, ⟨HX3.out⟩, ⟨pw_below_drewN HB3.out nq⟩⟩
      by_cases hs2 : sc = 2
      · -- 2
        obtain ⟨r, hr⟩ : ∃ r, someS l bad 115 = r := ⟨_, rfl⟩
        have M1 := Aside0.mk (fun W h => text_any g l bad W h hok)
        have M2 := Aside0.mk (fun W h hB => xtext_any w gx W l0 l bad h hB hob)
        rw [hr] at M1 M2
        clear hr
        obtain ⟨n, l', bad'⟩ := r
        have e0_ : ((2 : Int) == 0) = false := by decide
        have e1_ : ((2 : Int) == 1) = false := by decide
        have e2_ : ((2 : Int) == 2) = true := by decide
        subst hs2
        cases bad' with
        | true =>
          by_cases hnil : l' = []
          · have hp_ : l'.length = 0 := by rw [hnil]; rfl
            have HNIL := Aside0.mk hnil
            have HP := Aside0.mk hp_
            clear hnil hp_
            go_wp2_with (first
              | (go_at_call 61; (with_reducible refine (M1.out _ HI.out).mono ?_); rintro e w1 ⟨rfl, hi, hW⟩; have HI1 := Aside0.mk hi; have HX1 := Aside0.mk (IsX.wr HX.out hW (Ne.symm NE.out)); have HB1 := Aside0.mk (below_wr HBr.out hW G.out); have SZ1 := Aside0.mk hW.size; clear hi hW)
              | (go_at_call 62; (with_reducible refine (M2.out _ HX1.out HB1.out).mono ?_); rintro e w3 ⟨rfl, hx, hW⟩; have HX3 := Aside0.mk hx; have HI3 := Aside0.mk (IsR.wr HI1.out HX1.out hW NE.out); have HB3 := Aside0.mk (below_wr HB1.out hW GX.out); clear hx hW; obtain ⟨at_, hat, hl_, Ax, cx, k1, k2, k3⟩ := HX3.out; have d0 := blk_cell k1 0; have d1 := blk_cell k1 1; have d2 := blk_cell k1 2; replace d0 : w3.cell? ⟨gx, 0, none⟩ = some (.slice Ax l0.length cx) := d0; replace d1 : w3.cell? ⟨gx, 1, none⟩ = some (.int .i64 (at_ : Int)) := d1; replace d2 : w3.cell? ⟨gx, 2, none⟩ = some (.bool true) := d2; have hll := Aside0.mk (show l'.length = l0.length - at_ by rw [hl_, List.length_drop]); have HAT := Aside0.mk hat; clear k1 k2 k3 hl_; have q4 : decide ((at_ : Int) < (l0.length : Int)) = false := (by have := hll.out; have := HP.out; first | exact decide_eq_true (by omega) | exact decide_eq_false (by omega)); have q5 : decide (at_ < l0.length) = false := (by have := hll.out; have := HP.out; first | exact decide_eq_true (by omega) | exact decide_eq_false (by omega)); clear hat)
              )
            have DD := Aside0.mk (fun W h => done_any g l' true W h)
            rw [show doneS l' true = 4 from if_pos (Or.inl rfl)] at DD
            have q1 : IntKind.i64.wrap ((l0.length : Int) - (at_ : Int)) = (l0.length : Int) - (at_ : Int) := IntWalk.i64_in _ (by have := HAT.out; omega)
            have q2 : ((l'.length : Int) != (l0.length : Int) - (at_ : Int)) = false := by rw [bne_eq_false_iff_eq]; have := hll.out; have := HAT.out; omega
            go_quiet ((first | (go_at_call 67; exact Calls.quiet_of_same ((left_of g l' true _ (IsR.drewN HI3.out _)).mono fun _ _ h => ⟨h.1, h.2.symm⟩)) | (go_at_call 68; exact Calls.quiet_of_same ((DD.out _ (IsR.drewN HI3.out _)).mono fun _ _ h => ⟨h.1, h.2.symm⟩))))
            clear q1 q2 q4 q5 d0 d1 d2
            go_wp2
            go_roundw
            case measure => simp [intOf]; omega
            case rel => exact ⟨i + 1, l', true, by omega, by go_num, ⟨HI3.out⟩, ⟨HX3.out⟩, ⟨pw_below_drewN HB3.out nq⟩⟩
          · have hp_ : 0 < l'.length := List.length_pos_iff.2 hnil
            have HNIL := Aside0.mk hnil
            have HP := Aside0.mk hp_
            clear hnil hp_
            go_wp2_with (first
              | (go_at_call 61; (with_reducible refine (M1.out _ HI.out).mono ?_); rintro e w1 ⟨rfl, hi, hW⟩; have HI1 := Aside0.mk hi; have HX1 := Aside0.mk (IsX.wr HX.out hW (Ne.symm NE.out)); have HB1 := Aside0.mk (below_wr HBr.out hW G.out); have SZ1 := Aside0.mk hW.size; clear hi hW)
              | (go_at_call 62; (with_reducible refine (M2.out _ HX1.out HB1.out).mono ?_); rintro e w3 ⟨rfl, hx, hW⟩; have HX3 := Aside0.mk hx; have HI3 := Aside0.mk (IsR.wr HI1.out HX1.out hW NE.out); have HB3 := Aside0.mk (below_wr HB1.out hW GX.out); clear hx hW; obtain ⟨at_, hat, hl_, Ax, cx, k1, k2, k3⟩ := HX3.out; have d0 := blk_cell k1 0; have d1 := blk_cell k1 1; have d2 := blk_cell k1 2; replace d0 : w3.cell? ⟨gx, 0, none⟩ = some (.slice Ax l0.length cx) := d0; replace d1 : w3.cell? ⟨gx, 1, none⟩ = some (.int .i64 (at_ : Int)) := d1; replace d2 : w3.cell? ⟨gx, 2, none⟩ = some (.bool true) := d2; have hll := Aside0.mk (show l'.length = l0.length - at_ by rw [hl_, List.length_drop]); have HAT := Aside0.mk hat; clear k1 k2 k3 hl_; have q4 : decide ((at_ : Int) < (l0.length : Int)) = true := (by have := hll.out; have := HP.out; first | exact decide_eq_true (by omega) | exact decide_eq_false (by omega)); have q5 : decide (at_ < l0.length) = true := (by have := hll.out; have := HP.out; first | exact decide_eq_true (by omega) | exact decide_eq_false (by omega)); clear hat)
              )
            have DD := Aside0.mk (fun W h => done_any g l' true W h)
            rw [show doneS l' true = 4 from if_pos (Or.inl rfl)] at DD
            have q1 : IntKind.i64.wrap ((l0.length : Int) - (at_ : Int)) = (l0.length : Int) - (at_ : Int) := IntWalk.i64_in _ (by have := HAT.out; omega)
            have q2 : ((l'.length : Int) != (l0.length : Int) - (at_ : Int)) = false := by rw [bne_eq_false_iff_eq]; have := hll.out; have := HAT.out; omega
            go_quiet ((first | (go_at_call 67; exact Calls.quiet_of_same ((left_of g l' true _ (IsR.drewN HI3.out _)).mono fun _ _ h => ⟨h.1, h.2.symm⟩)) | (go_at_call 68; exact Calls.quiet_of_same ((DD.out _ (IsR.drewN HI3.out _)).mono fun _ _ h => ⟨h.1, h.2.symm⟩))))
            clear q1 q2 q4 q5 d0 d1 d2
            go_wp2
            go_roundw
            case measure => simp [intOf]; omega
            case rel => exact ⟨i + 1, l', true, by omega, by go_num, ⟨HI3.out⟩, ⟨HX3.out⟩, ⟨pw_below_drewN HB3.out nq⟩⟩
        | false =>
          by_cases hnil : l' = []
          · have hp_ : l'.length = 0 := by rw [hnil]; rfl
            have HNIL := Aside0.mk hnil
            have HP := Aside0.mk hp_
            clear hnil hp_
            go_wp2_with (first
              | (go_at_call 61; (with_reducible refine (M1.out _ HI.out).mono ?_); rintro e w1 ⟨rfl, hi, hW⟩; have HI1 := Aside0.mk hi; have HX1 := Aside0.mk (IsX.wr HX.out hW (Ne.symm NE.out)); have HB1 := Aside0.mk (below_wr HBr.out hW G.out); have SZ1 := Aside0.mk hW.size; clear hi hW)
              | (go_at_call 62; (with_reducible refine (M2.out _ HX1.out HB1.out).mono ?_); rintro e w3 ⟨rfl, hx, hW⟩; have HX3 := Aside0.mk hx; have HI3 := Aside0.mk (IsR.wr HI1.out HX1.out hW NE.out); have HB3 := Aside0.mk (below_wr HB1.out hW GX.out); clear hx hW; obtain ⟨at_, hat, hl_, Ax, cx, k1, k2, k3⟩ := HX3.out; have d0 := blk_cell k1 0; have d1 := blk_cell k1 1; have d2 := blk_cell k1 2; replace d0 : w3.cell? ⟨gx, 0, none⟩ = some (.slice Ax l0.length cx) := d0; replace d1 : w3.cell? ⟨gx, 1, none⟩ = some (.int .i64 (at_ : Int)) := d1; replace d2 : w3.cell? ⟨gx, 2, none⟩ = some (.bool false) := d2; have hll := Aside0.mk (show l'.length = l0.length - at_ by rw [hl_, List.length_drop]); have HAT := Aside0.mk hat; clear k1 k2 k3 hl_; have q4 : decide ((at_ : Int) < (l0.length : Int)) = false := (by have := hll.out; have := HP.out; first | exact decide_eq_true (by omega) | exact decide_eq_false (by omega)); have q5 : decide (at_ < l0.length) = false := (by have := hll.out; have := HP.out; first | exact decide_eq_true (by omega) | exact decide_eq_false (by omega)); clear hat)
              )
            have DD := Aside0.mk (fun W h => done_any g l' false W h)
            rw [show doneS l' false = 0 from if_neg (by rintro (h | h); cases h; exact h HNIL.out)] at DD
            have q1 : IntKind.i64.wrap ((l0.length : Int) - (at_ : Int)) = (l0.length : Int) - (at_ : Int) := IntWalk.i64_in _ (by have := HAT.out; omega)
            have q2 : ((l'.length : Int) != (l0.length : Int) - (at_ : Int)) = false := by rw [bne_eq_false_iff_eq]; have := hll.out; have := HAT.out; omega
            go_quiet ((first | (go_at_call 67; exact Calls.quiet_of_same ((left_of g l' false _ (IsR.drewN HI3.out _)).mono fun _ _ h => ⟨h.1, h.2.symm⟩)) | (go_at_call 68; exact Calls.quiet_of_same ((DD.out _ (IsR.drewN HI3.out _)).mono fun _ _ h => ⟨h.1, h.2.symm⟩))))
            clear q1 q2 q4 q5 d0 d1 d2
            go_wp2
            go_roundw
            case measure => simp [intOf]; omega
            case rel => exact ⟨i + 1, l', false, by omega, by go_num, ⟨HI3.out⟩, ⟨HX3.out⟩, ⟨pw_below_drewN HB3.out nq⟩⟩
          · have hp_ : 0 < l'.length := List.length_pos_iff.2 hnil
            have HNIL := Aside0.mk hnil
            have HP := Aside0.mk hp_
            clear hnil hp_
            go_wp2_with (first
              | (go_at_call 61; (with_reducible refine (M1.out _ HI.out).mono ?_); rintro e w1 ⟨rfl, hi, hW⟩; have HI1 := Aside0.mk hi; have HX1 := Aside0.mk (IsX.wr HX.out hW (Ne.symm NE.out)); have HB1 := Aside0.mk (below_wr HBr.out hW G.out); have SZ1 := Aside0.mk hW.size; clear hi hW)
              | (go_at_call 62; (with_reducible refine (M2.out _ HX1.out HB1.out).mono ?_); rintro e w3 ⟨rfl, hx, hW⟩; have HX3 := Aside0.mk hx; have HI3 := Aside0.mk (IsR.wr HI1.out HX1.out hW NE.out); have HB3 := Aside0.mk (below_wr HB1.out hW GX.out); clear hx hW; obtain ⟨at_, hat, hl_, Ax, cx, k1, k2, k3⟩ := HX3.out; have d0 := blk_cell k1 0; have d1 := blk_cell k1 1; have d2 := blk_cell k1 2; replace d0 : w3.cell? ⟨gx, 0, none⟩ = some (.slice Ax l0.length cx) := d0; replace d1 : w3.cell? ⟨gx, 1, none⟩ = some (.int .i64 (at_ : Int)) := d1; replace d2 : w3.cell? ⟨gx, 2, none⟩ = some (.bool false) := d2; have hll := Aside0.mk (show l'.length = l0.length - at_ by rw [hl_, List.length_drop]); have HAT := Aside0.mk hat; clear k1 k2 k3 hl_; have q4 : decide ((at_ : Int) < (l0.length : Int)) = true := (by have := hll.out; have := HP.out; first | exact decide_eq_true (by omega) | exact decide_eq_false (by omega)); have q5 : decide (at_ < l0.length) = true := (by have := hll.out; have := HP.out; first | exact decide_eq_true (by omega) | exact decide_eq_false (by omega)); clear hat)
              )
            have DD := Aside0.mk (fun W h => done_any g l' false W h)
            rw [show doneS l' false = 4 from if_pos (Or.inr HNIL.out)] at DD
            have q1 : IntKind.i64.wrap ((l0.length : Int) - (at_ : Int)) = (l0.length : Int) - (at_ : Int) := IntWalk.i64_in _ (by have := HAT.out; omega)
            have q2 : ((l'.length : Int) != (l0.length : Int) - (at_ : Int)) = false := by rw [bne_eq_false_iff_eq]; have := hll.out; have := HAT.out; omega
            go_quiet ((first | (go_at_call 67; exact Calls.quiet_of_same ((left_of g l' false _ (IsR.drewN HI3.out _)).mono fun _ _ h => ⟨h.1, h.2.symm⟩)) | (go_at_call 68; exact Calls.quiet_of_same ((DD.out _ (IsR.drewN HI3.out _)).mono fun _ _ h => ⟨h.1, h.2.symm⟩))))
            clear q1 q2 q4 q5 d0 d1 d2
            go_wp2
            go_roundw
            case measure => simp [intOf]; omega
            case rel => exact ⟨i + 1, l', false, by omega, by go_num, ⟨HI3.out⟩, ⟨HX3.out⟩, ⟨pw_below_drewN HB3.out nq⟩⟩
      by_cases hs3 : sc = 3
      · -- 3
        obtain ⟨r, hr⟩ : ∃ r, boolS l bad = r := ⟨_, rfl⟩
        have M1 := Aside0.mk (fun W h => bool_any g l bad W h hok)
        have M2 := Aside0.mk (fun W h hB => xbool_any w gx W l0 l bad h hB hob)
        rw [hr] at M1 M2
        clear hr
        obtain ⟨n, l', bad'⟩ := r
        have e0_ : ((3 : Int) == 0) = false := by decide
        have e1_ : ((3 : Int) == 1) = false := by decide
        have e2_ : ((3 : Int) == 2) = false := by decide
        have e3_ : ((3 : Int) == 3) = true := by decide
        subst hs3
        cases bad' with
        | true =>
          by_cases hnil : l' = []
          · have hp_ : l'.length = 0 := by rw [hnil]; rfl
            have HNIL := Aside0.mk hnil
            have HP := Aside0.mk hp_
            clear hnil hp_
            go_wp2_with (first
              | (go_at_call 63; (with_reducible refine (M1.out _ HI.out).mono ?_); rintro e w1 ⟨rfl, hi, hW⟩; have HI1 := Aside0.mk hi; have HX1 := Aside0.mk (IsX.wr HX.out hW (Ne.symm NE.out)); have HB1 := Aside0.mk (below_wr HBr.out hW G.out); have SZ1 := Aside0.mk hW.size; clear hi hW)
              | (go_at_call 64; (with_reducible refine (M2.out _ HX1.out HB1.out).mono ?_); rintro e w3 ⟨rfl, hx, hW⟩; have HX3 := Aside0.mk hx; have HI3 := Aside0.mk (IsR.wr HI1.out HX1.out hW NE.out); have HB3 := Aside0.mk (below_wr HB1.out hW GX.out); clear hx hW; obtain ⟨at_, hat, hl_, Ax, cx, k1, k2, k3⟩ := HX3.out; have d0 := blk_cell k1 0; have d1 := blk_cell k1 1; have d2 := blk_cell k1 2; replace d0 : w3.cell? ⟨gx, 0, none⟩ = some (.slice Ax l0.length cx) := d0; replace d1 : w3.cell? ⟨gx, 1, none⟩ = some (.int .i64 (at_ : Int)) := d1; replace d2 : w3.cell? ⟨gx, 2, none⟩ = some (.bool true) := d2; have hll := Aside0.mk (show l'.length = l0.length - at_ by rw [hl_, List.length_drop]); have HAT := Aside0.mk hat; clear k1 k2 k3 hl_; have q4 : decide ((at_ : Int) < (l0.length : Int)) = false := (by have := hll.out; have := HP.out; first | exact decide_eq_true (by omega) | exact decide_eq_false (by omega)); have q5 : decide (at_ < l0.length) = false := (by have := hll.out; have := HP.out; first | exact decide_eq_true (by omega) | exact decide_eq_false (by omega)); clear hat)
              )
            have DD := Aside0.mk (fun W h => done_any g l' true W h)
            rw [show doneS l' true = 4 from if_pos (Or.inl rfl)] at DD
            have q1 : IntKind.i64.wrap ((l0.length : Int) - (at_ : Int)) = (l0.length : Int) - (at_ : Int) := IntWalk.i64_in _ (by have := HAT.out; omega)
            have q2 : ((l'.length : Int) != (l0.length : Int) - (at_ : Int)) = false := by rw [bne_eq_false_iff_eq]; have := hll.out; have := HAT.out; omega
            go_quiet ((first | (go_at_call 67; exact Calls.quiet_of_same ((left_of g l' true _ (IsR.drewN HI3.out _)).mono fun _ _ h => ⟨h.1, h.2.symm⟩)) | (go_at_call 68; exact Calls.quiet_of_same ((DD.out _ (IsR.drewN HI3.out _)).mono fun _ _ h => ⟨h.1, h.2.symm⟩))))
            clear q1 q2 q4 q5 d0 d1 d2
            go_wp2
            go_roundw
            case measure => simp [intOf]; omega
            case rel => exact ⟨i + 1, l', true, by omega, by go_num, ⟨HI3.out⟩, ⟨HX3.out⟩, ⟨pw_below_drewN HB3.out nq⟩⟩
          · have hp_ : 0 < l'.length := List.length_pos_iff.2 hnil
            have HNIL := Aside0.mk hnil
            have HP := Aside0.mk hp_
            clear hnil hp_
            go_wp2_with (first
              | (go_at_call 63; (with_reducible refine (M1.out _ HI.out).mono ?_); rintro e w1 ⟨rfl, hi, hW⟩; have HI1 := Aside0.mk hi; have HX1 := Aside0.mk (IsX.wr HX.out hW (Ne.symm NE.out)); have HB1 := Aside0.mk (below_wr HBr.out hW G.out); have SZ1 := Aside0.mk hW.size; clear hi hW)
              | (go_at_call 64; (with_reducible refine (M2.out _ HX1.out HB1.out).mono ?_); rintro e w3 ⟨rfl, hx, hW⟩; have HX3 := Aside0.mk hx; have HI3 := Aside0.mk (IsR.wr HI1.out HX1.out hW NE.out); have HB3 := Aside0.mk (below_wr HB1.out hW GX.out); clear hx hW; obtain ⟨at_, hat, hl_, Ax, cx, k1, k2, k3⟩ := HX3.out; have d0 := blk_cell k1 0; have d1 := blk_cell k1 1; have d2 := blk_cell k1 2; replace d0 : w3.cell? ⟨gx, 0, none⟩ = some (.slice Ax l0.length cx) := d0; replace d1 : w3.cell? ⟨gx, 1, none⟩ = some (.int .i64 (at_ : Int)) := d1; replace d2 : w3.cell? ⟨gx, 2, none⟩ = some (.bool true) := d2; have hll := Aside0.mk (show l'.length = l0.length - at_ by rw [hl_, List.length_drop]); have HAT := Aside0.mk hat; clear k1 k2 k3 hl_; have q4 : decide ((at_ : Int) < (l0.length : Int)) = true := (by have := hll.out; have := HP.out; first | exact decide_eq_true (by omega) | exact decide_eq_false (by omega)); have q5 : decide (at_ < l0.length) = true := (by have := hll.out; have := HP.out; first | exact decide_eq_true (by omega) | exact decide_eq_false (by omega)); clear hat)
              )
            have DD := Aside0.mk (fun W h => done_any g l' true W h)
            rw [show doneS l' true = 4 from if_pos (Or.inl rfl)] at DD
            have q1 : IntKind.i64.wrap ((l0.length : Int) - (at_ : Int)) = (l0.length : Int) - (at_ : Int) := IntWalk.i64_in _ (by have := HAT.out; omega)
            have q2 : ((l'.length : Int) != (l0.length : Int) - (at_ : Int)) = false := by rw [bne_eq_false_iff_eq]; have := hll.out; have := HAT.out; omega
            go_quiet ((first | (go_at_call 67; exact Calls.quiet_of_same ((left_of g l' true _ (IsR.drewN HI3.out _)).mono fun _ _ h => ⟨h.1, h.2.symm⟩)) | (go_at_call 68; exact Calls.quiet_of_same ((DD.out _ (IsR.drewN HI3.out _)).mono fun _ _ h => ⟨h.1, h.2.symm⟩))))
            clear q1 q2 q4 q5 d0 d1 d2
            go_wp2
            go_roundw
            case measure => simp [intOf]; omega
            case rel => exact ⟨i + 1, l', true, by omega, by go_num, ⟨HI3.out⟩, ⟨HX3.out⟩, ⟨pw_below_drewN HB3.out nq⟩⟩
        | false =>
          by_cases hnil : l' = []
          · have hp_ : l'.length = 0 := by rw [hnil]; rfl
            have HNIL := Aside0.mk hnil
            have HP := Aside0.mk hp_
            clear hnil hp_
            go_wp2_with (first
              | (go_at_call 63; (with_reducible refine (M1.out _ HI.out).mono ?_); rintro e w1 ⟨rfl, hi, hW⟩; have HI1 := Aside0.mk hi; have HX1 := Aside0.mk (IsX.wr HX.out hW (Ne.symm NE.out)); have HB1 := Aside0.mk (below_wr HBr.out hW G.out); have SZ1 := Aside0.mk hW.size; clear hi hW)
              | (go_at_call 64; (with_reducible refine (M2.out _ HX1.out HB1.out).mono ?_); rintro e w3 ⟨rfl, hx, hW⟩; have HX3 := Aside0.mk hx; have HI3 := Aside0.mk (IsR.wr HI1.out HX1.out hW NE.out); have HB3 := Aside0.mk (below_wr HB1.out hW GX.out); clear hx hW; obtain ⟨at_, hat, hl_, Ax, cx, k1, k2, k3⟩ := HX3.out; have d0 := blk_cell k1 0; have d1 := blk_cell k1 1; have d2 := blk_cell k1 2; replace d0 : w3.cell? ⟨gx, 0, none⟩ = some (.slice Ax l0.length cx) := d0; replace d1 : w3.cell? ⟨gx, 1, none⟩ = some (.int .i64 (at_ : Int)) := d1; replace d2 : w3.cell? ⟨gx, 2, none⟩ = some (.bool false) := d2; have hll := Aside0.mk (show l'.length = l0.length - at_ by rw [hl_, List.length_drop]); have HAT := Aside0.mk hat; clear k1 k2 k3 hl_; have q4 : decide ((at_ : Int) < (l0.length : Int)) = false := (by have := hll.out; have := HP.out; first | exact decide_eq_true (by omega) | exact decide_eq_false (by omega)); have q5 : decide (at_ < l0.length) = false := (by have := hll.out; have := HP.out; first | exact decide_eq_true (by omega) | exact decide_eq_false (by omega)); clear hat)
              )
            have DD := Aside0.mk (fun W h => done_any g l' false W h)
            rw [show doneS l' false = 0 from if_neg (by rintro (h | h); cases h; exact h HNIL.out)] at DD
            have q1 : IntKind.i64.wrap ((l0.length : Int) - (at_ : Int)) = (l0.length : Int) - (at_ : Int) := IntWalk.i64_in _ (by have := HAT.out; omega)
            have q2 : ((l'.length : Int) != (l0.length : Int) - (at_ : Int)) = false := by rw [bne_eq_false_iff_eq]; have := hll.out; have := HAT.out; omega
            go_quiet ((first | (go_at_call 67; exact Calls.quiet_of_same ((left_of g l' false _ (IsR.drewN HI3.out _)).mono fun _ _ h => ⟨h.1, h.2.symm⟩)) | (go_at_call 68; exact Calls.quiet_of_same ((DD.out _ (IsR.drewN HI3.out _)).mono fun _ _ h => ⟨h.1, h.2.symm⟩))))
            clear q1 q2 q4 q5 d0 d1 d2
            go_wp2
            go_roundw
            case measure => simp [intOf]; omega
            case rel => exact ⟨i + 1, l', false, by omega, by go_num, ⟨HI3.out⟩, ⟨HX3.out⟩, ⟨pw_below_drewN HB3.out nq⟩⟩
          · have hp_ : 0 < l'.length := List.length_pos_iff.2 hnil
            have HNIL := Aside0.mk hnil
            have HP := Aside0.mk hp_
            clear hnil hp_
            go_wp2_with (first
              | (go_at_call 63; (with_reducible refine (M1.out _ HI.out).mono ?_); rintro e w1 ⟨rfl, hi, hW⟩; have HI1 := Aside0.mk hi; have HX1 := Aside0.mk (IsX.wr HX.out hW (Ne.symm NE.out)); have HB1 := Aside0.mk (below_wr HBr.out hW G.out); have SZ1 := Aside0.mk hW.size; clear hi hW)
              | (go_at_call 64; (with_reducible refine (M2.out _ HX1.out HB1.out).mono ?_); rintro e w3 ⟨rfl, hx, hW⟩; have HX3 := Aside0.mk hx; have HI3 := Aside0.mk (IsR.wr HI1.out HX1.out hW NE.out); have HB3 := Aside0.mk (below_wr HB1.out hW GX.out); clear hx hW; obtain ⟨at_, hat, hl_, Ax, cx, k1, k2, k3⟩ := HX3.out; have d0 := blk_cell k1 0; have d1 := blk_cell k1 1; have d2 := blk_cell k1 2; replace d0 : w3.cell? ⟨gx, 0, none⟩ = some (.slice Ax l0.length cx) := d0; replace d1 : w3.cell? ⟨gx, 1, none⟩ = some (.int .i64 (at_ : Int)) := d1; replace d2 : w3.cell? ⟨gx, 2, none⟩ = some (.bool false) := d2; have hll := Aside0.mk (show l'.length = l0.length - at_ by rw [hl_, List.length_drop]); have HAT := Aside0.mk hat; clear k1 k2 k3 hl_; have q4 : decide ((at_ : Int) < (l0.length : Int)) = true := (by have := hll.out; have := HP.out; first | exact decide_eq_true (by omega) | exact decide_eq_false (by omega)); have q5 : decide (at_ < l0.length) = true := (by have := hll.out; have := HP.out; first | exact decide_eq_true (by omega) | exact decide_eq_false (by omega)); clear hat)
              )
            have DD := Aside0.mk (fun W h => done_any g l' false W h)
            rw [show doneS l' false = 4 from if_pos (Or.inr HNIL.out)] at DD
            have q1 : IntKind.i64.wrap ((l0.length : Int) - (at_ : Int)) = (l0.length : Int) - (at_ : Int) := IntWalk.i64_in _ (by have := HAT.out; omega)
            have q2 : ((l'.length : Int) != (l0.length : Int) - (at_ : Int)) = false := by rw [bne_eq_false_iff_eq]; have := hll.out; have := HAT.out; omega
            go_quiet ((first | (go_at_call 67; exact Calls.quiet_of_same ((left_of g l' false _ (IsR.drewN HI3.out _)).mono fun _ _ h => ⟨h.1, h.2.symm⟩)) | (go_at_call 68; exact Calls.quiet_of_same ((DD.out _ (IsR.drewN HI3.out _)).mono fun _ _ h => ⟨h.1, h.2.symm⟩))))
            clear q1 q2 q4 q5 d0 d1 d2
            go_wp2
            go_roundw
            case measure => simp [intOf]; omega
            case rel => exact ⟨i + 1, l', false, by omega, by go_num, ⟨HI3.out⟩, ⟨HX3.out⟩, ⟨pw_below_drewN HB3.out nq⟩⟩
      by_cases hs4 : sc = 4
      · -- 4
        obtain ⟨r, hr⟩ : ∃ r, listS l bad a2 = r := ⟨_, rfl⟩
        have M1 := Aside0.mk (fun W h => list_any g l bad a2 W h hok hmost)
        have M2 := Aside0.mk (fun W h hB => xlist_any w gx W l0 l bad a2 hmost h hB hob)
        rw [hr] at M1 M2
        clear hr
        obtain ⟨n, l', bad'⟩ := r
        have e0_ : ((4 : Int) == 0) = false := by decide
        have e1_ : ((4 : Int) == 1) = false := by decide
        have e2_ : ((4 : Int) == 2) = false := by decide
        have e3_ : ((4 : Int) == 3) = false := by decide
        have e4_ : ((4 : Int) == 4) = true := by decide
        subst hs4
        cases bad' with
        | true =>
          by_cases hnil : l' = []
          · have hp_ : l'.length = 0 := by rw [hnil]; rfl
            have HNIL := Aside0.mk hnil
            have HP := Aside0.mk hp_
            clear hnil hp_
            go_wp2_with (first
              | (go_at_call 65; (with_reducible refine (M1.out _ HI.out).mono ?_); rintro e w1 ⟨rfl, hi, hW⟩; have HI1 := Aside0.mk hi; have HX1 := Aside0.mk (IsX.wr HX.out hW (Ne.symm NE.out)); have HB1 := Aside0.mk (below_wr HBr.out hW G.out); have SZ1 := Aside0.mk hW.size; clear hi hW)
              | (go_at_call 66; (with_reducible refine (M2.out _ HX1.out HB1.out).mono ?_); rintro e w3 ⟨rfl, hx, hW⟩; have HX3 := Aside0.mk hx; have HI3 := Aside0.mk (IsR.wr HI1.out HX1.out hW NE.out); have HB3 := Aside0.mk (below_wr HB1.out hW GX.out); clear hx hW; obtain ⟨at_, hat, hl_, Ax, cx, k1, k2, k3⟩ := HX3.out; have d0 := blk_cell k1 0; have d1 := blk_cell k1 1; have d2 := blk_cell k1 2; replace d0 : w3.cell? ⟨gx, 0, none⟩ = some (.slice Ax l0.length cx) := d0; replace d1 : w3.cell? ⟨gx, 1, none⟩ = some (.int .i64 (at_ : Int)) := d1; replace d2 : w3.cell? ⟨gx, 2, none⟩ = some (.bool true) := d2; have hll := Aside0.mk (show l'.length = l0.length - at_ by rw [hl_, List.length_drop]); have HAT := Aside0.mk hat; clear k1 k2 k3 hl_; have q4 : decide ((at_ : Int) < (l0.length : Int)) = false := (by have := hll.out; have := HP.out; first | exact decide_eq_true (by omega) | exact decide_eq_false (by omega)); have q5 : decide (at_ < l0.length) = false := (by have := hll.out; have := HP.out; first | exact decide_eq_true (by omega) | exact decide_eq_false (by omega)); clear hat)
              )
            have DD := Aside0.mk (fun W h => done_any g l' true W h)
            rw [show doneS l' true = 4 from if_pos (Or.inl rfl)] at DD
            have q1 : IntKind.i64.wrap ((l0.length : Int) - (at_ : Int)) = (l0.length : Int) - (at_ : Int) := IntWalk.i64_in _ (by have := HAT.out; omega)
            have q2 : ((l'.length : Int) != (l0.length : Int) - (at_ : Int)) = false := by rw [bne_eq_false_iff_eq]; have := hll.out; have := HAT.out; omega
            go_quiet ((first | (go_at_call 67; exact Calls.quiet_of_same ((left_of g l' true _ (IsR.drewN HI3.out _)).mono fun _ _ h => ⟨h.1, h.2.symm⟩)) | (go_at_call 68; exact Calls.quiet_of_same ((DD.out _ (IsR.drewN HI3.out _)).mono fun _ _ h => ⟨h.1, h.2.symm⟩))))
            clear q1 q2 q4 q5 d0 d1 d2
            go_wp2
            go_roundw
            case measure => simp [intOf]; omega
            case rel => exact ⟨i + 1, l', true, by omega, by go_num, ⟨HI3.out⟩, ⟨HX3.out⟩, ⟨pw_below_drewN HB3.out nq⟩⟩
          · have hp_ : 0 < l'.length := List.length_pos_iff.2 hnil
            have HNIL := Aside0.mk hnil
            have HP := Aside0.mk hp_
            clear hnil hp_
            go_wp2_with (first
              | (go_at_call 65; (with_reducible refine (M1.out _ HI.out).mono ?_); rintro e w1 ⟨rfl, hi, hW⟩; have HI1 := Aside0.mk hi; have HX1 := Aside0.mk (IsX.wr HX.out hW (Ne.symm NE.out)); have HB1 := Aside0.mk (below_wr HBr.out hW G.out); have SZ1 := Aside0.mk hW.size; clear hi hW)
              | (go_at_call 66; (with_reducible refine (M2.out _ HX1.out HB1.out).mono ?_); rintro e w3 ⟨rfl, hx, hW⟩; have HX3 := Aside0.mk hx; have HI3 := Aside0.mk (IsR.wr HI1.out HX1.out hW NE.out); have HB3 := Aside0.mk (below_wr HB1.out hW GX.out); clear hx hW; obtain ⟨at_, hat, hl_, Ax, cx, k1, k2, k3⟩ := HX3.out; have d0 := blk_cell k1 0; have d1 := blk_cell k1 1; have d2 := blk_cell k1 2; replace d0 : w3.cell? ⟨gx, 0, none⟩ = some (.slice Ax l0.length cx) := d0; replace d1 : w3.cell? ⟨gx, 1, none⟩ = some (.int .i64 (at_ : Int)) := d1; replace d2 : w3.cell? ⟨gx, 2, none⟩ = some (.bool true) := d2; have hll := Aside0.mk (show l'.length = l0.length - at_ by rw [hl_, List.length_drop]); have HAT := Aside0.mk hat; clear k1 k2 k3 hl_; have q4 : decide ((at_ : Int) < (l0.length : Int)) = true := (by have := hll.out; have := HP.out; first | exact decide_eq_true (by omega) | exact decide_eq_false (by omega)); have q5 : decide (at_ < l0.length) = true := (by have := hll.out; have := HP.out; first | exact decide_eq_true (by omega) | exact decide_eq_false (by omega)); clear hat)
              )
            have DD := Aside0.mk (fun W h => done_any g l' true W h)
            rw [show doneS l' true = 4 from if_pos (Or.inl rfl)] at DD
            have q1 : IntKind.i64.wrap ((l0.length : Int) - (at_ : Int)) = (l0.length : Int) - (at_ : Int) := IntWalk.i64_in _ (by have := HAT.out; omega)
            have q2 : ((l'.length : Int) != (l0.length : Int) - (at_ : Int)) = false := by rw [bne_eq_false_iff_eq]; have := hll.out; have := HAT.out; omega
            go_quiet ((first | (go_at_call 67; exact Calls.quiet_of_same ((left_of g l' true _ (IsR.drewN HI3.out _)).mono fun _ _ h => ⟨h.1, h.2.symm⟩)) | (go_at_call 68; exact Calls.quiet_of_same ((DD.out _ (IsR.drewN HI3.out _)).mono fun _ _ h => ⟨h.1, h.2.symm⟩))))
            clear q1 q2 q4 q5 d0 d1 d2
            go_wp2
            go_roundw
            case measure => simp [intOf]; omega
            case rel => exact ⟨i + 1, l', true, by omega, by go_num, ⟨HI3.out⟩, ⟨HX3.out⟩, ⟨pw_below_drewN HB3.out nq⟩⟩
        | false =>
          by_cases hnil : l' = []
          · have hp_ : l'.length = 0 := by rw [hnil]; rfl
            have HNIL := Aside0.mk hnil
            have HP := Aside0.mk hp_
            clear hnil hp_
            go_wp2_with (first
              | (go_at_call 65; (with_reducible refine (M1.out _ HI.out).mono ?_); rintro e w1 ⟨rfl, hi, hW⟩; have HI1 := Aside0.mk hi; have HX1 := Aside0.mk (IsX.wr HX.out hW (Ne.symm NE.out)); have HB1 := Aside0.mk (below_wr HBr.out hW G.out); have SZ1 := Aside0.mk hW.size; clear hi hW)
              | (go_at_call 66; (with_reducible refine (M2.out _ HX1.out HB1.out).mono ?_); rintro e w3 ⟨rfl, hx, hW⟩; have HX3 := Aside0.mk hx; have HI3 := Aside0.mk (IsR.wr HI1.out HX1.out hW NE.out); have HB3 := Aside0.mk (below_wr HB1.out hW GX.out); clear hx hW; obtain ⟨at_, hat, hl_, Ax, cx, k1, k2, k3⟩ := HX3.out; have d0 := blk_cell k1 0; have d1 := blk_cell k1 1; have d2 := blk_cell k1 2; replace d0 : w3.cell? ⟨gx, 0, none⟩ = some (.slice Ax l0.length cx) := d0; replace d1 : w3.cell? ⟨gx, 1, none⟩ = some (.int .i64 (at_ : Int)) := d1; replace d2 : w3.cell? ⟨gx, 2, none⟩ = some (.bool false) := d2; have hll := Aside0.mk (show l'.length = l0.length - at_ by rw [hl_, List.length_drop]); have HAT := Aside0.mk hat; clear k1 k2 k3 hl_; have q4 : decide ((at_ : Int) < (l0.length : Int)) = false := (by have := hll.out; have := HP.out; first | exact decide_eq_true (by omega) | exact decide_eq_false (by omega)); have q5 : decide (at_ < l0.length) = false := (by have := hll.out; have := HP.out; first | exact decide_eq_true (by omega) | exact decide_eq_false (by omega)); clear hat)
              )
            have DD := Aside0.mk (fun W h => done_any g l' false W h)
            rw [show doneS l' false = 0 from if_neg (by rintro (h | h); cases h; exact h HNIL.out)] at DD
            have q1 : IntKind.i64.wrap ((l0.length : Int) - (at_ : Int)) = (l0.length : Int) - (at_ : Int) := IntWalk.i64_in _ (by have := HAT.out; omega)
            have q2 : ((l'.length : Int) != (l0.length : Int) - (at_ : Int)) = false := by rw [bne_eq_false_iff_eq]; have := hll.out; have := HAT.out; omega
            go_quiet ((first | (go_at_call 67; exact Calls.quiet_of_same ((left_of g l' false _ (IsR.drewN HI3.out _)).mono fun _ _ h => ⟨h.1, h.2.symm⟩)) | (go_at_call 68; exact Calls.quiet_of_same ((DD.out _ (IsR.drewN HI3.out _)).mono fun _ _ h => ⟨h.1, h.2.symm⟩))))
            clear q1 q2 q4 q5 d0 d1 d2
            go_wp2
            go_roundw
            case measure => simp [intOf]; omega
            case rel => exact ⟨i + 1, l', false, by omega, by go_num, ⟨HI3.out⟩, ⟨HX3.out⟩, ⟨pw_below_drewN HB3.out nq⟩⟩
          · have hp_ : 0 < l'.length := List.length_pos_iff.2 hnil
            have HNIL := Aside0.mk hnil
            have HP := Aside0.mk hp_
            clear hnil hp_
            go_wp2_with (first
              | (go_at_call 65; (with_reducible refine (M1.out _ HI.out).mono ?_); rintro e w1 ⟨rfl, hi, hW⟩; have HI1 := Aside0.mk hi; have HX1 := Aside0.mk (IsX.wr HX.out hW (Ne.symm NE.out)); have HB1 := Aside0.mk (below_wr HBr.out hW G.out); have SZ1 := Aside0.mk hW.size; clear hi hW)
              | (go_at_call 66; (with_reducible refine (M2.out _ HX1.out HB1.out).mono ?_); rintro e w3 ⟨rfl, hx, hW⟩; have HX3 := Aside0.mk hx; have HI3 := Aside0.mk (IsR.wr HI1.out HX1.out hW NE.out); have HB3 := Aside0.mk (below_wr HB1.out hW GX.out); clear hx hW; obtain ⟨at_, hat, hl_, Ax, cx, k1, k2, k3⟩ := HX3.out; have d0 := blk_cell k1 0; have d1 := blk_cell k1 1; have d2 := blk_cell k1 2; replace d0 : w3.cell? ⟨gx, 0, none⟩ = some (.slice Ax l0.length cx) := d0; replace d1 : w3.cell? ⟨gx, 1, none⟩ = some (.int .i64 (at_ : Int)) := d1; replace d2 : w3.cell? ⟨gx, 2, none⟩ = some (.bool false) := d2; have hll := Aside0.mk (show l'.length = l0.length - at_ by rw [hl_, List.length_drop]); have HAT := Aside0.mk hat; clear k1 k2 k3 hl_; have q4 : decide ((at_ : Int) < (l0.length : Int)) = true := (by have := hll.out; have := HP.out; first | exact decide_eq_true (by omega) | exact decide_eq_false (by omega)); have q5 : decide (at_ < l0.length) = true := (by have := hll.out; have := HP.out; first | exact decide_eq_true (by omega) | exact decide_eq_false (by omega)); clear hat)
              )
            have DD := Aside0.mk (fun W h => done_any g l' false W h)
            rw [show doneS l' false = 4 from if_pos (Or.inr HNIL.out)] at DD
            have q1 : IntKind.i64.wrap ((l0.length : Int) - (at_ : Int)) = (l0.length : Int) - (at_ : Int) := IntWalk.i64_in _ (by have := HAT.out; omega)
            have q2 : ((l'.length : Int) != (l0.length : Int) - (at_ : Int)) = false := by rw [bne_eq_false_iff_eq]; have := hll.out; have := HAT.out; omega
            go_quiet ((first | (go_at_call 67; exact Calls.quiet_of_same ((left_of g l' false _ (IsR.drewN HI3.out _)).mono fun _ _ h => ⟨h.1, h.2.symm⟩)) | (go_at_call 68; exact Calls.quiet_of_same ((DD.out _ (IsR.drewN HI3.out _)).mono fun _ _ h => ⟨h.1, h.2.symm⟩))))
            clear q1 q2 q4 q5 d0 d1 d2
            go_wp2
            go_roundw
            case measure => simp [intOf]; omega
            case rel => exact ⟨i + 1, l', false, by omega, by go_num, ⟨HI3.out⟩, ⟨HX3.out⟩, ⟨pw_below_drewN HB3.out nq⟩⟩
      · -- any other
        have e0_ : (sc == 0) = false := by rw [beq_eq_false_iff_ne]; exact hs0
        have e1_ : (sc == 1) = false := by rw [beq_eq_false_iff_ne]; exact hs1
        have e2_ : (sc == 2) = false := by rw [beq_eq_false_iff_ne]; exact hs2
        have e3_ : (sc == 3) = false := by rw [beq_eq_false_iff_ne]; exact hs3
        have e4_ : (sc == 4) = false := by rw [beq_eq_false_iff_ne]; exact hs4
        clear hs0 hs1 hs2 hs3 hs4
        cases bad with
        | true =>
          by_cases hnil : l = []
          · have hp_ : l.length = 0 := by rw [hnil]; rfl
            have HNIL := Aside0.mk hnil
            have HP := Aside0.mk hp_
            clear hnil hp_
            obtain ⟨w3, hw3⟩ : ∃ x, wr = x := ⟨_, rfl⟩
            subst hw3
            have HX3 := HX
            have HI3 := HI
            have HB3 := HBr
            (obtain ⟨at_, hat, hl_, Ax, cx, k1, k2, k3⟩ := HX3.out; have d0 := blk_cell k1 0; have d1 := blk_cell k1 1; have d2 := blk_cell k1 2; replace d0 : wr.cell? ⟨gx, 0, none⟩ = some (.slice Ax l0.length cx) := d0; replace d1 : wr.cell? ⟨gx, 1, none⟩ = some (.int .i64 (at_ : Int)) := d1; replace d2 : wr.cell? ⟨gx, 2, none⟩ = some (.bool true) := d2; have hll := Aside0.mk (show l.length = l0.length - at_ by rw [hl_, List.length_drop]); have HAT := Aside0.mk hat; clear k1 k2 k3 hl_; have q4 : decide ((at_ : Int) < (l0.length : Int)) = false := (by have := hll.out; have := HP.out; first | exact decide_eq_true (by omega) | exact decide_eq_false (by omega)); have q5 : decide (at_ < l0.length) = false := (by have := hll.out; have := HP.out; first | exact decide_eq_true (by omega) | exact decide_eq_false (by omega)); clear hat)
            go_wp2
            have DD := Aside0.mk (fun W h => done_any g l true W h)
            rw [show doneS l true = 4 from if_pos (Or.inl rfl)] at DD
            have q1 : IntKind.i64.wrap ((l0.length : Int) - (at_ : Int)) = (l0.length : Int) - (at_ : Int) := IntWalk.i64_in _ (by have := HAT.out; omega)
            have q2 : ((l.length : Int) != (l0.length : Int) - (at_ : Int)) = false := by rw [bne_eq_false_iff_eq]; have := hll.out; have := HAT.out; omega
            go_quiet ((first | (go_at_call 67; exact Calls.quiet_of_same ((left_of g l true _ (IsR.drewN HI3.out _)).mono fun _ _ h => ⟨h.1, h.2.symm⟩)) | (go_at_call 68; exact Calls.quiet_of_same ((DD.out _ (IsR.drewN HI3.out _)).mono fun _ _ h => ⟨h.1, h.2.symm⟩))))
            clear q1 q2 q4 q5 d0 d1 d2
            go_wp2
            go_roundw
            case measure => simp [intOf]; omega
            case rel => exact ⟨i + 1, l, true, by omega, by go_num, ⟨HI3.out⟩, ⟨HX3.out⟩, ⟨pw_below_drewN HB3.out nq⟩⟩
          · have hp_ : 0 < l.length := List.length_pos_iff.2 hnil
            have HNIL := Aside0.mk hnil
            have HP := Aside0.mk hp_
            clear hnil hp_
            obtain ⟨w3, hw3⟩ : ∃ x, wr = x := ⟨_, rfl⟩
            subst hw3
            have HX3 := HX
            have HI3 := HI
            have HB3 := HBr
            (obtain ⟨at_, hat, hl_, Ax, cx, k1, k2, k3⟩ := HX3.out; have d0 := blk_cell k1 0; have d1 := blk_cell k1 1; have d2 := blk_cell k1 2; replace d0 : wr.cell? ⟨gx, 0, none⟩ = some (.slice Ax l0.length cx) := d0; replace d1 : wr.cell? ⟨gx, 1, none⟩ = some (.int .i64 (at_ : Int)) := d1; replace d2 : wr.cell? ⟨gx, 2, none⟩ = some (.bool true) := d2; have hll := Aside0.mk (show l.length = l0.length - at_ by rw [hl_, List.length_drop]); have HAT := Aside0.mk hat; clear k1 k2 k3 hl_; have q4 : decide ((at_ : Int) < (l0.length : Int)) = true := (by have := hll.out; have := HP.out; first | exact decide_eq_true (by omega) | exact decide_eq_false (by omega)); have q5 : decide (at_ < l0.length) = true := (by have := hll.out; have := HP.out; first | exact decide_eq_true (by omega) | exact decide_eq_false (by omega)); clear hat)
            go_wp2
            have DD := Aside0.mk (fun W h => done_any g l true W h)
            rw [show doneS l true = 4 from if_pos (Or.inl rfl)] at DD
            have q1 : IntKind.i64.wrap ((l0.length : Int) - (at_ : Int)) = (l0.length : Int) - (at_ : Int) := IntWalk.i64_in _ (by have := HAT.out; omega)
            have q2 : ((l.length : Int) != (l0.length : Int) - (at_ : Int)) = false := by rw [bne_eq_false_iff_eq]; have := hll.out; have := HAT.out; omega
            go_quiet ((first | (go_at_call 67; exact Calls.quiet_of_same ((left_of g l true _ (IsR.drewN HI3.out _)).mono fun _ _ h => ⟨h.1, h.2.symm⟩)) | (go_at_call 68; exact Calls.quiet_of_same ((DD.out _ (IsR.drewN HI3.out _)).mono fun _ _ h => ⟨h.1, h.2.symm⟩))))
            clear q1 q2 q4 q5 d0 d1 d2
            go_wp2
            go_roundw
            case measure => simp [intOf]; omega
            case rel => exact ⟨i + 1, l, true, by omega, by go_num, ⟨HI3.out⟩, ⟨HX3.out⟩, ⟨pw_below_drewN HB3.out nq⟩⟩
        | false =>
          by_cases hnil : l = []
          · have hp_ : l.length = 0 := by rw [hnil]; rfl
            have HNIL := Aside0.mk hnil
            have HP := Aside0.mk hp_
            clear hnil hp_
            obtain ⟨w3, hw3⟩ : ∃ x, wr = x := ⟨_, rfl⟩
            subst hw3
            have HX3 := HX
            have HI3 := HI
            have HB3 := HBr
            (obtain ⟨at_, hat, hl_, Ax, cx, k1, k2, k3⟩ := HX3.out; have d0 := blk_cell k1 0; have d1 := blk_cell k1 1; have d2 := blk_cell k1 2; replace d0 : wr.cell? ⟨gx, 0, none⟩ = some (.slice Ax l0.length cx) := d0; replace d1 : wr.cell? ⟨gx, 1, none⟩ = some (.int .i64 (at_ : Int)) := d1; replace d2 : wr.cell? ⟨gx, 2, none⟩ = some (.bool false) := d2; have hll := Aside0.mk (show l.length = l0.length - at_ by rw [hl_, List.length_drop]); have HAT := Aside0.mk hat; clear k1 k2 k3 hl_; have q4 : decide ((at_ : Int) < (l0.length : Int)) = false := (by have := hll.out; have := HP.out; first | exact decide_eq_true (by omega) | exact decide_eq_false (by omega)); have q5 : decide (at_ < l0.length) = false := (by have := hll.out; have := HP.out; first | exact decide_eq_true (by omega) | exact decide_eq_false (by omega)); clear hat)
            go_wp2
            have DD := Aside0.mk (fun W h => done_any g l false W h)
            rw [show doneS l false = 0 from if_neg (by rintro (h | h); cases h; exact h HNIL.out)] at DD
            have q1 : IntKind.i64.wrap ((l0.length : Int) - (at_ : Int)) = (l0.length : Int) - (at_ : Int) := IntWalk.i64_in _ (by have := HAT.out; omega)
            have q2 : ((l.length : Int) != (l0.length : Int) - (at_ : Int)) = false := by rw [bne_eq_false_iff_eq]; have := hll.out; have := HAT.out; omega
            go_quiet ((first | (go_at_call 67; exact Calls.quiet_of_same ((left_of g l false _ (IsR.drewN HI3.out _)).mono fun _ _ h => ⟨h.1, h.2.symm⟩)) | (go_at_call 68; exact Calls.quiet_of_same ((DD.out _ (IsR.drewN HI3.out _)).mono fun _ _ h => ⟨h.1, h.2.symm⟩))))
            clear q1 q2 q4 q5 d0 d1 d2
            go_wp2
            go_roundw
            case measure => simp [intOf]; omega
            case rel => exact ⟨i + 1, l, false, by omega, by go_num, ⟨HI3.out⟩, ⟨HX3.out⟩, ⟨pw_below_drewN HB3.out nq⟩⟩
          · have hp_ : 0 < l.length := List.length_pos_iff.2 hnil
            have HNIL := Aside0.mk hnil
            have HP := Aside0.mk hp_
            clear hnil hp_
            obtain ⟨w3, hw3⟩ : ∃ x, wr = x := ⟨_, rfl⟩
            subst hw3
            have HX3 := HX
            have HI3 := HI
            have HB3 := HBr
            (obtain ⟨at_, hat, hl_, Ax, cx, k1, k2, k3⟩ := HX3.out; have d0 := blk_cell k1 0; have d1 := blk_cell k1 1; have d2 := blk_cell k1 2; replace d0 : wr.cell? ⟨gx, 0, none⟩ = some (.slice Ax l0.length cx) := d0; replace d1 : wr.cell? ⟨gx, 1, none⟩ = some (.int .i64 (at_ : Int)) := d1; replace d2 : wr.cell? ⟨gx, 2, none⟩ = some (.bool false) := d2; have hll := Aside0.mk (show l.length = l0.length - at_ by rw [hl_, List.length_drop]); have HAT := Aside0.mk hat; clear k1 k2 k3 hl_; have q4 : decide ((at_ : Int) < (l0.length : Int)) = true := (by have := hll.out; have := HP.out; first | exact decide_eq_true (by omega) | exact decide_eq_false (by omega)); have q5 : decide (at_ < l0.length) = true := (by have := hll.out; have := HP.out; first | exact decide_eq_true (by omega) | exact decide_eq_false (by omega)); clear hat)
            go_wp2
            have DD := Aside0.mk (fun W h => done_any g l false W h)
            rw [show doneS l false = 4 from if_pos (Or.inr HNIL.out)] at DD
            have q1 : IntKind.i64.wrap ((l0.length : Int) - (at_ : Int)) = (l0.length : Int) - (at_ : Int) := IntWalk.i64_in _ (by have := HAT.out; omega)
            have q2 : ((l.length : Int) != (l0.length : Int) - (at_ : Int)) = false := by rw [bne_eq_false_iff_eq]; have := hll.out; have := HAT.out; omega
            go_quiet ((first | (go_at_call 67; exact Calls.quiet_of_same ((left_of g l false _ (IsR.drewN HI3.out _)).mono fun _ _ h => ⟨h.1, h.2.symm⟩)) | (go_at_call 68; exact Calls.quiet_of_same ((DD.out _ (IsR.drewN HI3.out _)).mono fun _ _ h => ⟨h.1, h.2.symm⟩))))
            clear q1 q2 q4 q5 d0 d1 d2
            go_wp2
            go_roundw
            case measure => simp [intOf]; omega
            case rel => exact ⟨i + 1, l, false, by omega, by go_num, ⟨HI3.out⟩, ⟨HX3.out⟩, ⟨pw_below_drewN HB3.out nq⟩⟩
    · obtain rfl : i = l1.length := by omega
      go_wp2
      go_ret
      exact ⟨rfl, HBr.out⟩
theorem stelelaw02_CanonReads.calls (A0 : Option Addr) (c0 : Nat) (l0 : List Int) (A1 : Option Addr) (c1 : Nat) (l1 : List Int) (a2 : Int) (r : Bool) (w : World) (hr0 : Kd.C (Kd.int .u8) w A0 l0.length l0) (hc0 : l0.length ≤ c0) (hr1 : Kd.C (Kd.int .i64) w A1 l1.length l1) (hc1 : l1.length ≤ c1) (h : stelelaw02_CanonReads.f l0 l1 a2 = some r) :
    Calls Try.prog 11 #[.slice A0 l0.length c0, .slice A1 l1.length c1, .int .i64 a2] w fun e w' => e = .returned (.bool r) ∧ Below w.heap.size w w' := by
  unfold stelelaw02_CanonReads.f at h
  by_cases hh : okReads l0 l1 a2
  · rw [if_pos hh] at h
    obtain rfl := Option.some.inj h
    exact reads_any A0 c0 l0 A1 c1 l1 a2 w hr0 hc0 hr1 hc1 hh
  · rw [if_neg hh] at h
    cases h
end Go.Proofs.Ytlnpmodhejakiaa.PL
