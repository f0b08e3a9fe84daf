-- written by the workplace's driver round the kit's printer (wip/tools/myprint.py)
import Derived.Test.YtioncemogbjklaaPEx0
import Derived.Test.YtioncemogbjklaaPEx1
namespace Go.Proofs.Ytioncemogbjklaa.PG
end Go.Proofs.Ytioncemogbjklaa.PG
namespace Go.Proofs.Ytioncemogbjklaa.PE
open Go.Proofs.Ytioncemogbjklaa.PG
open Go.RowKit Go.Proofs.YtioncemogbjklaaW.PrintWords Go.Proofs.YtioncemogbjklaaW.PrintLast Go.Proofs.YtioncemogbjklaaW.PrintMore
attribute [local go_sem] max2_int min2_int max_two min_two max_three min_three max_four min_four   -- for this text's walks alone
set_option linter.unusedVariables false
set_option linter.unusedSimpArgs false

/-! ### steleref17_Due: function 11 -/
mutual
def steleref17_Due.l0 : Nat → List (S37) → Int → List Int → Int → ByteArray → Int → Bool → Bool → Int → Int → ByteArray → Int → Int → Option (List Int)
  | 0, _, _, _, _, _, _, _, _, _, _, _, _, _ => none
  | k + 1, x1, x2, x7, x8, x124000, x124001, x124002, x124003, x124004, x124005, x124006, x124007, x124008 => if x8 < (x1.length : Int) then (if 0 ≤ x8 then (if ((rd_T37 x1 x8).f0).toList = x124000.toList then ((steleref15_MayDelete.f ((rd_T37 x1 x8).f0) ((rd_T37 x1 x8).f1) ((rd_T37 x1 x8).f2) ((rd_T37 x1 x8).f3) ((rd_T37 x1 x8).f4) ((rd_T37 x1 x8).f5) ((rd_T37 x1 x8).f6.f0) ((rd_T37 x1 x8).f6.f1) ((rd_T37 x1 x8).f7) ((rd_T37 x1 x8).f8) x2 false).bind fun t126 => (steleref17_Due.j1 k x1 x2 x7 x8 (t126 != 0) x124000 x124001 x124002 x124003 x124004 x124005 x124006 x124007 x124008 ((rd_T37 x1 x8).f0) ((rd_T37 x1 x8).f1) ((rd_T37 x1 x8).f2) ((rd_T37 x1 x8).f3) ((rd_T37 x1 x8).f4) ((rd_T37 x1 x8).f5) ((rd_T37 x1 x8).f6.f0) ((rd_T37 x1 x8).f6.f1) ((rd_T37 x1 x8).f7) ((rd_T37 x1 x8).f8))) else (steleref17_Due.j1 k x1 x2 x7 x8 true x124000 x124001 x124002 x124003 x124004 x124005 x124006 x124007 x124008 ((rd_T37 x1 x8).f0) ((rd_T37 x1 x8).f1) ((rd_T37 x1 x8).f2) ((rd_T37 x1 x8).f3) ((rd_T37 x1 x8).f4) ((rd_T37 x1 x8).f5) ((rd_T37 x1 x8).f6.f0) ((rd_T37 x1 x8).f6.f1) ((rd_T37 x1 x8).f7) ((rd_T37 x1 x8).f8))) else (none)) else (some x7)
def steleref17_Due.j1 : Nat → List (S37) → Int → List Int → Int → Bool → ByteArray → Int → Bool → Bool → Int → Int → ByteArray → Int → Int → ByteArray → ByteArray → Int → Int → Bool → List Int → Int → Int → Bool → Int → Option (List Int)
  | 0, _, _, _, _, _, _, _, _, _, _, _, _, _, _, _, _, _, _, _, _, _, _, _, _ => none
  | k + 1, x1, x2, x7, x8, x33, x124000, x124001, x124002, x124003, x124004, x124005, x124006, x124007, x124008, x126000, x126001, x126002, x126003, x126004, x126005, x126006, x126007, x126008, x126009 => if x33 = true then (steleref17_Due.l0 k x1 x2 x7 (wrap64 (x8 + 1)) x124000 x124001 x124002 x124003 x124004 x124005 x124006 x124007 x124008) else ((steleref17_Latest.f k x1 x126000 x126001).bind fun t127 => (if t127 = x8 then (if x126004 = true then (steleref17_Due.l0 k x1 x2 x7 (wrap64 (x8 + 1)) x124000 x124001 x124002 x124003 x124004 x124005 x124006 x124007 x124008) else (if x124001 = 0 then (if x124007 > 0 then ((steleref03_Later.f k x126009 x124007).bind fun t128 => (if t128 ≤ x2 then (if x7.length < 17592186044416 then (steleref17_Due.l0 k x1 x2 (x7 ++ [x126003]) (wrap64 (x8 + 1)) x124000 x124001 x124002 x124003 x124004 x124005 x124006 x124007 x124008) else (none)) else (steleref17_Due.l0 k x1 x2 x7 (wrap64 (x8 + 1)) x124000 x124001 x124002 x124003 x124004 x124005 x124006 x124007 x124008))) else (steleref17_Due.l0 k x1 x2 x7 (wrap64 (x8 + 1)) x124000 x124001 x124002 x124003 x124004 x124005 x124006 x124007 x124008)) else (steleref17_Due.l0 k x1 x2 x7 (wrap64 (x8 + 1)) x124000 x124001 x124002 x124003 x124004 x124005 x124006 x124007 x124008))) else (if x124008 > 0 then ((steleref03_Later.f k x126009 x124008).bind fun t132 => (if t132 ≤ x2 then (if x7.length < 17592186044416 then (steleref17_Due.l0 k x1 x2 (x7 ++ [x126003]) (wrap64 (x8 + 1)) x124000 x124001 x124002 x124003 x124004 x124005 x124006 x124007 x124008) else (none)) else (steleref17_Due.l0 k x1 x2 x7 (wrap64 (x8 + 1)) x124000 x124001 x124002 x124003 x124004 x124005 x124006 x124007 x124008))) else (steleref17_Due.l0 k x1 x2 x7 (wrap64 (x8 + 1)) x124000 x124001 x124002 x124003 x124004 x124005 x124006 x124007 x124008))))
end
def steleref17_Due.f (k : Nat) (a0_0 : ByteArray) (a0_1 : Int) (a0_2 : Bool) (a0_3 : Bool) (a0_4 : Int) (a0_5 : Int) (a0_6 : ByteArray) (a0_7 : Int) (a0_8 : Int) (l1 : List (S37)) (a2 : Int) : Option (List Int) := steleref17_Due.l0 k l1 a2 ([] : List Int) 0 a0_0 a0_1 a0_2 a0_3 a0_4 a0_5 a0_6 a0_7 a0_8
theorem steleref17_Due.mono_l : ∀ k, (∀ y0 y1 y2 y3 y4 y5 y6 y7 y8 y9 y10 y11 y12, LeO (steleref17_Due.l0 k y0 y1 y2 y3 y4 y5 y6 y7 y8 y9 y10 y11 y12) (steleref17_Due.l0 (k + 1) y0 y1 y2 y3 y4 y5 y6 y7 y8 y9 y10 y11 y12)) ∧ (∀ y0 y1 y2 y3 y4 y5 y6 y7 y8 y9 y10 y11 y12 y13 y14 y15 y16 y17 y18 y19 y20 y21 y22 y23, LeO (steleref17_Due.j1 k y0 y1 y2 y3 y4 y5 y6 y7 y8 y9 y10 y11 y12 y13 y14 y15 y16 y17 y18 y19 y20 y21 y22 y23) (steleref17_Due.j1 (k + 1) y0 y1 y2 y3 y4 y5 y6 y7 y8 y9 y10 y11 y12 y13 y14 y15 y16 y17 y18 y19 y20 y21 y22 y23))
  | 0 => ⟨fun _ _ _ _ _ _ _ _ _ _ _ _ _ r h => by simp [steleref17_Due.l0] at h, fun _ _ _ _ _ _ _ _ _ _ _ _ _ _ _ _ _ _ _ _ _ _ _ _ r h => by simp [steleref17_Due.j1] at h⟩
  | k + 1 => by
    obtain ⟨ih0, ih1⟩ := steleref17_Due.mono_l k
    refine ⟨?_, ?_⟩
    · intro y0 y1 y2 y3 y4 y5 y6 y7 y8 y9 y10 y11 y12
      unfold steleref17_Due.l0
      repeat' first
      | (with_reducible exact ih0 _ _ _ _ _ _ _ _ _ _ _ _ _)
      | (with_reducible exact ih1 _ _ _ _ _ _ _ _ _ _ _ _ _ _ _ _ _ _ _ _ _ _ _ _)
      | (with_reducible exact steleref03_Later.mono _ _ _)
      | (with_reducible exact steleref17_Latest.mono _ _ _ _)
      | (with_reducible exact LeO.refl _)
      | (with_reducible exact LeO.none _)
      | (with_reducible refine LeO.ite ?_ ?_)
      | (with_reducible refine LeO.bind ?_ (fun _ => ?_))
      | exact ih0 _ _ _ _ _ _ _ _ _ _ _ _ _
      | exact ih1 _ _ _ _ _ _ _ _ _ _ _ _ _ _ _ _ _ _ _ _ _ _ _ _
      | exact steleref03_Later.mono _ _ _
      | exact steleref17_Latest.mono _ _ _ _
      | exact LeO.none _
      | refine LeO.ite ?_ ?_
      | refine LeO.bind ?_ (fun _ => ?_)
    · intro y0 y1 y2 y3 y4 y5 y6 y7 y8 y9 y10 y11 y12 y13 y14 y15 y16 y17 y18 y19 y20 y21 y22 y23
      unfold steleref17_Due.j1
      repeat' first
      | (with_reducible exact ih0 _ _ _ _ _ _ _ _ _ _ _ _ _)
      | (with_reducible exact ih1 _ _ _ _ _ _ _ _ _ _ _ _ _ _ _ _ _ _ _ _ _ _ _ _)
      | (with_reducible exact steleref03_Later.mono _ _ _)
      | (with_reducible exact steleref17_Latest.mono _ _ _ _)
      | (with_reducible exact LeO.refl _)
      | (with_reducible exact LeO.none _)
      | (with_reducible refine LeO.ite ?_ ?_)
      | (with_reducible refine LeO.bind ?_ (fun _ => ?_))
      | exact ih0 _ _ _ _ _ _ _ _ _ _ _ _ _
      | exact ih1 _ _ _ _ _ _ _ _ _ _ _ _ _ _ _ _ _ _ _ _ _ _ _ _
      | exact steleref03_Later.mono _ _ _
      | exact steleref17_Latest.mono _ _ _ _
      | exact LeO.none _
      | refine LeO.ite ?_ ?_
      | refine LeO.bind ?_ (fun _ => ?_)
theorem steleref17_Due.mono : ∀ a0 a1 a2 a3 a4 a5 a6 a7 a8 a9 a10 k, LeO (steleref17_Due.f k a0 a1 a2 a3 a4 a5 a6 a7 a8 a9 a10) (steleref17_Due.f (k + 1) a0 a1 a2 a3 a4 a5 a6 a7 a8 a9 a10) := by
  intro a0 a1 a2 a3 a4 a5 a6 a7 a8 a9 a10 k
  obtain ⟨ih0, ih1⟩ := steleref17_Due.mono_l k
  unfold steleref17_Due.f
  repeat' first
      | (with_reducible exact ih0 _ _ _ _ _ _ _ _ _ _ _ _ _)
      | (with_reducible exact ih1 _ _ _ _ _ _ _ _ _ _ _ _ _ _ _ _ _ _ _ _ _ _ _ _)
      | (with_reducible exact steleref03_Later.mono _ _ _)
      | (with_reducible exact steleref17_Latest.mono _ _ _ _)
      | (with_reducible exact LeO.refl _)
      | (with_reducible exact LeO.none _)
      | (with_reducible refine LeO.ite ?_ ?_)
      | (with_reducible refine LeO.bind ?_ (fun _ => ?_))
      | exact ih0 _ _ _ _ _ _ _ _ _ _ _ _ _
      | exact ih1 _ _ _ _ _ _ _ _ _ _ _ _ _ _ _ _ _ _ _ _ _ _ _ _
      | exact steleref03_Later.mono _ _ _
      | exact steleref17_Latest.mono _ _ _ _
      | exact LeO.none _
      | refine LeO.ite ?_ ?_
      | refine LeO.bind ?_ (fun _ => ?_)
set_option maxHeartbeats 8000000 in
set_option maxRecDepth 100000 in
theorem steleref17_Due.calls (k : Nat) (a0_0 : ByteArray) (a0_1 : Int) (a0_2 : Bool) (a0_3 : Bool) (a0_4 : Int) (a0_5 : Int) (a0_6 : ByteArray) (a0_7 : Int) (a0_8 : Int) (A1 : Option Addr) (c1 : Nat) (l1 : List (S37)) (a2 : Int) (r : List Int) (w : World) (hr1 : Kd.C k37 w A1 l1.length l1) (hc1 : l1.length ≤ c1) (h : steleref17_Due.f k a0_0 a0_1 a0_2 a0_3 a0_4 a0_5 a0_6 a0_7 a0_8 l1 a2 = some r) :
    Calls Try.prog 11 #[.agg #[.string a0_0, .int .i64 a0_1, .bool a0_2, .bool a0_3, .int .i64 a0_4, .int .i64 a0_5, .string a0_6, .int .i64 a0_7, .int .i64 a0_8], .slice A1 l1.length c1, .int .u64 a2] w fun e w' => ∃ v0_ : Value, e = .returned (v0_) ∧ Kd.R (Kd.int .u64) 28 w' w.heap.size (fun _ => True) v0_ r ∧ Below w.heap.size w w' := by
  have hu27 := Try.underlying27
  have hu37 := Try.underlying37
  have HR1 := Aside0.mk hr1
  have HC1 := Aside0.mk hc1
  clear hr1 hc1
  have HB := Aside0.mk (Below.refl w.heap.size w)
  have H : (steleref17_Due.l0 k l1 a2 ([] : List Int) 0 a0_0 a0_1 a0_2 a0_3 a0_4 a0_5 a0_6 a0_7 a0_8) = some r := h
  clear h
  have H' := Aside0.mk H
  clear H
  go_enter Try.func11, Try.ntmps11
  go_wp2_with (first | ((with_reducible refine gate_dst (N := 3) rfl ?_); refine box_event ?hg (N := 3) ?hd (cs := #[.string a0_0, .int .i64 a0_1, .bool a0_2, .bool a0_3, .int .i64 a0_4, .int .i64 a0_5, .string a0_6, .int .i64 a0_7, .int .i64 a0_8]) (t := 27) ?hr ?_; (case hd => rfl); (case hg => rfl); (case hr => first | (go_simp; done) | (go_simp; rfl)); intro gb123 hg w4 hbox hb; have n0_ := Aside0.mk (below_step (by repeat (first | (with_reducible first | exact HB.out | apply below_alloc | apply pw_below_drewN | apply below_drew1) | exact HB.out)) hb); have n1_ := Aside0.mk (hbox); have n2_ := Aside0.mk ((by rw [hg]; exact (below_size (by repeat (first | (with_reducible first | exact HB.out | apply below_alloc | apply pw_below_drewN | apply below_drew1) | exact HB.out))) : w.heap.size ≤ gb123)); have n3_ := Aside0.mk ((by rw [hg]; exact (below_size (by repeat (first | (with_reducible first | exact HB.out | apply below_alloc | apply pw_below_drewN | apply below_drew1) | exact HB.out))) : w.heap.size ≤ gb123)); clear HB; have HB := n0_; have BK123 := n1_; have GW123 := n2_; have GE123 := n3_; clear n0_ n1_ n2_ n3_; clear hb hbox hg))
  go_loopg [7, 8] k (fun kq v7 v8 w' => ∃ (x7_1 : List Int) (x8_1 : Int), v8 = .int .i64 x8_1 ∧ Aside0 (steleref17_Due.l0 kq l1 a2 x7_1 x8_1 a0_0 a0_1 a0_2 a0_3 a0_4 a0_5 a0_6 a0_7 a0_8 = some r) ∧ Aside0 (kq ≤ k) ∧ Aside0 (Kd.R (Kd.int .u64) 28 w' w.heap.size (fun _ => True) v7 x7_1) ∧ Aside0 (w'.heap[gb123]? = some (.cells #[.string a0_0, .int .i64 a0_1, .bool a0_2, .bool a0_3, .int .i64 a0_4, .int .i64 a0_5, .string a0_6, .int .i64 a0_7, .int .i64 a0_8] 27 (0, 0))) ∧ Aside0 (Below w.heap.size w w'))
  case atStart => exact ⟨(([] : List Int)), (0), (by first | rfl | (simp; done) | (simp [*]; done)), H', ⟨Nat.le_refl _⟩, ⟨by first | exact Kd.R_nil _ _ _ _ _ | exact Kd.N_nil _ _ _ _ _ | exact Kd.V_nil _ _ _ _ _ | exact Kd.Q_nil _ _ _ _ _ | exact Kd.S_nil _ _ _ _ _⟩, ⟨by (with_reducible repeat (first | refine blk_drewN ?_ _ | refine blk_drew ?_ | refine blk_alloc ?_ _)); exact BK123.out⟩, ⟨by repeat (first | (with_reducible first | exact HB.out | apply below_alloc | apply pw_below_drewN | apply below_drew1 | refine below_set ?_ GE123.out) | exact HB.out)⟩⟩
  case round =>
    clear H'
    try clear c1
    try clear p2
    obtain ⟨x7_1, x8_1, rfl, HA, HK1, HO_7, BK123, HB⟩ := hrel
    cases gk with
    | zero => exact absurd HA.out (by simp [steleref17_Due.l0])
    | succ k1 =>
      have H := HA.out
      clear HA
      simp only [steleref17_Due.l0] at H
      by_cases c5 : x8_1 < (l1.length : Int)
      · rw [if_pos c5] at H
        have c5b0 : decide (x8_1 < (l1.length : Int)) = true := decide_eq_true c5
        clear c5
        by_cases c6 : 0 ≤ x8_1
        · rw [if_pos c6] at H
          have c6b0 : decide (0 ≤ x8_1) = true := decide_eq_true c6
          clear c6
          have HC7 := Aside0.mk H
          clear H
          have p124 : 0 ≤ (x8_1 : Int) := of_decide_eq_true (by first | (with_reducible assumption) | assumption)
          have q124 : x8_1 < (l1.length : Int) := of_decide_eq_true (by first | (with_reducible assumption) | assumption)
          obtain ⟨ad124, A124_5, c124_5, e124, hx124_0, hx124_1, hx124_2, hx124_3, hx124_4, hx124_5, hx124_6, hx124_7, hx124_8, hx124_9, hl124_5, hi124_5⟩ := at_T37 HR1.out x8_1 p124 q124
          cases e124
          replace hx124_0 := (HB.out.cell (World.block_lt_of_cell? w _ hx124_0)).trans hx124_0
          replace hx124_1 := (HB.out.cell (World.block_lt_of_cell? w _ hx124_1)).trans hx124_1
          replace hx124_2 := (HB.out.cell (World.block_lt_of_cell? w _ hx124_2)).trans hx124_2
          replace hx124_3 := (HB.out.cell (World.block_lt_of_cell? w _ hx124_3)).trans hx124_3
          replace hx124_4 := (HB.out.cell (World.block_lt_of_cell? w _ hx124_4)).trans hx124_4
          replace hx124_5 := (HB.out.cell (World.block_lt_of_cell? w _ hx124_5)).trans hx124_5
          replace hx124_6 := (HB.out.cell (World.block_lt_of_cell? w _ hx124_6)).trans hx124_6
          replace hx124_7 := (HB.out.cell (World.block_lt_of_cell? w _ hx124_7)).trans hx124_7
          replace hx124_8 := (HB.out.cell (World.block_lt_of_cell? w _ hx124_8)).trans hx124_8
          replace hx124_9 := (HB.out.cell (World.block_lt_of_cell? w _ hx124_9)).trans hx124_9
          have HR124_5 := Aside0.mk hi124_5
          have HC124_5 := Aside0.mk hl124_5
          clear hi124_5 hl124_5
          replace p124 := eq_true p124
          replace q124 := eq_true q124
          go_upto_region 6 with (first | ((with_reducible refine gate_dst (N := 9) rfl ?_); refine box_event ?hg (N := 9) ?hd (cs := #[.string (⟨#[]⟩ : ByteArray), .string (⟨#[]⟩ : ByteArray), .int .u64 0, .int .u64 0, .bool false, .slice none 0 0, .int .i64 0, .int .u64 0, .bool false, .int .u64 0]) (t := 37) ?hr ?_; (case hd => rfl); (case hg => rfl); (case hr => first | (go_simp; done) | (go_simp; rfl)); intro gb125 hg w8 hbox hb; have n0_ := Aside0.mk (Kd.R_below (by (with_reducible repeat (first | apply Kd.R_alloc | apply Kd.R_drewN | apply Kd.R_drew)); exact HO_7.out) hb); have n1_ := Aside0.mk (blk_below (g := gb123) (o := .cells #[.string a0_0, .int .i64 a0_1, .bool a0_2, .bool a0_3, .int .i64 a0_4, .int .i64 a0_5, .string a0_6, .int .i64 a0_7, .int .i64 a0_8] 27 (0, 0)) (by (with_reducible repeat (first | refine blk_drewN ?_ _ | refine blk_drew ?_ | refine blk_alloc ?_ _)); exact BK123.out) hb); have n2_ := Aside0.mk (below_step (by repeat (first | (with_reducible first | exact HB.out | apply below_alloc | apply pw_below_drewN | apply below_drew1 | refine below_set ?_ GE123.out) | exact HB.out)) hb); have n3_ := Aside0.mk (hbox); have n4_ := Aside0.mk ((by rw [hg]; exact (below_size (by repeat (first | (with_reducible first | exact HB.out | apply below_alloc | apply pw_below_drewN | apply below_drew1 | refine below_set ?_ GE123.out) | exact HB.out))) : w.heap.size ≤ gb125)); have n5_ := Aside0.mk ((by rw [hg]; exact (below_size (by repeat (first | (with_reducible first | exact HB.out | apply below_alloc | apply pw_below_drewN | apply below_drew1 | refine below_set ?_ GE123.out) | exact HB.out))) : w.heap.size ≤ gb125)); have n6_ := Aside0.mk ((by rw [hg]; exact Nat.ne_of_lt (blk_lt (g := gb123) (o := .cells #[.string a0_0, .int .i64 a0_1, .bool a0_2, .bool a0_3, .int .i64 a0_4, .int .i64 a0_5, .string a0_6, .int .i64 a0_7, .int .i64 a0_8] 27 (0, 0)) (by (with_reducible repeat (first | refine blk_drewN ?_ _ | refine blk_drew ?_ | refine blk_alloc ?_ _)); exact BK123.out)) : gb123 ≠ gb125)); have n7_ := Aside0.mk ((by rw [hg]; exact Nat.ne_of_gt (blk_lt (g := gb123) (o := .cells #[.string a0_0, .int .i64 a0_1, .bool a0_2, .bool a0_3, .int .i64 a0_4, .int .i64 a0_5, .string a0_6, .int .i64 a0_7, .int .i64 a0_8] 27 (0, 0)) (by (with_reducible repeat (first | refine blk_drewN ?_ _ | refine blk_drew ?_ | refine blk_alloc ?_ _)); exact BK123.out)) : gb125 ≠ gb123)); clear HO_7; clear BK123; clear HB; have HO_7 := n0_; have BK123 := n1_; have HB := n2_; have BK125 := n3_; have GW125 := n4_; have GE125 := n5_; have NB123_125 := n6_; have NB125_123 := n7_; clear n0_ n1_ n2_ n3_ n4_ n5_ n6_ n7_; clear hb hbox hg; have hnb9 := NB125_123.out; have hnc9 := NB123_125.out; have hcz10_0 : w8.cell? ⟨gb125, 0, none⟩ = some (.string (⟨#[]⟩ : ByteArray)) := (blk_cell BK125.out 0).trans rfl; have hcz10_1 : w8.cell? ⟨gb125, 1, none⟩ = some (.string (⟨#[]⟩ : ByteArray)) := (blk_cell BK125.out 1).trans rfl; have hcz10_2 : w8.cell? ⟨gb125, 2, none⟩ = some (.int .u64 0) := (blk_cell BK125.out 2).trans rfl; have hcz10_3 : w8.cell? ⟨gb125, 3, none⟩ = some (.int .u64 0) := (blk_cell BK125.out 3).trans rfl; have hcz10_4 : w8.cell? ⟨gb125, 4, none⟩ = some (.bool false) := (blk_cell BK125.out 4).trans rfl; have hcz10_5 : w8.cell? ⟨gb125, 5, none⟩ = some (.slice none 0 0) := (blk_cell BK125.out 5).trans rfl; have hcz10_6 : w8.cell? ⟨gb125, 6, none⟩ = some (.int .i64 0) := (blk_cell BK125.out 6).trans rfl; have hcz10_7 : w8.cell? ⟨gb125, 7, none⟩ = some (.int .u64 0) := (blk_cell BK125.out 7).trans rfl; have hcz10_8 : w8.cell? ⟨gb125, 8, none⟩ = some (.bool false) := (blk_cell BK125.out 8).trans rfl; have hcz10_9 : w8.cell? ⟨gb125, 9, none⟩ = some (.int .u64 0) := (blk_cell BK125.out 9).trans rfl; have hfz10_0 := blk_frozen BK125.out 0; have hfz10_1 := blk_frozen BK125.out 1; have hfz10_2 := blk_frozen BK125.out 2; have hfz10_3 := blk_frozen BK125.out 3; have hfz10_4 := blk_frozen BK125.out 4; have hfz10_5 := blk_frozen BK125.out 5; have hfz10_6 := blk_frozen BK125.out 6; have hfz10_7 := blk_frozen BK125.out 7; have hfz10_8 := blk_frozen BK125.out 8; have hfz10_9 := blk_frozen BK125.out 9))
          (try simp only [Act.put, List.setIfInBounds_toArray, List.set_cons_zero, List.set_cons_succ])
          go_cut [33] (fun v33 wc => ∃ (kq : Nat) (x33_6 : Bool), v33 = .bool x33_6 ∧ Aside0 (steleref17_Due.j1 kq l1 a2 x7_1 x8_1 x33_6 a0_0 a0_1 a0_2 a0_3 a0_4 a0_5 a0_6 a0_7 a0_8 ((rd_T37 l1 x8_1).f0) ((rd_T37 l1 x8_1).f1) ((rd_T37 l1 x8_1).f2) ((rd_T37 l1 x8_1).f3) ((rd_T37 l1 x8_1).f4) ((rd_T37 l1 x8_1).f5) ((rd_T37 l1 x8_1).f6.f0) ((rd_T37 l1 x8_1).f6.f1) ((rd_T37 l1 x8_1).f7) ((rd_T37 l1 x8_1).f8) = some r) ∧ Aside0 (kq ≤ k1) ∧ Aside0 (Kd.R (Kd.int .u64) 28 wc w.heap.size (fun _ => True) u7 x7_1) ∧ Aside0 (wc.heap[gb123]? = some (.cells #[.string a0_0, .int .i64 a0_1, .bool a0_2, .bool a0_3, .int .i64 a0_4, .int .i64 a0_5, .string a0_6, .int .i64 a0_7, .int .i64 a0_8] 27 (0, 0))) ∧ Aside0 (wc.heap[gb125]? = some (.cells #[.string ((rd_T37 l1 x8_1).f0), .string ((rd_T37 l1 x8_1).f1), .int .u64 ((rd_T37 l1 x8_1).f2), .int .u64 ((rd_T37 l1 x8_1).f3), .bool ((rd_T37 l1 x8_1).f4), (.slice A124_5 ((rd_T37 l1 x8_1).f5).length c124_5), .int .i64 ((rd_T37 l1 x8_1).f6.f0), .int .u64 ((rd_T37 l1 x8_1).f6.f1), .bool ((rd_T37 l1 x8_1).f7), .int .u64 ((rd_T37 l1 x8_1).f8)] 37 (0, 0))) ∧ Aside0 (Below w.heap.size w wc))
          case first =>
            have H := HC7.out
            clear HC7
            by_cases c11 : ((rd_T37 l1 x8_1).f0).toList = a0_0.toList
            · rw [if_pos c11] at H
              have c11b0 : (((rd_T37 l1 x8_1).f0).toList == a0_0.toList) = true := beq_iff_eq.mpr c11
              have c11b1 : (((rd_T37 l1 x8_1).f0).toList != a0_0.toList) = false := bne_eq_false_iff_eq.mpr c11
              clear c11
              (first | rw [c11b0] | (simp only [i64_w, i32_w]; rw [c11b0]) | skip)
              replace H := Option.bind_eq_some_iff.mp H
              obtain ⟨t126, A120, H⟩ := H
              replace H : (steleref17_Due.j1 k1 l1 a2 x7_1 x8_1 (t126 != 0) a0_0 a0_1 a0_2 a0_3 a0_4 a0_5 a0_6 a0_7 a0_8 ((rd_T37 l1 x8_1).f0) ((rd_T37 l1 x8_1).f1) ((rd_T37 l1 x8_1).f2) ((rd_T37 l1 x8_1).f3) ((rd_T37 l1 x8_1).f4) ((rd_T37 l1 x8_1).f5) ((rd_T37 l1 x8_1).f6.f0) ((rd_T37 l1 x8_1).f6.f1) ((rd_T37 l1 x8_1).f7) ((rd_T37 l1 x8_1).f8)) = some r := H
              have A12 := Aside0.mk A120
              clear A120
              have H' := Aside0.mk H
              clear H
              have hnb13 := NB125_123.out
              have hnc13 := NB123_125.out
              have hcz14_0 : w8.cell? ⟨gb125, 0, none⟩ = some (.string (⟨#[]⟩ : ByteArray)) := (blk_cell BK125.out 0).trans rfl
              have hcz14_1 : w8.cell? ⟨gb125, 1, none⟩ = some (.string (⟨#[]⟩ : ByteArray)) := (blk_cell BK125.out 1).trans rfl
              have hcz14_2 : w8.cell? ⟨gb125, 2, none⟩ = some (.int .u64 0) := (blk_cell BK125.out 2).trans rfl
              have hcz14_3 : w8.cell? ⟨gb125, 3, none⟩ = some (.int .u64 0) := (blk_cell BK125.out 3).trans rfl
              have hcz14_4 : w8.cell? ⟨gb125, 4, none⟩ = some (.bool false) := (blk_cell BK125.out 4).trans rfl
              have hcz14_5 : w8.cell? ⟨gb125, 5, none⟩ = some (.slice none 0 0) := (blk_cell BK125.out 5).trans rfl
              have hcz14_6 : w8.cell? ⟨gb125, 6, none⟩ = some (.int .i64 0) := (blk_cell BK125.out 6).trans rfl
              have hcz14_7 : w8.cell? ⟨gb125, 7, none⟩ = some (.int .u64 0) := (blk_cell BK125.out 7).trans rfl
              have hcz14_8 : w8.cell? ⟨gb125, 8, none⟩ = some (.bool false) := (blk_cell BK125.out 8).trans rfl
              have hcz14_9 : w8.cell? ⟨gb125, 9, none⟩ = some (.int .u64 0) := (blk_cell BK125.out 9).trans rfl
              have hfz14_0 := blk_frozen BK125.out 0
              have hfz14_1 := blk_frozen BK125.out 1
              have hfz14_2 := blk_frozen BK125.out 2
              have hfz14_3 := blk_frozen BK125.out 3
              have hfz14_4 := blk_frozen BK125.out 4
              have hfz14_5 := blk_frozen BK125.out 5
              have hfz14_6 := blk_frozen BK125.out 6
              have hfz14_7 := blk_frozen BK125.out 7
              have hfz14_8 := blk_frozen BK125.out 8
              have hfz14_9 := blk_frozen BK125.out 9
              have hcz15_0 : w8.cell? ⟨gb123, 0, none⟩ = some (.string a0_0) := (blk_cell BK123.out 0).trans rfl
              have hcz15_1 : w8.cell? ⟨gb123, 1, none⟩ = some (.int .i64 a0_1) := (blk_cell BK123.out 1).trans rfl
              have hcz15_2 : w8.cell? ⟨gb123, 2, none⟩ = some (.bool a0_2) := (blk_cell BK123.out 2).trans rfl
              have hcz15_3 : w8.cell? ⟨gb123, 3, none⟩ = some (.bool a0_3) := (blk_cell BK123.out 3).trans rfl
              have hcz15_4 : w8.cell? ⟨gb123, 4, none⟩ = some (.int .i64 a0_4) := (blk_cell BK123.out 4).trans rfl
              have hcz15_5 : w8.cell? ⟨gb123, 5, none⟩ = some (.int .i64 a0_5) := (blk_cell BK123.out 5).trans rfl
              have hcz15_6 : w8.cell? ⟨gb123, 6, none⟩ = some (.string a0_6) := (blk_cell BK123.out 6).trans rfl
              have hcz15_7 : w8.cell? ⟨gb123, 7, none⟩ = some (.int .i64 a0_7) := (blk_cell BK123.out 7).trans rfl
              have hcz15_8 : w8.cell? ⟨gb123, 8, none⟩ = some (.int .i64 a0_8) := (blk_cell BK123.out 8).trans rfl
              have hfz15_0 := blk_frozen BK123.out 0
              have hfz15_1 := blk_frozen BK123.out 1
              have hfz15_2 := blk_frozen BK123.out 2
              have hfz15_3 := blk_frozen BK123.out 3
              have hfz15_4 := blk_frozen BK123.out 4
              have hfz15_5 := blk_frozen BK123.out 5
              have hfz15_6 := blk_frozen BK123.out 6
              have hfz15_7 := blk_frozen BK123.out 7
              have hfz15_8 := blk_frozen BK123.out 8
              go_wp2_with (first | (go_at_call 18; (with_reducible refine (steleref15_MayDelete.calls ((rd_T37 l1 x8_1).f0) ((rd_T37 l1 x8_1).f1) ((rd_T37 l1 x8_1).f2) ((rd_T37 l1 x8_1).f3) ((rd_T37 l1 x8_1).f4) _ _ ((rd_T37 l1 x8_1).f5) ((rd_T37 l1 x8_1).f6.f0) ((rd_T37 l1 x8_1).f6.f1) ((rd_T37 l1 x8_1).f7) ((rd_T37 l1 x8_1).f8) a2 false t126 _ ?side1 ?side2 A12.out).mono ?_); (case side1 => exact Kd.C_below HR124_5.out (by repeat (first | (with_reducible first | exact HB.out | apply below_alloc | apply pw_below_drewN | apply below_drew1 | refine below_set ?_ GE123.out | refine below_set ?_ GE125.out) | exact HB.out))); (case side2 => exact HC124_5.out); rintro e w16 ⟨rfl, hb⟩; have n0_ := Aside0.mk (Kd.R_below (by (with_reducible repeat (first | apply Kd.R_alloc | apply Kd.R_drewN | apply Kd.R_drew)); exact (Kd.R_mono (Kd.R_far (p := ⟨gb125, 9, none⟩) (Kd.R_far (p := ⟨gb125, 8, none⟩) (Kd.R_far (p := ⟨gb125, 7, none⟩) (Kd.R_far (p := ⟨gb125, 6, none⟩) (Kd.R_far (p := ⟨gb125, 5, none⟩) (Kd.R_far (p := ⟨gb125, 4, none⟩) (Kd.R_far (p := ⟨gb125, 3, none⟩) (Kd.R_far (p := ⟨gb125, 2, none⟩) (Kd.R_far (p := ⟨gb125, 1, none⟩) (Kd.R_far (p := ⟨gb125, 0, none⟩) (Kd.R_types HO_7.out BK125.out (by decide)) (fun _ hk => hk.2) (.string ((rd_T37 l1 x8_1).f0))) (fun _ hk => hk.2) (.string ((rd_T37 l1 x8_1).f1))) (fun _ hk => hk.2) (.int .u64 ((rd_T37 l1 x8_1).f2))) (fun _ hk => hk.2) (.int .u64 ((rd_T37 l1 x8_1).f3))) (fun _ hk => hk.2) (.bool ((rd_T37 l1 x8_1).f4))) (fun _ hk => hk.2) (.slice A124_5 ((rd_T37 l1 x8_1).f5).length c124_5)) (fun _ hk => hk.2) (.int .i64 ((rd_T37 l1 x8_1).f6.f0))) (fun _ hk => hk.2) (.int .u64 ((rd_T37 l1 x8_1).f6.f1))) (fun _ hk => hk.2) (.bool ((rd_T37 l1 x8_1).f7))) (fun _ hk => hk.2) (.int .u64 ((rd_T37 l1 x8_1).f8))) (fun _ h_ => h_.1))) hb); have n1_ := Aside0.mk (blk_below (g := gb123) (o := .cells #[.string a0_0, .int .i64 a0_1, .bool a0_2, .bool a0_3, .int .i64 a0_4, .int .i64 a0_5, .string a0_6, .int .i64 a0_7, .int .i64 a0_8] 27 (0, 0)) (by (with_reducible repeat (first | refine blk_drewN ?_ _ | refine blk_drew ?_ | refine blk_alloc ?_ _)); refine blk_far ?_ NB123_125.out _; (with_reducible repeat (first | refine blk_drewN ?_ _ | refine blk_drew ?_ | refine blk_alloc ?_ _)); refine blk_far ?_ NB123_125.out _; (with_reducible repeat (first | refine blk_drewN ?_ _ | refine blk_drew ?_ | refine blk_alloc ?_ _)); refine blk_far ?_ NB123_125.out _; (with_reducible repeat (first | refine blk_drewN ?_ _ | refine blk_drew ?_ | refine blk_alloc ?_ _)); refine blk_far ?_ NB123_125.out _; (with_reducible repeat (first | refine blk_drewN ?_ _ | refine blk_drew ?_ | refine blk_alloc ?_ _)); refine blk_far ?_ NB123_125.out _; (with_reducible repeat (first | refine blk_drewN ?_ _ | refine blk_drew ?_ | refine blk_alloc ?_ _)); refine blk_far ?_ NB123_125.out _; (with_reducible repeat (first | refine blk_drewN ?_ _ | refine blk_drew ?_ | refine blk_alloc ?_ _)); refine blk_far ?_ NB123_125.out _; (with_reducible repeat (first | refine blk_drewN ?_ _ | refine blk_drew ?_ | refine blk_alloc ?_ _)); refine blk_far ?_ NB123_125.out _; (with_reducible repeat (first | refine blk_drewN ?_ _ | refine blk_drew ?_ | refine blk_alloc ?_ _)); refine blk_far ?_ NB123_125.out _; (with_reducible repeat (first | refine blk_drewN ?_ _ | refine blk_drew ?_ | refine blk_alloc ?_ _)); refine blk_far ?_ NB123_125.out _; (with_reducible repeat (first | refine blk_drewN ?_ _ | refine blk_drew ?_ | refine blk_alloc ?_ _)); exact BK123.out) hb); have n2_ := Aside0.mk (blk_below (g := gb125) (o := .cells #[.string ((rd_T37 l1 x8_1).f0), .string ((rd_T37 l1 x8_1).f1), .int .u64 ((rd_T37 l1 x8_1).f2), .int .u64 ((rd_T37 l1 x8_1).f3), .bool ((rd_T37 l1 x8_1).f4), .slice A124_5 ((rd_T37 l1 x8_1).f5).length c124_5, .int .i64 ((rd_T37 l1 x8_1).f6.f0), .int .u64 ((rd_T37 l1 x8_1).f6.f1), .bool ((rd_T37 l1 x8_1).f7), .int .u64 ((rd_T37 l1 x8_1).f8)] 37 (0, 0)) (by (with_reducible repeat (first | refine blk_drewN ?_ _ | refine blk_drew ?_ | refine blk_alloc ?_ _)); refine blk_put (cs := #[.string ((rd_T37 l1 x8_1).f0), .string ((rd_T37 l1 x8_1).f1), .int .u64 ((rd_T37 l1 x8_1).f2), .int .u64 ((rd_T37 l1 x8_1).f3), .bool ((rd_T37 l1 x8_1).f4), .slice A124_5 ((rd_T37 l1 x8_1).f5).length c124_5, .int .i64 ((rd_T37 l1 x8_1).f6.f0), .int .u64 ((rd_T37 l1 x8_1).f6.f1), .bool ((rd_T37 l1 x8_1).f7), .int .u64 0]) ?_ 9 _ rfl; (with_reducible repeat (first | refine blk_drewN ?_ _ | refine blk_drew ?_ | refine blk_alloc ?_ _)); refine blk_put (cs := #[.string ((rd_T37 l1 x8_1).f0), .string ((rd_T37 l1 x8_1).f1), .int .u64 ((rd_T37 l1 x8_1).f2), .int .u64 ((rd_T37 l1 x8_1).f3), .bool ((rd_T37 l1 x8_1).f4), .slice A124_5 ((rd_T37 l1 x8_1).f5).length c124_5, .int .i64 ((rd_T37 l1 x8_1).f6.f0), .int .u64 ((rd_T37 l1 x8_1).f6.f1), .bool false, .int .u64 0]) ?_ 8 _ rfl; (with_reducible repeat (first | refine blk_drewN ?_ _ | refine blk_drew ?_ | refine blk_alloc ?_ _)); refine blk_put (cs := #[.string ((rd_T37 l1 x8_1).f0), .string ((rd_T37 l1 x8_1).f1), .int .u64 ((rd_T37 l1 x8_1).f2), .int .u64 ((rd_T37 l1 x8_1).f3), .bool ((rd_T37 l1 x8_1).f4), .slice A124_5 ((rd_T37 l1 x8_1).f5).length c124_5, .int .i64 ((rd_T37 l1 x8_1).f6.f0), .int .u64 0, .bool false, .int .u64 0]) ?_ 7 _ rfl; (with_reducible repeat (first | refine blk_drewN ?_ _ | refine blk_drew ?_ | refine blk_alloc ?_ _)); refine blk_put (cs := #[.string ((rd_T37 l1 x8_1).f0), .string ((rd_T37 l1 x8_1).f1), .int .u64 ((rd_T37 l1 x8_1).f2), .int .u64 ((rd_T37 l1 x8_1).f3), .bool ((rd_T37 l1 x8_1).f4), .slice A124_5 ((rd_T37 l1 x8_1).f5).length c124_5, .int .i64 0, .int .u64 0, .bool false, .int .u64 0]) ?_ 6 _ rfl; (with_reducible repeat (first | refine blk_drewN ?_ _ | refine blk_drew ?_ | refine blk_alloc ?_ _)); refine blk_put (cs := #[.string ((rd_T37 l1 x8_1).f0), .string ((rd_T37 l1 x8_1).f1), .int .u64 ((rd_T37 l1 x8_1).f2), .int .u64 ((rd_T37 l1 x8_1).f3), .bool ((rd_T37 l1 x8_1).f4), .slice none 0 0, .int .i64 0, .int .u64 0, .bool false, .int .u64 0]) ?_ 5 _ rfl; (with_reducible repeat (first | refine blk_drewN ?_ _ | refine blk_drew ?_ | refine blk_alloc ?_ _)); refine blk_put (cs := #[.string ((rd_T37 l1 x8_1).f0), .string ((rd_T37 l1 x8_1).f1), .int .u64 ((rd_T37 l1 x8_1).f2), .int .u64 ((rd_T37 l1 x8_1).f3), .bool false, .slice none 0 0, .int .i64 0, .int .u64 0, .bool false, .int .u64 0]) ?_ 4 _ rfl; (with_reducible repeat (first | refine blk_drewN ?_ _ | refine blk_drew ?_ | refine blk_alloc ?_ _)); refine blk_put (cs := #[.string ((rd_T37 l1 x8_1).f0), .string ((rd_T37 l1 x8_1).f1), .int .u64 ((rd_T37 l1 x8_1).f2), .int .u64 0, .bool false, .slice none 0 0, .int .i64 0, .int .u64 0, .bool false, .int .u64 0]) ?_ 3 _ rfl; (with_reducible repeat (first | refine blk_drewN ?_ _ | refine blk_drew ?_ | refine blk_alloc ?_ _)); refine blk_put (cs := #[.string ((rd_T37 l1 x8_1).f0), .string ((rd_T37 l1 x8_1).f1), .int .u64 0, .int .u64 0, .bool false, .slice none 0 0, .int .i64 0, .int .u64 0, .bool false, .int .u64 0]) ?_ 2 _ rfl; (with_reducible repeat (first | refine blk_drewN ?_ _ | refine blk_drew ?_ | refine blk_alloc ?_ _)); refine blk_put (cs := #[.string ((rd_T37 l1 x8_1).f0), .string (⟨#[]⟩ : ByteArray), .int .u64 0, .int .u64 0, .bool false, .slice none 0 0, .int .i64 0, .int .u64 0, .bool false, .int .u64 0]) ?_ 1 _ rfl; (with_reducible repeat (first | refine blk_drewN ?_ _ | refine blk_drew ?_ | refine blk_alloc ?_ _)); refine blk_put (cs := #[.string (⟨#[]⟩ : ByteArray), .string (⟨#[]⟩ : ByteArray), .int .u64 0, .int .u64 0, .bool false, .slice none 0 0, .int .i64 0, .int .u64 0, .bool false, .int .u64 0]) ?_ 0 _ rfl; (with_reducible repeat (first | refine blk_drewN ?_ _ | refine blk_drew ?_ | refine blk_alloc ?_ _)); exact BK125.out) hb); have n3_ := Aside0.mk (below_step (by repeat (first | (with_reducible first | exact HB.out | apply below_alloc | apply pw_below_drewN | apply below_drew1 | refine below_set ?_ GE123.out | refine below_set ?_ GE125.out) | exact HB.out)) hb); clear HO_7; clear BK123; clear BK125; clear HB; have HO_7 := n0_; have BK123 := n1_; have BK125 := n2_; have HB := n3_; clear n0_ n1_ n2_ n3_; (try clear hb); (try clear hb2); (try clear hk); (try clear hi)))
              go_meet
              case rel => exact ⟨_, ((t126 != 0)), (by first | rfl | (simp; done) | (simp [*]; done)), H', ⟨by have := HK1.out; first | omega | exact Nat.le_refl _⟩, ⟨by (with_reducible repeat (first | apply Kd.R_alloc | apply Kd.R_drewN | apply Kd.R_drew)); exact HO_7.out⟩, ⟨by (with_reducible repeat (first | refine blk_drewN ?_ _ | refine blk_drew ?_ | refine blk_alloc ?_ _)); exact BK123.out⟩, ⟨by (with_reducible repeat (first | refine blk_drewN ?_ _ | refine blk_drew ?_ | refine blk_alloc ?_ _)); exact BK125.out⟩, ⟨by repeat (first | (with_reducible first | exact HB.out | apply below_alloc | apply pw_below_drewN | apply below_drew1 | refine below_set ?_ GE123.out | refine below_set ?_ GE125.out) | exact HB.out)⟩⟩
            · rw [if_neg c11] at H
              have c11b0 : (((rd_T37 l1 x8_1).f0).toList == a0_0.toList) = false := beq_eq_false_iff_ne.mpr c11
              have c11b1 : (((rd_T37 l1 x8_1).f0).toList != a0_0.toList) = true := bne_iff_ne.mpr c11
              (first | rw [c11b0] | (simp only [i64_w, i32_w]; rw [c11b0]) | skip)
              have H' := Aside0.mk H
              clear H
              have hnb17 := NB125_123.out
              have hnc17 := NB123_125.out
              have hcz18_0 : w8.cell? ⟨gb125, 0, none⟩ = some (.string (⟨#[]⟩ : ByteArray)) := (blk_cell BK125.out 0).trans rfl
              have hcz18_1 : w8.cell? ⟨gb125, 1, none⟩ = some (.string (⟨#[]⟩ : ByteArray)) := (blk_cell BK125.out 1).trans rfl
              have hcz18_2 : w8.cell? ⟨gb125, 2, none⟩ = some (.int .u64 0) := (blk_cell BK125.out 2).trans rfl
              have hcz18_3 : w8.cell? ⟨gb125, 3, none⟩ = some (.int .u64 0) := (blk_cell BK125.out 3).trans rfl
              have hcz18_4 : w8.cell? ⟨gb125, 4, none⟩ = some (.bool false) := (blk_cell BK125.out 4).trans rfl
              have hcz18_5 : w8.cell? ⟨gb125, 5, none⟩ = some (.slice none 0 0) := (blk_cell BK125.out 5).trans rfl
              have hcz18_6 : w8.cell? ⟨gb125, 6, none⟩ = some (.int .i64 0) := (blk_cell BK125.out 6).trans rfl
              have hcz18_7 : w8.cell? ⟨gb125, 7, none⟩ = some (.int .u64 0) := (blk_cell BK125.out 7).trans rfl
              have hcz18_8 : w8.cell? ⟨gb125, 8, none⟩ = some (.bool false) := (blk_cell BK125.out 8).trans rfl
              have hcz18_9 : w8.cell? ⟨gb125, 9, none⟩ = some (.int .u64 0) := (blk_cell BK125.out 9).trans rfl
              have hfz18_0 := blk_frozen BK125.out 0
              have hfz18_1 := blk_frozen BK125.out 1
              have hfz18_2 := blk_frozen BK125.out 2
              have hfz18_3 := blk_frozen BK125.out 3
              have hfz18_4 := blk_frozen BK125.out 4
              have hfz18_5 := blk_frozen BK125.out 5
              have hfz18_6 := blk_frozen BK125.out 6
              have hfz18_7 := blk_frozen BK125.out 7
              have hfz18_8 := blk_frozen BK125.out 8
              have hfz18_9 := blk_frozen BK125.out 9
              have hcz19_0 : w8.cell? ⟨gb123, 0, none⟩ = some (.string a0_0) := (blk_cell BK123.out 0).trans rfl
              have hcz19_1 : w8.cell? ⟨gb123, 1, none⟩ = some (.int .i64 a0_1) := (blk_cell BK123.out 1).trans rfl
              have hcz19_2 : w8.cell? ⟨gb123, 2, none⟩ = some (.bool a0_2) := (blk_cell BK123.out 2).trans rfl
              have hcz19_3 : w8.cell? ⟨gb123, 3, none⟩ = some (.bool a0_3) := (blk_cell BK123.out 3).trans rfl
              have hcz19_4 : w8.cell? ⟨gb123, 4, none⟩ = some (.int .i64 a0_4) := (blk_cell BK123.out 4).trans rfl
              have hcz19_5 : w8.cell? ⟨gb123, 5, none⟩ = some (.int .i64 a0_5) := (blk_cell BK123.out 5).trans rfl
              have hcz19_6 : w8.cell? ⟨gb123, 6, none⟩ = some (.string a0_6) := (blk_cell BK123.out 6).trans rfl
              have hcz19_7 : w8.cell? ⟨gb123, 7, none⟩ = some (.int .i64 a0_7) := (blk_cell BK123.out 7).trans rfl
              have hcz19_8 : w8.cell? ⟨gb123, 8, none⟩ = some (.int .i64 a0_8) := (blk_cell BK123.out 8).trans rfl
              have hfz19_0 := blk_frozen BK123.out 0
              have hfz19_1 := blk_frozen BK123.out 1
              have hfz19_2 := blk_frozen BK123.out 2
              have hfz19_3 := blk_frozen BK123.out 3
              have hfz19_4 := blk_frozen BK123.out 4
              have hfz19_5 := blk_frozen BK123.out 5
              have hfz19_6 := blk_frozen BK123.out 6
              have hfz19_7 := blk_frozen BK123.out 7
              have hfz19_8 := blk_frozen BK123.out 8
              go_wp2
              go_meet
              case rel => exact ⟨_, (true), (by first | rfl | (simp; done) | (simp [*]; done)), H', ⟨by have := HK1.out; first | omega | exact Nat.le_refl _⟩, ⟨by (with_reducible repeat (first | apply Kd.R_alloc | apply Kd.R_drewN | apply Kd.R_drew)); exact Kd.R_mono (Kd.R_far (p := ⟨gb125, 9, none⟩) (Kd.R_far (p := ⟨gb125, 8, none⟩) (Kd.R_far (p := ⟨gb125, 7, none⟩) (Kd.R_far (p := ⟨gb125, 6, none⟩) (Kd.R_far (p := ⟨gb125, 5, none⟩) (Kd.R_far (p := ⟨gb125, 4, none⟩) (Kd.R_far (p := ⟨gb125, 3, none⟩) (Kd.R_far (p := ⟨gb125, 2, none⟩) (Kd.R_far (p := ⟨gb125, 1, none⟩) (Kd.R_far (p := ⟨gb125, 0, none⟩) (Kd.R_types HO_7.out BK125.out (by decide)) (fun _ hk => hk.2) (.string ((rd_T37 l1 x8_1).f0))) (fun _ hk => hk.2) (.string ((rd_T37 l1 x8_1).f1))) (fun _ hk => hk.2) (.int .u64 ((rd_T37 l1 x8_1).f2))) (fun _ hk => hk.2) (.int .u64 ((rd_T37 l1 x8_1).f3))) (fun _ hk => hk.2) (.bool ((rd_T37 l1 x8_1).f4))) (fun _ hk => hk.2) (.slice A124_5 ((rd_T37 l1 x8_1).f5).length c124_5)) (fun _ hk => hk.2) (.int .i64 ((rd_T37 l1 x8_1).f6.f0))) (fun _ hk => hk.2) (.int .u64 ((rd_T37 l1 x8_1).f6.f1))) (fun _ hk => hk.2) (.bool ((rd_T37 l1 x8_1).f7))) (fun _ hk => hk.2) (.int .u64 ((rd_T37 l1 x8_1).f8))) (fun _ hk => trivial)⟩, ⟨by (with_reducible repeat (first | refine blk_drewN ?_ _ | refine blk_drew ?_ | refine blk_alloc ?_ _)); refine blk_far ?_ NB123_125.out _; (with_reducible repeat (first | refine blk_drewN ?_ _ | refine blk_drew ?_ | refine blk_alloc ?_ _)); refine blk_far ?_ NB123_125.out _; (with_reducible repeat (first | refine blk_drewN ?_ _ | refine blk_drew ?_ | refine blk_alloc ?_ _)); refine blk_far ?_ NB123_125.out _; (with_reducible repeat (first | refine blk_drewN ?_ _ | refine blk_drew ?_ | refine blk_alloc ?_ _)); refine blk_far ?_ NB123_125.out _; (with_reducible repeat (first | refine blk_drewN ?_ _ | refine blk_drew ?_ | refine blk_alloc ?_ _)); refine blk_far ?_ NB123_125.out _; (with_reducible repeat (first | refine blk_drewN ?_ _ | refine blk_drew ?_ | refine blk_alloc ?_ _)); refine blk_far ?_ NB123_125.out _; (with_reducible repeat (first | refine blk_drewN ?_ _ | refine blk_drew ?_ | refine blk_alloc ?_ _)); refine blk_far ?_ NB123_125.out _; (with_reducible repeat (first | refine blk_drewN ?_ _ | refine blk_drew ?_ | refine blk_alloc ?_ _)); refine blk_far ?_ NB123_125.out _; (with_reducible repeat (first | refine blk_drewN ?_ _ | refine blk_drew ?_ | refine blk_alloc ?_ _)); refine blk_far ?_ NB123_125.out _; (with_reducible repeat (first | refine blk_drewN ?_ _ | refine blk_drew ?_ | refine blk_alloc ?_ _)); refine blk_far ?_ NB123_125.out _; (with_reducible repeat (first | refine blk_drewN ?_ _ | refine blk_drew ?_ | refine blk_alloc ?_ _)); exact BK123.out⟩, ⟨by (with_reducible repeat (first | refine blk_drewN ?_ _ | refine blk_drew ?_ | refine blk_alloc ?_ _)); refine blk_put (cs := #[.string ((rd_T37 l1 x8_1).f0), .string ((rd_T37 l1 x8_1).f1), .int .u64 ((rd_T37 l1 x8_1).f2), .int .u64 ((rd_T37 l1 x8_1).f3), .bool ((rd_T37 l1 x8_1).f4), .slice A124_5 ((rd_T37 l1 x8_1).f5).length c124_5, .int .i64 ((rd_T37 l1 x8_1).f6.f0), .int .u64 ((rd_T37 l1 x8_1).f6.f1), .bool ((rd_T37 l1 x8_1).f7), .int .u64 0]) ?_ 9 _ rfl; (with_reducible repeat (first | refine blk_drewN ?_ _ | refine blk_drew ?_ | refine blk_alloc ?_ _)); refine blk_put (cs := #[.string ((rd_T37 l1 x8_1).f0), .string ((rd_T37 l1 x8_1).f1), .int .u64 ((rd_T37 l1 x8_1).f2), .int .u64 ((rd_T37 l1 x8_1).f3), .bool ((rd_T37 l1 x8_1).f4), .slice A124_5 ((rd_T37 l1 x8_1).f5).length c124_5, .int .i64 ((rd_T37 l1 x8_1).f6.f0), .int .u64 ((rd_T37 l1 x8_1).f6.f1), .bool false, .int .u64 0]) ?_ 8 _ rfl; (with_reducible repeat (first | refine blk_drewN ?_ _ | refine blk_drew ?_ | refine blk_alloc ?_ _)); refine blk_put (cs := #[.string ((rd_T37 l1 x8_1).f0), .string ((rd_T37 l1 x8_1).f1), .int .u64 ((rd_T37 l1 x8_1).f2), .int .u64 ((rd_T37 l1 x8_1).f3), .bool ((rd_T37 l1 x8_1).f4), .slice A124_5 ((rd_T37 l1 x8_1).f5).length c124_5, .int .i64 ((rd_T37 l1 x8_1).f6.f0), .int .u64 0, .bool false, .int .u64 0]) ?_ 7 _ rfl; (with_reducible repeat (first | refine blk_drewN ?_ _ | refine blk_drew ?_ | refine blk_alloc ?_ _)); refine blk_put (cs := #[.string ((rd_T37 l1 x8_1).f0), .string ((rd_T37 l1 x8_1).f1), .int .u64 ((rd_T37 l1 x8_1).f2), .int .u64 ((rd_T37 l1 x8_1).f3), .bool ((rd_T37 l1 x8_1).f4), .slice A124_5 ((rd_T37 l1 x8_1).f5).length c124_5, .int .i64 0, .int .u64 0, .bool false, .int .u64 0]) ?_ 6 _ rfl; (with_reducible repeat (first | refine blk_drewN ?_ _ | refine blk_drew ?_ | refine blk_alloc ?_ _)); refine blk_put (cs := #[.string ((rd_T37 l1 x8_1).f0), .string ((rd_T37 l1 x8_1).f1), .int .u64 ((rd_T37 l1 x8_1).f2), .int .u64 ((rd_T37 l1 x8_1).f3), .bool ((rd_T37 l1 x8_1).f4), .slice none 0 0, .int .i64 0, .int .u64 0, .bool false, .int .u64 0]) ?_ 5 _ rfl; (with_reducible repeat (first | refine blk_drewN ?_ _ | refine blk_drew ?_ | refine blk_alloc ?_ _)); refine blk_put (cs := #[.string ((rd_T37 l1 x8_1).f0), .string ((rd_T37 l1 x8_1).f1), .int .u64 ((rd_T37 l1 x8_1).f2), .int .u64 ((rd_T37 l1 x8_1).f3), .bool false, .slice none 0 0, .int .i64 0, .int .u64 0, .bool false, .int .u64 0]) ?_ 4 _ rfl; (with_reducible repeat (first | refine blk_drewN ?_ _ | refine blk_drew ?_ | refine blk_alloc ?_ _)); refine blk_put (cs := #[.string ((rd_T37 l1 x8_1).f0), .string ((rd_T37 l1 x8_1).f1), .int .u64 ((rd_T37 l1 x8_1).f2), .int .u64 0, .bool false, .slice none 0 0, .int .i64 0, .int .u64 0, .bool false, .int .u64 0]) ?_ 3 _ rfl; (with_reducible repeat (first | refine blk_drewN ?_ _ | refine blk_drew ?_ | refine blk_alloc ?_ _)); refine blk_put (cs := #[.string ((rd_T37 l1 x8_1).f0), .string ((rd_T37 l1 x8_1).f1), .int .u64 0, .int .u64 0, .bool false, .slice none 0 0, .int .i64 0, .int .u64 0, .bool false, .int .u64 0]) ?_ 2 _ rfl; (with_reducible repeat (first | refine blk_drewN ?_ _ | refine blk_drew ?_ | refine blk_alloc ?_ _)); refine blk_put (cs := #[.string ((rd_T37 l1 x8_1).f0), .string (⟨#[]⟩ : ByteArray), .int .u64 0, .int .u64 0, .bool false, .slice none 0 0, .int .i64 0, .int .u64 0, .bool false, .int .u64 0]) ?_ 1 _ rfl; (with_reducible repeat (first | refine blk_drewN ?_ _ | refine blk_drew ?_ | refine blk_alloc ?_ _)); refine blk_put (cs := #[.string (⟨#[]⟩ : ByteArray), .string (⟨#[]⟩ : ByteArray), .int .u64 0, .int .u64 0, .bool false, .slice none 0 0, .int .i64 0, .int .u64 0, .bool false, .int .u64 0]) ?_ 0 _ rfl; (with_reducible repeat (first | refine blk_drewN ?_ _ | refine blk_drew ?_ | refine blk_alloc ?_ _)); exact BK125.out⟩, ⟨by repeat (first | (with_reducible first | exact HB.out | apply below_alloc | apply pw_below_drewN | apply below_drew1 | refine below_set ?_ GE123.out | refine below_set ?_ GE125.out) | exact HB.out)⟩⟩
          case rest =>
            clear HC7
            try clear c1
            try clear p1
            try clear q1
            try clear hx1
            try clear p2
            try clear c5
            try clear c5b0
            try clear c6
            try clear c6b0
            try clear c9
            try clear c11
            try clear c11b0
            try clear c11b1
            try clear c12
            try clear p12
            try clear q12
            try clear hx12
            try clear c13
            try clear c17
            try clear hcz10_0
            try clear hcz10_1
            try clear hcz10_2
            try clear hcz10_3
            try clear hcz10_4
            try clear hcz10_5
            try clear hcz10_6
            try clear hcz10_7
            try clear hcz10_8
            try clear hcz10_9
            try clear hcz14_0
            try clear hcz14_1
            try clear hcz14_2
            try clear hcz14_3
            try clear hcz14_4
            try clear hcz14_5
            try clear hcz14_6
            try clear hcz14_7
            try clear hcz14_8
            try clear hcz14_9
            try clear hcz15_0
            try clear hcz15_1
            try clear hcz15_2
            try clear hcz15_3
            try clear hcz15_4
            try clear hcz15_5
            try clear hcz15_6
            try clear hcz15_7
            try clear hcz15_8
            try clear hcz18_0
            try clear hcz18_1
            try clear hcz18_2
            try clear hcz18_3
            try clear hcz18_4
            try clear hcz18_5
            try clear hcz18_6
            try clear hcz18_7
            try clear hcz18_8
            try clear hcz18_9
            try clear hcz19_0
            try clear hcz19_1
            try clear hcz19_2
            try clear hcz19_3
            try clear hcz19_4
            try clear hcz19_5
            try clear hcz19_6
            try clear hcz19_7
            try clear hcz19_8
            try clear hfz10_0
            try clear hfz10_1
            try clear hfz10_2
            try clear hfz10_3
            try clear hfz10_4
            try clear hfz10_5
            try clear hfz10_6
            try clear hfz10_7
            try clear hfz10_8
            try clear hfz10_9
            try clear hfz14_0
            try clear hfz14_1
            try clear hfz14_2
            try clear hfz14_3
            try clear hfz14_4
            try clear hfz14_5
            try clear hfz14_6
            try clear hfz14_7
            try clear hfz14_8
            try clear hfz14_9
            try clear hfz15_0
            try clear hfz15_1
            try clear hfz15_2
            try clear hfz15_3
            try clear hfz15_4
            try clear hfz15_5
            try clear hfz15_6
            try clear hfz15_7
            try clear hfz15_8
            try clear hfz18_0
            try clear hfz18_1
            try clear hfz18_2
            try clear hfz18_3
            try clear hfz18_4
            try clear hfz18_5
            try clear hfz18_6
            try clear hfz18_7
            try clear hfz18_8
            try clear hfz18_9
            try clear hfz19_0
            try clear hfz19_1
            try clear hfz19_2
            try clear hfz19_3
            try clear hfz19_4
            try clear hfz19_5
            try clear hfz19_6
            try clear hfz19_7
            try clear hfz19_8
            try clear hx124_0
            try clear hx124_1
            try clear hx124_2
            try clear hx124_3
            try clear hx124_4
            try clear hx124_5
            try clear hx124_6
            try clear hx124_7
            try clear hx124_8
            try clear hx124_9
            try clear p124
            try clear p2
            try clear q124
            obtain ⟨kq, x33_6, rfl, HA, HJ6, HO_7, BK123, BK125, HB⟩ := hcut
            cases kq with
            | zero => exact absurd HA.out (by simp [steleref17_Due.j1])
            | succ kj6 =>
              have H := HA.out
              clear HA
              simp only [steleref17_Due.j1] at H
              by_cases c20 : x33_6 = true
              · subst c20
                have H1 : (steleref17_Due.l0 kj6 l1 a2 x7_1 (wrap64 (x8_1 + 1)) a0_0 a0_1 a0_2 a0_3 a0_4 a0_5 a0_6 a0_7 a0_8) = some r := by rw [if_pos rfl] at H; exact H
                clear H
                have H := H1
                clear H1
                have H' := Aside0.mk H
                clear H
                go_wp2
                go_roundg kj6
                case measure => have := HK1.out; have := HJ6.out; omega
                case rel => exact ⟨(x7_1), (wrap64 (x8_1 + 1)), (by first | rfl | (simp; done) | (simp [*]; done)), H', ⟨by have := HK1.out; have := HJ6.out; omega⟩, ⟨by (with_reducible repeat (first | apply Kd.R_alloc | apply Kd.R_drewN | apply Kd.R_drew)); exact HO_7.out⟩, ⟨by (with_reducible repeat (first | refine blk_drewN ?_ _ | refine blk_drew ?_ | refine blk_alloc ?_ _)); exact BK123.out⟩, ⟨by repeat (first | (with_reducible first | exact HB.out | apply below_alloc | apply pw_below_drewN | apply below_drew1 | refine below_set ?_ GE123.out | refine below_set ?_ GE125.out) | exact HB.out)⟩⟩
              · replace c20 := Bool.eq_false_iff.mpr c20
                subst c20
                have H1 : ((steleref17_Latest.f kj6 l1 ((rd_T37 l1 x8_1).f0) ((rd_T37 l1 x8_1).f1)).bind fun t127 => (if t127 = x8_1 then (if ((rd_T37 l1 x8_1).f4) = true then (steleref17_Due.l0 kj6 l1 a2 x7_1 (wrap64 (x8_1 + 1)) a0_0 a0_1 a0_2 a0_3 a0_4 a0_5 a0_6 a0_7 a0_8) else (if a0_1 = 0 then (if a0_7 > 0 then ((steleref03_Later.f kj6 ((rd_T37 l1 x8_1).f8) a0_7).bind fun t128 => (if t128 ≤ a2 then (if x7_1.length < 17592186044416 then (steleref17_Due.l0 kj6 l1 a2 (x7_1 ++ [((rd_T37 l1 x8_1).f3)]) (wrap64 (x8_1 + 1)) a0_0 a0_1 a0_2 a0_3 a0_4 a0_5 a0_6 a0_7 a0_8) else (none)) else (steleref17_Due.l0 kj6 l1 a2 x7_1 (wrap64 (x8_1 + 1)) a0_0 a0_1 a0_2 a0_3 a0_4 a0_5 a0_6 a0_7 a0_8))) else (steleref17_Due.l0 kj6 l1 a2 x7_1 (wrap64 (x8_1 + 1)) a0_0 a0_1 a0_2 a0_3 a0_4 a0_5 a0_6 a0_7 a0_8)) else (steleref17_Due.l0 kj6 l1 a2 x7_1 (wrap64 (x8_1 + 1)) a0_0 a0_1 a0_2 a0_3 a0_4 a0_5 a0_6 a0_7 a0_8))) else (if a0_8 > 0 then ((steleref03_Later.f kj6 ((rd_T37 l1 x8_1).f8) a0_8).bind fun t132 => (if t132 ≤ a2 then (if x7_1.length < 17592186044416 then (steleref17_Due.l0 kj6 l1 a2 (x7_1 ++ [((rd_T37 l1 x8_1).f3)]) (wrap64 (x8_1 + 1)) a0_0 a0_1 a0_2 a0_3 a0_4 a0_5 a0_6 a0_7 a0_8) else (none)) else (steleref17_Due.l0 kj6 l1 a2 x7_1 (wrap64 (x8_1 + 1)) a0_0 a0_1 a0_2 a0_3 a0_4 a0_5 a0_6 a0_7 a0_8))) else (steleref17_Due.l0 kj6 l1 a2 x7_1 (wrap64 (x8_1 + 1)) a0_0 a0_1 a0_2 a0_3 a0_4 a0_5 a0_6 a0_7 a0_8)))) = some r := by rw [if_neg (show ¬ (false = true) by decide)] at H; exact H
                clear H
                have H := H1
                clear H1
                replace H := Option.bind_eq_some_iff.mp H
                obtain ⟨t127, A210, H⟩ := H
                replace H : (if t127 = x8_1 then (if ((rd_T37 l1 x8_1).f4) = true then (steleref17_Due.l0 kj6 l1 a2 x7_1 (wrap64 (x8_1 + 1)) a0_0 a0_1 a0_2 a0_3 a0_4 a0_5 a0_6 a0_7 a0_8) else (if a0_1 = 0 then (if a0_7 > 0 then ((steleref03_Later.f kj6 ((rd_T37 l1 x8_1).f8) a0_7).bind fun t128 => (if t128 ≤ a2 then (if x7_1.length < 17592186044416 then (steleref17_Due.l0 kj6 l1 a2 (x7_1 ++ [((rd_T37 l1 x8_1).f3)]) (wrap64 (x8_1 + 1)) a0_0 a0_1 a0_2 a0_3 a0_4 a0_5 a0_6 a0_7 a0_8) else (none)) else (steleref17_Due.l0 kj6 l1 a2 x7_1 (wrap64 (x8_1 + 1)) a0_0 a0_1 a0_2 a0_3 a0_4 a0_5 a0_6 a0_7 a0_8))) else (steleref17_Due.l0 kj6 l1 a2 x7_1 (wrap64 (x8_1 + 1)) a0_0 a0_1 a0_2 a0_3 a0_4 a0_5 a0_6 a0_7 a0_8)) else (steleref17_Due.l0 kj6 l1 a2 x7_1 (wrap64 (x8_1 + 1)) a0_0 a0_1 a0_2 a0_3 a0_4 a0_5 a0_6 a0_7 a0_8))) else (if a0_8 > 0 then ((steleref03_Later.f kj6 ((rd_T37 l1 x8_1).f8) a0_8).bind fun t132 => (if t132 ≤ a2 then (if x7_1.length < 17592186044416 then (steleref17_Due.l0 kj6 l1 a2 (x7_1 ++ [((rd_T37 l1 x8_1).f3)]) (wrap64 (x8_1 + 1)) a0_0 a0_1 a0_2 a0_3 a0_4 a0_5 a0_6 a0_7 a0_8) else (none)) else (steleref17_Due.l0 kj6 l1 a2 x7_1 (wrap64 (x8_1 + 1)) a0_0 a0_1 a0_2 a0_3 a0_4 a0_5 a0_6 a0_7 a0_8))) else (steleref17_Due.l0 kj6 l1 a2 x7_1 (wrap64 (x8_1 + 1)) a0_0 a0_1 a0_2 a0_3 a0_4 a0_5 a0_6 a0_7 a0_8))) = some r := H
                have A21 := Aside0.mk A210
                clear A210
                by_cases c22 : t127 = x8_1
                · rw [if_pos c22] at H
                  have c22b0 : (t127 == x8_1) = true := beq_iff_eq.mpr c22
                  have c22b1 : (t127 != x8_1) = false := bne_eq_false_iff_eq.mpr c22
                  clear c22
                  by_cases c23 : ((rd_T37 l1 x8_1).f4) = true
                  · rw [if_pos c23] at H
                    have c23b0 : ((rd_T37 l1 x8_1).f4) = true := c23
                    clear c23
                    have H' := Aside0.mk H
                    clear H
                    have hnb24 := NB125_123.out
                    have hnc24 := NB123_125.out
                    have hcz25_0 : wc.cell? ⟨gb125, 0, none⟩ = some (.string ((rd_T37 l1 x8_1).f0)) := (blk_cell BK125.out 0).trans rfl
                    have hcz25_1 : wc.cell? ⟨gb125, 1, none⟩ = some (.string ((rd_T37 l1 x8_1).f1)) := (blk_cell BK125.out 1).trans rfl
                    have hcz25_2 : wc.cell? ⟨gb125, 2, none⟩ = some (.int .u64 ((rd_T37 l1 x8_1).f2)) := (blk_cell BK125.out 2).trans rfl
                    have hcz25_3 : wc.cell? ⟨gb125, 3, none⟩ = some (.int .u64 ((rd_T37 l1 x8_1).f3)) := (blk_cell BK125.out 3).trans rfl
                    have hcz25_4 : wc.cell? ⟨gb125, 4, none⟩ = some (.bool ((rd_T37 l1 x8_1).f4)) := (blk_cell BK125.out 4).trans rfl
                    have hcz25_5 : wc.cell? ⟨gb125, 5, none⟩ = some (.slice A124_5 ((rd_T37 l1 x8_1).f5).length c124_5) := (blk_cell BK125.out 5).trans rfl
                    have hcz25_6 : wc.cell? ⟨gb125, 6, none⟩ = some (.int .i64 ((rd_T37 l1 x8_1).f6.f0)) := (blk_cell BK125.out 6).trans rfl
                    have hcz25_7 : wc.cell? ⟨gb125, 7, none⟩ = some (.int .u64 ((rd_T37 l1 x8_1).f6.f1)) := (blk_cell BK125.out 7).trans rfl
                    have hcz25_8 : wc.cell? ⟨gb125, 8, none⟩ = some (.bool ((rd_T37 l1 x8_1).f7)) := (blk_cell BK125.out 8).trans rfl
                    have hcz25_9 : wc.cell? ⟨gb125, 9, none⟩ = some (.int .u64 ((rd_T37 l1 x8_1).f8)) := (blk_cell BK125.out 9).trans rfl
                    have hfz25_0 := blk_frozen BK125.out 0
                    have hfz25_1 := blk_frozen BK125.out 1
                    have hfz25_2 := blk_frozen BK125.out 2
                    have hfz25_3 := blk_frozen BK125.out 3
                    have hfz25_4 := blk_frozen BK125.out 4
                    have hfz25_5 := blk_frozen BK125.out 5
                    have hfz25_6 := blk_frozen BK125.out 6
                    have hfz25_7 := blk_frozen BK125.out 7
                    have hfz25_8 := blk_frozen BK125.out 8
                    have hfz25_9 := blk_frozen BK125.out 9
                    go_wp2_with (first | ((with_reducible refine gate_callee (f := 7) rfl ?_); refine goesL_ (some 39) rfl rfl Try.func7 (by kernel_rfl) rfl #[.slice (some ad124) l1.length c1, .string ((rd_T37 l1 x8_1).f0), .string ((rd_T37 l1 x8_1).f1)] rfl (by (try simp only [List.map_toArray, List.map_cons, List.map_nil]); first | done | rfl | (simp only [List.length_drop, List.length_take]; rfl)) ?_; (with_reducible refine (steleref17_Latest.calls kj6 _ _ l1 ((rd_T37 l1 x8_1).f0) ((rd_T37 l1 x8_1).f1) t127 _ ?side1 ?side2 A21.out).mono ?_); (case side1 => repeat (first | exact (Kd.C_below HR1.out HB.out) | (with_reducible refine Kd.C_alloc ?_ _) | (with_reducible refine Kd.C_drewN ?_ _) | (with_reducible refine Kd.C_drew ?_))); (case side2 => exact HC1.out); rintro e w' ⟨rfl, ⟨nd, rfl⟩⟩; refine ⟨_, rfl, ?_⟩))
                    go_roundg kj6
                    case measure => have := HK1.out; have := HJ6.out; omega
                    case rel => exact ⟨(x7_1), (wrap64 (x8_1 + 1)), (by first | rfl | (simp; done) | (simp [*]; done)), H', ⟨by have := HK1.out; have := HJ6.out; omega⟩, ⟨by (with_reducible repeat (first | apply Kd.R_alloc | apply Kd.R_drewN | apply Kd.R_drew)); exact HO_7.out⟩, ⟨by (with_reducible repeat (first | refine blk_drewN ?_ _ | refine blk_drew ?_ | refine blk_alloc ?_ _)); exact BK123.out⟩, ⟨by repeat (first | (with_reducible first | exact HB.out | apply below_alloc | apply pw_below_drewN | apply below_drew1 | refine below_set ?_ GE123.out | refine below_set ?_ GE125.out) | exact HB.out)⟩⟩
                  · rw [if_neg c23] at H
                    have c23b0 : ((rd_T37 l1 x8_1).f4) = false := by simpa using c23
                    clear c23
                    by_cases c26 : a0_1 = 0
                    · rw [if_pos c26] at H
                      have c26b0 : (a0_1 == 0) = true := beq_iff_eq.mpr c26
                      have c26b1 : (a0_1 != 0) = false := bne_eq_false_iff_eq.mpr c26
                      clear c26
                      by_cases c27 : a0_7 > 0
                      · rw [if_pos c27] at H
                        have c27b0 : decide (0 < a0_7) = true := decide_eq_true c27
                        clear c27
                        replace H := Option.bind_eq_some_iff.mp H
                        obtain ⟨t128, A280, H⟩ := H
                        replace H : (if t128 ≤ a2 then (if x7_1.length < 17592186044416 then (steleref17_Due.l0 kj6 l1 a2 (x7_1 ++ [((rd_T37 l1 x8_1).f3)]) (wrap64 (x8_1 + 1)) a0_0 a0_1 a0_2 a0_3 a0_4 a0_5 a0_6 a0_7 a0_8) else (none)) else (steleref17_Due.l0 kj6 l1 a2 x7_1 (wrap64 (x8_1 + 1)) a0_0 a0_1 a0_2 a0_3 a0_4 a0_5 a0_6 a0_7 a0_8)) = some r := H
                        have A28 := Aside0.mk A280
                        clear A280
                        by_cases c29 : t128 ≤ a2
                        · rw [if_pos c29] at H
                          have c29b0 : decide (t128 ≤ a2) = true := decide_eq_true c29
                          clear c29
                          by_cases c30 : x7_1.length < 17592186044416
                          · rw [if_pos c30] at H
                            have LMc30 := Aside0.mk c30
                            clear c30
                            obtain ⟨y129, hy129⟩ : ∃ y_ : List Int, y_ = (x7_1 ++ [((rd_T37 l1 x8_1).f3)]) := ⟨_, rfl⟩
                            replace H : (steleref17_Due.l0 kj6 l1 a2 y129 (wrap64 (x8_1 + 1)) a0_0 a0_1 a0_2 a0_3 a0_4 a0_5 a0_6 a0_7 a0_8) = some r := by first | (rw [hy129]; with_reducible exact H) | (have H2_ := (Option.bind_some _ _).symm.trans H; rw [hy129]; with_reducible exact H2_) | (have H2_ := (Option.bind_some _ _).symm.trans H; with_reducible exact H2_) | with_reducible exact H | (rw [hy129]; exact H) | exact H
                            have Ny129 := Aside0.mk hy129
                            clear hy129
                            have H' := Aside0.mk H
                            clear H
                            have hnb31 := NB125_123.out
                            have hnc31 := NB123_125.out
                            have hcz32_0 : wc.cell? ⟨gb125, 0, none⟩ = some (.string ((rd_T37 l1 x8_1).f0)) := (blk_cell BK125.out 0).trans rfl
                            have hcz32_1 : wc.cell? ⟨gb125, 1, none⟩ = some (.string ((rd_T37 l1 x8_1).f1)) := (blk_cell BK125.out 1).trans rfl
                            have hcz32_2 : wc.cell? ⟨gb125, 2, none⟩ = some (.int .u64 ((rd_T37 l1 x8_1).f2)) := (blk_cell BK125.out 2).trans rfl
                            have hcz32_3 : wc.cell? ⟨gb125, 3, none⟩ = some (.int .u64 ((rd_T37 l1 x8_1).f3)) := (blk_cell BK125.out 3).trans rfl
                            have hcz32_4 : wc.cell? ⟨gb125, 4, none⟩ = some (.bool ((rd_T37 l1 x8_1).f4)) := (blk_cell BK125.out 4).trans rfl
                            have hcz32_5 : wc.cell? ⟨gb125, 5, none⟩ = some (.slice A124_5 ((rd_T37 l1 x8_1).f5).length c124_5) := (blk_cell BK125.out 5).trans rfl
                            have hcz32_6 : wc.cell? ⟨gb125, 6, none⟩ = some (.int .i64 ((rd_T37 l1 x8_1).f6.f0)) := (blk_cell BK125.out 6).trans rfl
                            have hcz32_7 : wc.cell? ⟨gb125, 7, none⟩ = some (.int .u64 ((rd_T37 l1 x8_1).f6.f1)) := (blk_cell BK125.out 7).trans rfl
                            have hcz32_8 : wc.cell? ⟨gb125, 8, none⟩ = some (.bool ((rd_T37 l1 x8_1).f7)) := (blk_cell BK125.out 8).trans rfl
                            have hcz32_9 : wc.cell? ⟨gb125, 9, none⟩ = some (.int .u64 ((rd_T37 l1 x8_1).f8)) := (blk_cell BK125.out 9).trans rfl
                            have hfz32_0 := blk_frozen BK125.out 0
                            have hfz32_1 := blk_frozen BK125.out 1
                            have hfz32_2 := blk_frozen BK125.out 2
                            have hfz32_3 := blk_frozen BK125.out 3
                            have hfz32_4 := blk_frozen BK125.out 4
                            have hfz32_5 := blk_frozen BK125.out 5
                            have hfz32_6 := blk_frozen BK125.out 6
                            have hfz32_7 := blk_frozen BK125.out 7
                            have hfz32_8 := blk_frozen BK125.out 8
                            have hfz32_9 := blk_frozen BK125.out 9
                            go_wp2_with (first | ((with_reducible refine gate_callee (f := 7) rfl ?_); refine goesL_ (some 39) rfl rfl Try.func7 (by kernel_rfl) rfl #[.slice (some ad124) l1.length c1, .string ((rd_T37 l1 x8_1).f0), .string ((rd_T37 l1 x8_1).f1)] rfl (by (try simp only [List.map_toArray, List.map_cons, List.map_nil]); first | done | rfl | (simp only [List.length_drop, List.length_take]; rfl)) ?_; (with_reducible refine (steleref17_Latest.calls kj6 _ _ l1 ((rd_T37 l1 x8_1).f0) ((rd_T37 l1 x8_1).f1) t127 _ ?side1 ?side2 A21.out).mono ?_); (case side1 => repeat (first | exact (Kd.C_below HR1.out HB.out) | (with_reducible refine Kd.C_alloc ?_ _) | (with_reducible refine Kd.C_drewN ?_ _) | (with_reducible refine Kd.C_drew ?_))); (case side2 => exact HC1.out); rintro e w' ⟨rfl, ⟨nd, rfl⟩⟩; refine ⟨_, rfl, ?_⟩; have hcz33_0 : wc.cell? ⟨gb123, 0, none⟩ = some (.string a0_0) := (blk_cell BK123.out 0).trans rfl; have hcz33_1 : wc.cell? ⟨gb123, 1, none⟩ = some (.int .i64 a0_1) := (blk_cell BK123.out 1).trans rfl; have hcz33_2 : wc.cell? ⟨gb123, 2, none⟩ = some (.bool a0_2) := (blk_cell BK123.out 2).trans rfl; have hcz33_3 : wc.cell? ⟨gb123, 3, none⟩ = some (.bool a0_3) := (blk_cell BK123.out 3).trans rfl; have hcz33_4 : wc.cell? ⟨gb123, 4, none⟩ = some (.int .i64 a0_4) := (blk_cell BK123.out 4).trans rfl; have hcz33_5 : wc.cell? ⟨gb123, 5, none⟩ = some (.int .i64 a0_5) := (blk_cell BK123.out 5).trans rfl; have hcz33_6 : wc.cell? ⟨gb123, 6, none⟩ = some (.string a0_6) := (blk_cell BK123.out 6).trans rfl; have hcz33_7 : wc.cell? ⟨gb123, 7, none⟩ = some (.int .i64 a0_7) := (blk_cell BK123.out 7).trans rfl; have hcz33_8 : wc.cell? ⟨gb123, 8, none⟩ = some (.int .i64 a0_8) := (blk_cell BK123.out 8).trans rfl; have hfz33_0 := blk_frozen BK123.out 0; have hfz33_1 := blk_frozen BK123.out 1; have hfz33_2 := blk_frozen BK123.out 2; have hfz33_3 := blk_frozen BK123.out 3; have hfz33_4 := blk_frozen BK123.out 4; have hfz33_5 := blk_frozen BK123.out 5; have hfz33_6 := blk_frozen BK123.out 6; have hfz33_7 := blk_frozen BK123.out 7; have hfz33_8 := blk_frozen BK123.out 8) | (go_at_call 19; (with_reducible refine (steleref03_Later.calls kj6 ((rd_T37 l1 x8_1).f8) a0_7 t128 _ A28.out).mono ?_); rintro e w' ⟨rfl, ⟨nd, rfl⟩⟩) | ((with_reducible refine gate_builtin (b := .append) (xs := #[.tmp 87, .tmp 90]) rfl ?_); at_builtin; refine Kd.R_append (Kd.int .u64) (w0 := w) w.heap.size rfl (.tmp 87) (.tmp 90) 30 28 (.int .u64 0) 8 rfl Try.underlying30 info28 rfl (by decide) (by omega) u7 x7_1 ((rd_T37 l1 x8_1).f3) [.int .u64 ((rd_T37 l1 x8_1).f3)] (fun _ => True) (fun _ => False) rfl rfl ?aP (fun _ hk => hk.elim) ?aF ?aO ?aB ?aS ?aL ?_; (case aP => exact rfl); (case aB => exact (by repeat (first | (with_reducible first | exact HB.out | apply below_alloc | apply pw_below_drewN | apply below_drew1 | refine below_set ?_ GE123.out | refine below_set ?_ GE125.out) | exact HB.out))); (case aF => exact (fun _ _ => trivial)); (case aO => exact (by (with_reducible repeat (first | apply Kd.R_alloc | apply Kd.R_drewN | apply Kd.R_drew)); exact HO_7.out)); (case aS => exact (below_size (by repeat (first | (with_reducible first | exact HB.out | apply below_alloc | apply pw_below_drewN | apply below_drew1 | refine below_set ?_ GE123.out | refine below_set ?_ GE125.out) | exact HB.out)))); (case aL => have := LMc30.out; omega); intro v130 w34 ho hb hg hat; rw [← Ny129.out] at ho; have n0_ := Aside0.mk (blk_grown (g := gb123) (o := .cells #[.string a0_0, .int .i64 a0_1, .bool a0_2, .bool a0_3, .int .i64 a0_4, .int .i64 a0_5, .string a0_6, .int .i64 a0_7, .int .i64 a0_8] 27 (0, 0)) (by (with_reducible repeat (first | refine blk_drewN ?_ _ | refine blk_drew ?_ | refine blk_alloc ?_ _)); exact BK123.out) hg (Kd.R_ne HO_7.out BK123.out (by decide))); have n1_ := Aside0.mk (blk_grown (g := gb125) (o := .cells #[.string ((rd_T37 l1 x8_1).f0), .string ((rd_T37 l1 x8_1).f1), .int .u64 ((rd_T37 l1 x8_1).f2), .int .u64 ((rd_T37 l1 x8_1).f3), .bool ((rd_T37 l1 x8_1).f4), .slice A124_5 ((rd_T37 l1 x8_1).f5).length c124_5, .int .i64 ((rd_T37 l1 x8_1).f6.f0), .int .u64 ((rd_T37 l1 x8_1).f6.f1), .bool ((rd_T37 l1 x8_1).f7), .int .u64 ((rd_T37 l1 x8_1).f8)] 37 (0, 0)) (by (with_reducible repeat (first | refine blk_drewN ?_ _ | refine blk_drew ?_ | refine blk_alloc ?_ _)); exact BK125.out) hg (Kd.R_ne HO_7.out BK125.out (by decide))); have n2_ := Aside0.mk (hb); have n3_ := Aside0.mk (ho); clear BK123; clear BK125; clear HB; clear HO_7; have BK123 := n0_; have BK125 := n1_; have HB := n2_; have HO131 := n3_; clear n0_ n1_ n2_ n3_; clear ho hb hg hat))
                            go_roundg kj6
                            case measure => have := HK1.out; have := HJ6.out; omega
                            case rel => exact ⟨(y129), (wrap64 (x8_1 + 1)), (by first | rfl | (simp; done) | (simp [*]; done)), H', ⟨by have := HK1.out; have := HJ6.out; omega⟩, ⟨by (with_reducible repeat (first | apply Kd.R_alloc | apply Kd.R_drewN | apply Kd.R_drew)); exact HO131.out⟩, ⟨by (with_reducible repeat (first | refine blk_drewN ?_ _ | refine blk_drew ?_ | refine blk_alloc ?_ _)); exact BK123.out⟩, ⟨by repeat (first | (with_reducible first | exact HB.out | apply below_alloc | apply pw_below_drewN | apply below_drew1 | refine below_set ?_ GE123.out | refine below_set ?_ GE125.out) | exact HB.out)⟩⟩
                          · rw [if_neg c30] at H
                            exact absurd H (by simp)
                        · rw [if_neg c29] at H
                          have c29b0 : decide (t128 ≤ a2) = false := decide_eq_false c29
                          clear c29
                          have H' := Aside0.mk H
                          clear H
                          have hnb35 := NB125_123.out
                          have hnc35 := NB123_125.out
                          have hcz36_0 : wc.cell? ⟨gb125, 0, none⟩ = some (.string ((rd_T37 l1 x8_1).f0)) := (blk_cell BK125.out 0).trans rfl
                          have hcz36_1 : wc.cell? ⟨gb125, 1, none⟩ = some (.string ((rd_T37 l1 x8_1).f1)) := (blk_cell BK125.out 1).trans rfl
                          have hcz36_2 : wc.cell? ⟨gb125, 2, none⟩ = some (.int .u64 ((rd_T37 l1 x8_1).f2)) := (blk_cell BK125.out 2).trans rfl
                          have hcz36_3 : wc.cell? ⟨gb125, 3, none⟩ = some (.int .u64 ((rd_T37 l1 x8_1).f3)) := (blk_cell BK125.out 3).trans rfl
                          have hcz36_4 : wc.cell? ⟨gb125, 4, none⟩ = some (.bool ((rd_T37 l1 x8_1).f4)) := (blk_cell BK125.out 4).trans rfl
                          have hcz36_5 : wc.cell? ⟨gb125, 5, none⟩ = some (.slice A124_5 ((rd_T37 l1 x8_1).f5).length c124_5) := (blk_cell BK125.out 5).trans rfl
                          have hcz36_6 : wc.cell? ⟨gb125, 6, none⟩ = some (.int .i64 ((rd_T37 l1 x8_1).f6.f0)) := (blk_cell BK125.out 6).trans rfl
                          have hcz36_7 : wc.cell? ⟨gb125, 7, none⟩ = some (.int .u64 ((rd_T37 l1 x8_1).f6.f1)) := (blk_cell BK125.out 7).trans rfl
                          have hcz36_8 : wc.cell? ⟨gb125, 8, none⟩ = some (.bool ((rd_T37 l1 x8_1).f7)) := (blk_cell BK125.out 8).trans rfl
                          have hcz36_9 : wc.cell? ⟨gb125, 9, none⟩ = some (.int .u64 ((rd_T37 l1 x8_1).f8)) := (blk_cell BK125.out 9).trans rfl
                          have hfz36_0 := blk_frozen BK125.out 0
                          have hfz36_1 := blk_frozen BK125.out 1
                          have hfz36_2 := blk_frozen BK125.out 2
                          have hfz36_3 := blk_frozen BK125.out 3
                          have hfz36_4 := blk_frozen BK125.out 4
                          have hfz36_5 := blk_frozen BK125.out 5
                          have hfz36_6 := blk_frozen BK125.out 6
                          have hfz36_7 := blk_frozen BK125.out 7
                          have hfz36_8 := blk_frozen BK125.out 8
                          have hfz36_9 := blk_frozen BK125.out 9
                          go_wp2_with (first | ((with_reducible refine gate_callee (f := 7) rfl ?_); refine goesL_ (some 39) rfl rfl Try.func7 (by kernel_rfl) rfl #[.slice (some ad124) l1.length c1, .string ((rd_T37 l1 x8_1).f0), .string ((rd_T37 l1 x8_1).f1)] rfl (by (try simp only [List.map_toArray, List.map_cons, List.map_nil]); first | done | rfl | (simp only [List.length_drop, List.length_take]; rfl)) ?_; (with_reducible refine (steleref17_Latest.calls kj6 _ _ l1 ((rd_T37 l1 x8_1).f0) ((rd_T37 l1 x8_1).f1) t127 _ ?side1 ?side2 A21.out).mono ?_); (case side1 => repeat (first | exact (Kd.C_below HR1.out HB.out) | (with_reducible refine Kd.C_alloc ?_ _) | (with_reducible refine Kd.C_drewN ?_ _) | (with_reducible refine Kd.C_drew ?_))); (case side2 => exact HC1.out); rintro e w' ⟨rfl, ⟨nd, rfl⟩⟩; refine ⟨_, rfl, ?_⟩; have hcz37_0 : wc.cell? ⟨gb123, 0, none⟩ = some (.string a0_0) := (blk_cell BK123.out 0).trans rfl; have hcz37_1 : wc.cell? ⟨gb123, 1, none⟩ = some (.int .i64 a0_1) := (blk_cell BK123.out 1).trans rfl; have hcz37_2 : wc.cell? ⟨gb123, 2, none⟩ = some (.bool a0_2) := (blk_cell BK123.out 2).trans rfl; have hcz37_3 : wc.cell? ⟨gb123, 3, none⟩ = some (.bool a0_3) := (blk_cell BK123.out 3).trans rfl; have hcz37_4 : wc.cell? ⟨gb123, 4, none⟩ = some (.int .i64 a0_4) := (blk_cell BK123.out 4).trans rfl; have hcz37_5 : wc.cell? ⟨gb123, 5, none⟩ = some (.int .i64 a0_5) := (blk_cell BK123.out 5).trans rfl; have hcz37_6 : wc.cell? ⟨gb123, 6, none⟩ = some (.string a0_6) := (blk_cell BK123.out 6).trans rfl; have hcz37_7 : wc.cell? ⟨gb123, 7, none⟩ = some (.int .i64 a0_7) := (blk_cell BK123.out 7).trans rfl; have hcz37_8 : wc.cell? ⟨gb123, 8, none⟩ = some (.int .i64 a0_8) := (blk_cell BK123.out 8).trans rfl; have hfz37_0 := blk_frozen BK123.out 0; have hfz37_1 := blk_frozen BK123.out 1; have hfz37_2 := blk_frozen BK123.out 2; have hfz37_3 := blk_frozen BK123.out 3; have hfz37_4 := blk_frozen BK123.out 4; have hfz37_5 := blk_frozen BK123.out 5; have hfz37_6 := blk_frozen BK123.out 6; have hfz37_7 := blk_frozen BK123.out 7; have hfz37_8 := blk_frozen BK123.out 8) | (go_at_call 19; (with_reducible refine (steleref03_Later.calls kj6 ((rd_T37 l1 x8_1).f8) a0_7 t128 _ A28.out).mono ?_); rintro e w' ⟨rfl, ⟨nd, rfl⟩⟩))
                          go_roundg kj6
                          case measure => have := HK1.out; have := HJ6.out; omega
                          case rel => exact ⟨(x7_1), (wrap64 (x8_1 + 1)), (by first | rfl | (simp; done) | (simp [*]; done)), H', ⟨by have := HK1.out; have := HJ6.out; omega⟩, ⟨by (with_reducible repeat (first | apply Kd.R_alloc | apply Kd.R_drewN | apply Kd.R_drew)); exact HO_7.out⟩, ⟨by (with_reducible repeat (first | refine blk_drewN ?_ _ | refine blk_drew ?_ | refine blk_alloc ?_ _)); exact BK123.out⟩, ⟨by repeat (first | (with_reducible first | exact HB.out | apply below_alloc | apply pw_below_drewN | apply below_drew1 | refine below_set ?_ GE123.out | refine below_set ?_ GE125.out) | exact HB.out)⟩⟩
                      · rw [if_neg c27] at H
                        have c27b0 : decide (0 < a0_7) = false := decide_eq_false c27
                        clear c27
                        have H' := Aside0.mk H
                        clear H
                        have hnb38 := NB125_123.out
                        have hnc38 := NB123_125.out
                        have hcz39_0 : wc.cell? ⟨gb125, 0, none⟩ = some (.string ((rd_T37 l1 x8_1).f0)) := (blk_cell BK125.out 0).trans rfl
                        have hcz39_1 : wc.cell? ⟨gb125, 1, none⟩ = some (.string ((rd_T37 l1 x8_1).f1)) := (blk_cell BK125.out 1).trans rfl
                        have hcz39_2 : wc.cell? ⟨gb125, 2, none⟩ = some (.int .u64 ((rd_T37 l1 x8_1).f2)) := (blk_cell BK125.out 2).trans rfl
                        have hcz39_3 : wc.cell? ⟨gb125, 3, none⟩ = some (.int .u64 ((rd_T37 l1 x8_1).f3)) := (blk_cell BK125.out 3).trans rfl
                        have hcz39_4 : wc.cell? ⟨gb125, 4, none⟩ = some (.bool ((rd_T37 l1 x8_1).f4)) := (blk_cell BK125.out 4).trans rfl
                        have hcz39_5 : wc.cell? ⟨gb125, 5, none⟩ = some (.slice A124_5 ((rd_T37 l1 x8_1).f5).length c124_5) := (blk_cell BK125.out 5).trans rfl
                        have hcz39_6 : wc.cell? ⟨gb125, 6, none⟩ = some (.int .i64 ((rd_T37 l1 x8_1).f6.f0)) := (blk_cell BK125.out 6).trans rfl
                        have hcz39_7 : wc.cell? ⟨gb125, 7, none⟩ = some (.int .u64 ((rd_T37 l1 x8_1).f6.f1)) := (blk_cell BK125.out 7).trans rfl
                        have hcz39_8 : wc.cell? ⟨gb125, 8, none⟩ = some (.bool ((rd_T37 l1 x8_1).f7)) := (blk_cell BK125.out 8).trans rfl
                        have hcz39_9 : wc.cell? ⟨gb125, 9, none⟩ = some (.int .u64 ((rd_T37 l1 x8_1).f8)) := (blk_cell BK125.out 9).trans rfl
                        have hfz39_0 := blk_frozen BK125.out 0
                        have hfz39_1 := blk_frozen BK125.out 1
                        have hfz39_2 := blk_frozen BK125.out 2
                        have hfz39_3 := blk_frozen BK125.out 3
                        have hfz39_4 := blk_frozen BK125.out 4
                        have hfz39_5 := blk_frozen BK125.out 5
                        have hfz39_6 := blk_frozen BK125.out 6
                        have hfz39_7 := blk_frozen BK125.out 7
                        have hfz39_8 := blk_frozen BK125.out 8
                        have hfz39_9 := blk_frozen BK125.out 9
                        go_wp2_with (first | ((with_reducible refine gate_callee (f := 7) rfl ?_); refine goesL_ (some 39) rfl rfl Try.func7 (by kernel_rfl) rfl #[.slice (some ad124) l1.length c1, .string ((rd_T37 l1 x8_1).f0), .string ((rd_T37 l1 x8_1).f1)] rfl (by (try simp only [List.map_toArray, List.map_cons, List.map_nil]); first | done | rfl | (simp only [List.length_drop, List.length_take]; rfl)) ?_; (with_reducible refine (steleref17_Latest.calls kj6 _ _ l1 ((rd_T37 l1 x8_1).f0) ((rd_T37 l1 x8_1).f1) t127 _ ?side1 ?side2 A21.out).mono ?_); (case side1 => repeat (first | exact (Kd.C_below HR1.out HB.out) | (with_reducible refine Kd.C_alloc ?_ _) | (with_reducible refine Kd.C_drewN ?_ _) | (with_reducible refine Kd.C_drew ?_))); (case side2 => exact HC1.out); rintro e w' ⟨rfl, ⟨nd, rfl⟩⟩; refine ⟨_, rfl, ?_⟩; have hcz40_0 : wc.cell? ⟨gb123, 0, none⟩ = some (.string a0_0) := (blk_cell BK123.out 0).trans rfl; have hcz40_1 : wc.cell? ⟨gb123, 1, none⟩ = some (.int .i64 a0_1) := (blk_cell BK123.out 1).trans rfl; have hcz40_2 : wc.cell? ⟨gb123, 2, none⟩ = some (.bool a0_2) := (blk_cell BK123.out 2).trans rfl; have hcz40_3 : wc.cell? ⟨gb123, 3, none⟩ = some (.bool a0_3) := (blk_cell BK123.out 3).trans rfl; have hcz40_4 : wc.cell? ⟨gb123, 4, none⟩ = some (.int .i64 a0_4) := (blk_cell BK123.out 4).trans rfl; have hcz40_5 : wc.cell? ⟨gb123, 5, none⟩ = some (.int .i64 a0_5) := (blk_cell BK123.out 5).trans rfl; have hcz40_6 : wc.cell? ⟨gb123, 6, none⟩ = some (.string a0_6) := (blk_cell BK123.out 6).trans rfl; have hcz40_7 : wc.cell? ⟨gb123, 7, none⟩ = some (.int .i64 a0_7) := (blk_cell BK123.out 7).trans rfl; have hcz40_8 : wc.cell? ⟨gb123, 8, none⟩ = some (.int .i64 a0_8) := (blk_cell BK123.out 8).trans rfl; have hfz40_0 := blk_frozen BK123.out 0; have hfz40_1 := blk_frozen BK123.out 1; have hfz40_2 := blk_frozen BK123.out 2; have hfz40_3 := blk_frozen BK123.out 3; have hfz40_4 := blk_frozen BK123.out 4; have hfz40_5 := blk_frozen BK123.out 5; have hfz40_6 := blk_frozen BK123.out 6; have hfz40_7 := blk_frozen BK123.out 7; have hfz40_8 := blk_frozen BK123.out 8))
                        go_roundg kj6
                        case measure => have := HK1.out; have := HJ6.out; omega
                        case rel => exact ⟨(x7_1), (wrap64 (x8_1 + 1)), (by first | rfl | (simp; done) | (simp [*]; done)), H', ⟨by have := HK1.out; have := HJ6.out; omega⟩, ⟨by (with_reducible repeat (first | apply Kd.R_alloc | apply Kd.R_drewN | apply Kd.R_drew)); exact HO_7.out⟩, ⟨by (with_reducible repeat (first | refine blk_drewN ?_ _ | refine blk_drew ?_ | refine blk_alloc ?_ _)); exact BK123.out⟩, ⟨by repeat (first | (with_reducible first | exact HB.out | apply below_alloc | apply pw_below_drewN | apply below_drew1 | refine below_set ?_ GE123.out | refine below_set ?_ GE125.out) | exact HB.out)⟩⟩
                    · rw [if_neg c26] at H
                      have c26b0 : (a0_1 == 0) = false := beq_eq_false_iff_ne.mpr c26
                      have c26b1 : (a0_1 != 0) = true := bne_iff_ne.mpr c26
                      have H' := Aside0.mk H
                      clear H
                      have hnb41 := NB125_123.out
                      have hnc41 := NB123_125.out
                      have hcz42_0 : wc.cell? ⟨gb125, 0, none⟩ = some (.string ((rd_T37 l1 x8_1).f0)) := (blk_cell BK125.out 0).trans rfl
                      have hcz42_1 : wc.cell? ⟨gb125, 1, none⟩ = some (.string ((rd_T37 l1 x8_1).f1)) := (blk_cell BK125.out 1).trans rfl
                      have hcz42_2 : wc.cell? ⟨gb125, 2, none⟩ = some (.int .u64 ((rd_T37 l1 x8_1).f2)) := (blk_cell BK125.out 2).trans rfl
                      have hcz42_3 : wc.cell? ⟨gb125, 3, none⟩ = some (.int .u64 ((rd_T37 l1 x8_1).f3)) := (blk_cell BK125.out 3).trans rfl
                      have hcz42_4 : wc.cell? ⟨gb125, 4, none⟩ = some (.bool ((rd_T37 l1 x8_1).f4)) := (blk_cell BK125.out 4).trans rfl
                      have hcz42_5 : wc.cell? ⟨gb125, 5, none⟩ = some (.slice A124_5 ((rd_T37 l1 x8_1).f5).length c124_5) := (blk_cell BK125.out 5).trans rfl
                      have hcz42_6 : wc.cell? ⟨gb125, 6, none⟩ = some (.int .i64 ((rd_T37 l1 x8_1).f6.f0)) := (blk_cell BK125.out 6).trans rfl
                      have hcz42_7 : wc.cell? ⟨gb125, 7, none⟩ = some (.int .u64 ((rd_T37 l1 x8_1).f6.f1)) := (blk_cell BK125.out 7).trans rfl
                      have hcz42_8 : wc.cell? ⟨gb125, 8, none⟩ = some (.bool ((rd_T37 l1 x8_1).f7)) := (blk_cell BK125.out 8).trans rfl
                      have hcz42_9 : wc.cell? ⟨gb125, 9, none⟩ = some (.int .u64 ((rd_T37 l1 x8_1).f8)) := (blk_cell BK125.out 9).trans rfl
                      have hfz42_0 := blk_frozen BK125.out 0
                      have hfz42_1 := blk_frozen BK125.out 1
                      have hfz42_2 := blk_frozen BK125.out 2
                      have hfz42_3 := blk_frozen BK125.out 3
                      have hfz42_4 := blk_frozen BK125.out 4
                      have hfz42_5 := blk_frozen BK125.out 5
                      have hfz42_6 := blk_frozen BK125.out 6
                      have hfz42_7 := blk_frozen BK125.out 7
                      have hfz42_8 := blk_frozen BK125.out 8
                      have hfz42_9 := blk_frozen BK125.out 9
                      go_wp2_with (first | ((with_reducible refine gate_callee (f := 7) rfl ?_); refine goesL_ (some 39) rfl rfl Try.func7 (by kernel_rfl) rfl #[.slice (some ad124) l1.length c1, .string ((rd_T37 l1 x8_1).f0), .string ((rd_T37 l1 x8_1).f1)] rfl (by (try simp only [List.map_toArray, List.map_cons, List.map_nil]); first | done | rfl | (simp only [List.length_drop, List.length_take]; rfl)) ?_; (with_reducible refine (steleref17_Latest.calls kj6 _ _ l1 ((rd_T37 l1 x8_1).f0) ((rd_T37 l1 x8_1).f1) t127 _ ?side1 ?side2 A21.out).mono ?_); (case side1 => repeat (first | exact (Kd.C_below HR1.out HB.out) | (with_reducible refine Kd.C_alloc ?_ _) | (with_reducible refine Kd.C_drewN ?_ _) | (with_reducible refine Kd.C_drew ?_))); (case side2 => exact HC1.out); rintro e w' ⟨rfl, ⟨nd, rfl⟩⟩; refine ⟨_, rfl, ?_⟩; have hcz43_0 : wc.cell? ⟨gb123, 0, none⟩ = some (.string a0_0) := (blk_cell BK123.out 0).trans rfl; have hcz43_1 : wc.cell? ⟨gb123, 1, none⟩ = some (.int .i64 a0_1) := (blk_cell BK123.out 1).trans rfl; have hcz43_2 : wc.cell? ⟨gb123, 2, none⟩ = some (.bool a0_2) := (blk_cell BK123.out 2).trans rfl; have hcz43_3 : wc.cell? ⟨gb123, 3, none⟩ = some (.bool a0_3) := (blk_cell BK123.out 3).trans rfl; have hcz43_4 : wc.cell? ⟨gb123, 4, none⟩ = some (.int .i64 a0_4) := (blk_cell BK123.out 4).trans rfl; have hcz43_5 : wc.cell? ⟨gb123, 5, none⟩ = some (.int .i64 a0_5) := (blk_cell BK123.out 5).trans rfl; have hcz43_6 : wc.cell? ⟨gb123, 6, none⟩ = some (.string a0_6) := (blk_cell BK123.out 6).trans rfl; have hcz43_7 : wc.cell? ⟨gb123, 7, none⟩ = some (.int .i64 a0_7) := (blk_cell BK123.out 7).trans rfl; have hcz43_8 : wc.cell? ⟨gb123, 8, none⟩ = some (.int .i64 a0_8) := (blk_cell BK123.out 8).trans rfl; have hfz43_0 := blk_frozen BK123.out 0; have hfz43_1 := blk_frozen BK123.out 1; have hfz43_2 := blk_frozen BK123.out 2; have hfz43_3 := blk_frozen BK123.out 3; have hfz43_4 := blk_frozen BK123.out 4; have hfz43_5 := blk_frozen BK123.out 5; have hfz43_6 := blk_frozen BK123.out 6; have hfz43_7 := blk_frozen BK123.out 7; have hfz43_8 := blk_frozen BK123.out 8))
                      go_roundg kj6
                      case measure => have := HK1.out; have := HJ6.out; omega
                      case rel => exact ⟨(x7_1), (wrap64 (x8_1 + 1)), (by first | rfl | (simp; done) | (simp [*]; done)), H', ⟨by have := HK1.out; have := HJ6.out; omega⟩, ⟨by (with_reducible repeat (first | apply Kd.R_alloc | apply Kd.R_drewN | apply Kd.R_drew)); exact HO_7.out⟩, ⟨by (with_reducible repeat (first | refine blk_drewN ?_ _ | refine blk_drew ?_ | refine blk_alloc ?_ _)); exact BK123.out⟩, ⟨by repeat (first | (with_reducible first | exact HB.out | apply below_alloc | apply pw_below_drewN | apply below_drew1 | refine below_set ?_ GE123.out | refine below_set ?_ GE125.out) | exact HB.out)⟩⟩
                · rw [if_neg c22] at H
                  have c22b0 : (t127 == x8_1) = false := beq_eq_false_iff_ne.mpr c22
                  have c22b1 : (t127 != x8_1) = true := bne_iff_ne.mpr c22
                  by_cases c44 : a0_8 > 0
                  · rw [if_pos c44] at H
                    have c44b0 : decide (0 < a0_8) = true := decide_eq_true c44
                    clear c44
                    replace H := Option.bind_eq_some_iff.mp H
                    obtain ⟨t132, A450, H⟩ := H
                    replace H : (if t132 ≤ a2 then (if x7_1.length < 17592186044416 then (steleref17_Due.l0 kj6 l1 a2 (x7_1 ++ [((rd_T37 l1 x8_1).f3)]) (wrap64 (x8_1 + 1)) a0_0 a0_1 a0_2 a0_3 a0_4 a0_5 a0_6 a0_7 a0_8) else (none)) else (steleref17_Due.l0 kj6 l1 a2 x7_1 (wrap64 (x8_1 + 1)) a0_0 a0_1 a0_2 a0_3 a0_4 a0_5 a0_6 a0_7 a0_8)) = some r := H
                    have A45 := Aside0.mk A450
                    clear A450
                    by_cases c46 : t132 ≤ a2
                    · rw [if_pos c46] at H
                      have c46b0 : decide (t132 ≤ a2) = true := decide_eq_true c46
                      clear c46
                      by_cases c47 : x7_1.length < 17592186044416
                      · rw [if_pos c47] at H
                        have LMc47 := Aside0.mk c47
                        clear c47
                        obtain ⟨y133, hy133⟩ : ∃ y_ : List Int, y_ = (x7_1 ++ [((rd_T37 l1 x8_1).f3)]) := ⟨_, rfl⟩
                        replace H : (steleref17_Due.l0 kj6 l1 a2 y133 (wrap64 (x8_1 + 1)) a0_0 a0_1 a0_2 a0_3 a0_4 a0_5 a0_6 a0_7 a0_8) = some r := by first | (rw [hy133]; with_reducible exact H) | (have H2_ := (Option.bind_some _ _).symm.trans H; rw [hy133]; with_reducible exact H2_) | (have H2_ := (Option.bind_some _ _).symm.trans H; with_reducible exact H2_) | with_reducible exact H | (rw [hy133]; exact H) | exact H
                        have Ny133 := Aside0.mk hy133
                        clear hy133
                        have H' := Aside0.mk H
                        clear H
                        have hnb48 := NB125_123.out
                        have hnc48 := NB123_125.out
                        have hcz49_0 : wc.cell? ⟨gb125, 0, none⟩ = some (.string ((rd_T37 l1 x8_1).f0)) := (blk_cell BK125.out 0).trans rfl
                        have hcz49_1 : wc.cell? ⟨gb125, 1, none⟩ = some (.string ((rd_T37 l1 x8_1).f1)) := (blk_cell BK125.out 1).trans rfl
                        have hcz49_2 : wc.cell? ⟨gb125, 2, none⟩ = some (.int .u64 ((rd_T37 l1 x8_1).f2)) := (blk_cell BK125.out 2).trans rfl
                        have hcz49_3 : wc.cell? ⟨gb125, 3, none⟩ = some (.int .u64 ((rd_T37 l1 x8_1).f3)) := (blk_cell BK125.out 3).trans rfl
                        have hcz49_4 : wc.cell? ⟨gb125, 4, none⟩ = some (.bool ((rd_T37 l1 x8_1).f4)) := (blk_cell BK125.out 4).trans rfl
                        have hcz49_5 : wc.cell? ⟨gb125, 5, none⟩ = some (.slice A124_5 ((rd_T37 l1 x8_1).f5).length c124_5) := (blk_cell BK125.out 5).trans rfl
                        have hcz49_6 : wc.cell? ⟨gb125, 6, none⟩ = some (.int .i64 ((rd_T37 l1 x8_1).f6.f0)) := (blk_cell BK125.out 6).trans rfl
                        have hcz49_7 : wc.cell? ⟨gb125, 7, none⟩ = some (.int .u64 ((rd_T37 l1 x8_1).f6.f1)) := (blk_cell BK125.out 7).trans rfl
                        have hcz49_8 : wc.cell? ⟨gb125, 8, none⟩ = some (.bool ((rd_T37 l1 x8_1).f7)) := (blk_cell BK125.out 8).trans rfl
                        have hcz49_9 : wc.cell? ⟨gb125, 9, none⟩ = some (.int .u64 ((rd_T37 l1 x8_1).f8)) := (blk_cell BK125.out 9).trans rfl
                        have hfz49_0 := blk_frozen BK125.out 0
                        have hfz49_1 := blk_frozen BK125.out 1
                        have hfz49_2 := blk_frozen BK125.out 2
                        have hfz49_3 := blk_frozen BK125.out 3
                        have hfz49_4 := blk_frozen BK125.out 4
                        have hfz49_5 := blk_frozen BK125.out 5
                        have hfz49_6 := blk_frozen BK125.out 6
                        have hfz49_7 := blk_frozen BK125.out 7
                        have hfz49_8 := blk_frozen BK125.out 8
                        have hfz49_9 := blk_frozen BK125.out 9
                        go_wp2_with (first | ((with_reducible refine gate_callee (f := 7) rfl ?_); refine goesL_ (some 39) rfl rfl Try.func7 (by kernel_rfl) rfl #[.slice (some ad124) l1.length c1, .string ((rd_T37 l1 x8_1).f0), .string ((rd_T37 l1 x8_1).f1)] rfl (by (try simp only [List.map_toArray, List.map_cons, List.map_nil]); first | done | rfl | (simp only [List.length_drop, List.length_take]; rfl)) ?_; (with_reducible refine (steleref17_Latest.calls kj6 _ _ l1 ((rd_T37 l1 x8_1).f0) ((rd_T37 l1 x8_1).f1) t127 _ ?side1 ?side2 A21.out).mono ?_); (case side1 => repeat (first | exact (Kd.C_below HR1.out HB.out) | (with_reducible refine Kd.C_alloc ?_ _) | (with_reducible refine Kd.C_drewN ?_ _) | (with_reducible refine Kd.C_drew ?_))); (case side2 => exact HC1.out); rintro e w' ⟨rfl, ⟨nd, rfl⟩⟩; refine ⟨_, rfl, ?_⟩; have hcz50_0 : wc.cell? ⟨gb123, 0, none⟩ = some (.string a0_0) := (blk_cell BK123.out 0).trans rfl; have hcz50_1 : wc.cell? ⟨gb123, 1, none⟩ = some (.int .i64 a0_1) := (blk_cell BK123.out 1).trans rfl; have hcz50_2 : wc.cell? ⟨gb123, 2, none⟩ = some (.bool a0_2) := (blk_cell BK123.out 2).trans rfl; have hcz50_3 : wc.cell? ⟨gb123, 3, none⟩ = some (.bool a0_3) := (blk_cell BK123.out 3).trans rfl; have hcz50_4 : wc.cell? ⟨gb123, 4, none⟩ = some (.int .i64 a0_4) := (blk_cell BK123.out 4).trans rfl; have hcz50_5 : wc.cell? ⟨gb123, 5, none⟩ = some (.int .i64 a0_5) := (blk_cell BK123.out 5).trans rfl; have hcz50_6 : wc.cell? ⟨gb123, 6, none⟩ = some (.string a0_6) := (blk_cell BK123.out 6).trans rfl; have hcz50_7 : wc.cell? ⟨gb123, 7, none⟩ = some (.int .i64 a0_7) := (blk_cell BK123.out 7).trans rfl; have hcz50_8 : wc.cell? ⟨gb123, 8, none⟩ = some (.int .i64 a0_8) := (blk_cell BK123.out 8).trans rfl; have hfz50_0 := blk_frozen BK123.out 0; have hfz50_1 := blk_frozen BK123.out 1; have hfz50_2 := blk_frozen BK123.out 2; have hfz50_3 := blk_frozen BK123.out 3; have hfz50_4 := blk_frozen BK123.out 4; have hfz50_5 := blk_frozen BK123.out 5; have hfz50_6 := blk_frozen BK123.out 6; have hfz50_7 := blk_frozen BK123.out 7; have hfz50_8 := blk_frozen BK123.out 8) | (go_at_call 19; (with_reducible refine (steleref03_Later.calls kj6 ((rd_T37 l1 x8_1).f8) a0_8 t132 _ A45.out).mono ?_); rintro e w' ⟨rfl, ⟨nd, rfl⟩⟩) | ((with_reducible refine gate_builtin (b := .append) (xs := #[.tmp 87, .tmp 90]) rfl ?_); at_builtin; refine Kd.R_append (Kd.int .u64) (w0 := w) w.heap.size rfl (.tmp 87) (.tmp 90) 30 28 (.int .u64 0) 8 rfl Try.underlying30 info28 rfl (by decide) (by omega) u7 x7_1 ((rd_T37 l1 x8_1).f3) [.int .u64 ((rd_T37 l1 x8_1).f3)] (fun _ => True) (fun _ => False) rfl rfl ?aP (fun _ hk => hk.elim) ?aF ?aO ?aB ?aS ?aL ?_; (case aP => exact rfl); (case aB => exact (by repeat (first | (with_reducible first | exact HB.out | apply below_alloc | apply pw_below_drewN | apply below_drew1 | refine below_set ?_ GE123.out | refine below_set ?_ GE125.out) | exact HB.out))); (case aF => exact (fun _ _ => trivial)); (case aO => exact (by (with_reducible repeat (first | apply Kd.R_alloc | apply Kd.R_drewN | apply Kd.R_drew)); exact HO_7.out)); (case aS => exact (below_size (by repeat (first | (with_reducible first | exact HB.out | apply below_alloc | apply pw_below_drewN | apply below_drew1 | refine below_set ?_ GE123.out | refine below_set ?_ GE125.out) | exact HB.out)))); (case aL => have := LMc47.out; omega); intro v134 w51 ho hb hg hat; rw [← Ny133.out] at ho; have n0_ := Aside0.mk (blk_grown (g := gb123) (o := .cells #[.string a0_0, .int .i64 a0_1, .bool a0_2, .bool a0_3, .int .i64 a0_4, .int .i64 a0_5, .string a0_6, .int .i64 a0_7, .int .i64 a0_8] 27 (0, 0)) (by (with_reducible repeat (first | refine blk_drewN ?_ _ | refine blk_drew ?_ | refine blk_alloc ?_ _)); exact BK123.out) hg (Kd.R_ne HO_7.out BK123.out (by decide))); have n1_ := Aside0.mk (blk_grown (g := gb125) (o := .cells #[.string ((rd_T37 l1 x8_1).f0), .string ((rd_T37 l1 x8_1).f1), .int .u64 ((rd_T37 l1 x8_1).f2), .int .u64 ((rd_T37 l1 x8_1).f3), .bool ((rd_T37 l1 x8_1).f4), .slice A124_5 ((rd_T37 l1 x8_1).f5).length c124_5, .int .i64 ((rd_T37 l1 x8_1).f6.f0), .int .u64 ((rd_T37 l1 x8_1).f6.f1), .bool ((rd_T37 l1 x8_1).f7), .int .u64 ((rd_T37 l1 x8_1).f8)] 37 (0, 0)) (by (with_reducible repeat (first | refine blk_drewN ?_ _ | refine blk_drew ?_ | refine blk_alloc ?_ _)); exact BK125.out) hg (Kd.R_ne HO_7.out BK125.out (by decide))); have n2_ := Aside0.mk (hb); have n3_ := Aside0.mk (ho); clear BK123; clear BK125; clear HB; clear HO_7; have BK123 := n0_; have BK125 := n1_; have HB := n2_; have HO135 := n3_; clear n0_ n1_ n2_ n3_; clear ho hb hg hat))
                        go_roundg kj6
                        case measure => have := HK1.out; have := HJ6.out; omega
                        case rel => exact ⟨(y133), (wrap64 (x8_1 + 1)), (by first | rfl | (simp; done) | (simp [*]; done)), H', ⟨by have := HK1.out; have := HJ6.out; omega⟩, ⟨by (with_reducible repeat (first | apply Kd.R_alloc | apply Kd.R_drewN | apply Kd.R_drew)); exact HO135.out⟩, ⟨by (with_reducible repeat (first | refine blk_drewN ?_ _ | refine blk_drew ?_ | refine blk_alloc ?_ _)); exact BK123.out⟩, ⟨by repeat (first | (with_reducible first | exact HB.out | apply below_alloc | apply pw_below_drewN | apply below_drew1 | refine below_set ?_ GE123.out | refine below_set ?_ GE125.out) | exact HB.out)⟩⟩
                      · rw [if_neg c47] at H
                        exact absurd H (by simp)
                    · rw [if_neg c46] at H
                      have c46b0 : decide (t132 ≤ a2) = false := decide_eq_false c46
                      clear c46
                      have H' := Aside0.mk H
                      clear H
                      have hnb52 := NB125_123.out
                      have hnc52 := NB123_125.out
                      have hcz53_0 : wc.cell? ⟨gb125, 0, none⟩ = some (.string ((rd_T37 l1 x8_1).f0)) := (blk_cell BK125.out 0).trans rfl
                      have hcz53_1 : wc.cell? ⟨gb125, 1, none⟩ = some (.string ((rd_T37 l1 x8_1).f1)) := (blk_cell BK125.out 1).trans rfl
                      have hcz53_2 : wc.cell? ⟨gb125, 2, none⟩ = some (.int .u64 ((rd_T37 l1 x8_1).f2)) := (blk_cell BK125.out 2).trans rfl
                      have hcz53_3 : wc.cell? ⟨gb125, 3, none⟩ = some (.int .u64 ((rd_T37 l1 x8_1).f3)) := (blk_cell BK125.out 3).trans rfl
                      have hcz53_4 : wc.cell? ⟨gb125, 4, none⟩ = some (.bool ((rd_T37 l1 x8_1).f4)) := (blk_cell BK125.out 4).trans rfl
                      have hcz53_5 : wc.cell? ⟨gb125, 5, none⟩ = some (.slice A124_5 ((rd_T37 l1 x8_1).f5).length c124_5) := (blk_cell BK125.out 5).trans rfl
                      have hcz53_6 : wc.cell? ⟨gb125, 6, none⟩ = some (.int .i64 ((rd_T37 l1 x8_1).f6.f0)) := (blk_cell BK125.out 6).trans rfl
                      have hcz53_7 : wc.cell? ⟨gb125, 7, none⟩ = some (.int .u64 ((rd_T37 l1 x8_1).f6.f1)) := (blk_cell BK125.out 7).trans rfl
                      have hcz53_8 : wc.cell? ⟨gb125, 8, none⟩ = some (.bool ((rd_T37 l1 x8_1).f7)) := (blk_cell BK125.out 8).trans rfl
                      have hcz53_9 : wc.cell? ⟨gb125, 9, none⟩ = some (.int .u64 ((rd_T37 l1 x8_1).f8)) := (blk_cell BK125.out 9).trans rfl
                      have hfz53_0 := blk_frozen BK125.out 0
                      have hfz53_1 := blk_frozen BK125.out 1
                      have hfz53_2 := blk_frozen BK125.out 2
                      have hfz53_3 := blk_frozen BK125.out 3
                      have hfz53_4 := blk_frozen BK125.out 4
                      have hfz53_5 := blk_frozen BK125.out 5
                      have hfz53_6 := blk_frozen BK125.out 6
                      have hfz53_7 := blk_frozen BK125.out 7
                      have hfz53_8 := blk_frozen BK125.out 8
                      have hfz53_9 := blk_frozen BK125.out 9
                      go_wp2_with (first | ((with_reducible refine gate_callee (f := 7) rfl ?_); refine goesL_ (some 39) rfl rfl Try.func7 (by kernel_rfl) rfl #[.slice (some ad124) l1.length c1, .string ((rd_T37 l1 x8_1).f0), .string ((rd_T37 l1 x8_1).f1)] rfl (by (try simp only [List.map_toArray, List.map_cons, List.map_nil]); first | done | rfl | (simp only [List.length_drop, List.length_take]; rfl)) ?_; (with_reducible refine (steleref17_Latest.calls kj6 _ _ l1 ((rd_T37 l1 x8_1).f0) ((rd_T37 l1 x8_1).f1) t127 _ ?side1 ?side2 A21.out).mono ?_); (case side1 => repeat (first | exact (Kd.C_below HR1.out HB.out) | (with_reducible refine Kd.C_alloc ?_ _) | (with_reducible refine Kd.C_drewN ?_ _) | (with_reducible refine Kd.C_drew ?_))); (case side2 => exact HC1.out); rintro e w' ⟨rfl, ⟨nd, rfl⟩⟩; refine ⟨_, rfl, ?_⟩; have hcz54_0 : wc.cell? ⟨gb123, 0, none⟩ = some (.string a0_0) := (blk_cell BK123.out 0).trans rfl; have hcz54_1 : wc.cell? ⟨gb123, 1, none⟩ = some (.int .i64 a0_1) := (blk_cell BK123.out 1).trans rfl; have hcz54_2 : wc.cell? ⟨gb123, 2, none⟩ = some (.bool a0_2) := (blk_cell BK123.out 2).trans rfl; have hcz54_3 : wc.cell? ⟨gb123, 3, none⟩ = some (.bool a0_3) := (blk_cell BK123.out 3).trans rfl; have hcz54_4 : wc.cell? ⟨gb123, 4, none⟩ = some (.int .i64 a0_4) := (blk_cell BK123.out 4).trans rfl; have hcz54_5 : wc.cell? ⟨gb123, 5, none⟩ = some (.int .i64 a0_5) := (blk_cell BK123.out 5).trans rfl; have hcz54_6 : wc.cell? ⟨gb123, 6, none⟩ = some (.string a0_6) := (blk_cell BK123.out 6).trans rfl; have hcz54_7 : wc.cell? ⟨gb123, 7, none⟩ = some (.int .i64 a0_7) := (blk_cell BK123.out 7).trans rfl; have hcz54_8 : wc.cell? ⟨gb123, 8, none⟩ = some (.int .i64 a0_8) := (blk_cell BK123.out 8).trans rfl; have hfz54_0 := blk_frozen BK123.out 0; have hfz54_1 := blk_frozen BK123.out 1; have hfz54_2 := blk_frozen BK123.out 2; have hfz54_3 := blk_frozen BK123.out 3; have hfz54_4 := blk_frozen BK123.out 4; have hfz54_5 := blk_frozen BK123.out 5; have hfz54_6 := blk_frozen BK123.out 6; have hfz54_7 := blk_frozen BK123.out 7; have hfz54_8 := blk_frozen BK123.out 8) | (go_at_call 19; (with_reducible refine (steleref03_Later.calls kj6 ((rd_T37 l1 x8_1).f8) a0_8 t132 _ A45.out).mono ?_); rintro e w' ⟨rfl, ⟨nd, rfl⟩⟩))
                      go_roundg kj6
                      case measure => have := HK1.out; have := HJ6.out; omega
                      case rel => exact ⟨(x7_1), (wrap64 (x8_1 + 1)), (by first | rfl | (simp; done) | (simp [*]; done)), H', ⟨by have := HK1.out; have := HJ6.out; omega⟩, ⟨by (with_reducible repeat (first | apply Kd.R_alloc | apply Kd.R_drewN | apply Kd.R_drew)); exact HO_7.out⟩, ⟨by (with_reducible repeat (first | refine blk_drewN ?_ _ | refine blk_drew ?_ | refine blk_alloc ?_ _)); exact BK123.out⟩, ⟨by repeat (first | (with_reducible first | exact HB.out | apply below_alloc | apply pw_below_drewN | apply below_drew1 | refine below_set ?_ GE123.out | refine below_set ?_ GE125.out) | exact HB.out)⟩⟩
                  · rw [if_neg c44] at H
                    have c44b0 : decide (0 < a0_8) = false := decide_eq_false c44
                    clear c44
                    have H' := Aside0.mk H
                    clear H
                    have hnb55 := NB125_123.out
                    have hnc55 := NB123_125.out
                    have hcz56_0 : wc.cell? ⟨gb125, 0, none⟩ = some (.string ((rd_T37 l1 x8_1).f0)) := (blk_cell BK125.out 0).trans rfl
                    have hcz56_1 : wc.cell? ⟨gb125, 1, none⟩ = some (.string ((rd_T37 l1 x8_1).f1)) := (blk_cell BK125.out 1).trans rfl
                    have hcz56_2 : wc.cell? ⟨gb125, 2, none⟩ = some (.int .u64 ((rd_T37 l1 x8_1).f2)) := (blk_cell BK125.out 2).trans rfl
                    have hcz56_3 : wc.cell? ⟨gb125, 3, none⟩ = some (.int .u64 ((rd_T37 l1 x8_1).f3)) := (blk_cell BK125.out 3).trans rfl
                    have hcz56_4 : wc.cell? ⟨gb125, 4, none⟩ = some (.bool ((rd_T37 l1 x8_1).f4)) := (blk_cell BK125.out 4).trans rfl
                    have hcz56_5 : wc.cell? ⟨gb125, 5, none⟩ = some (.slice A124_5 ((rd_T37 l1 x8_1).f5).length c124_5) := (blk_cell BK125.out 5).trans rfl
                    have hcz56_6 : wc.cell? ⟨gb125, 6, none⟩ = some (.int .i64 ((rd_T37 l1 x8_1).f6.f0)) := (blk_cell BK125.out 6).trans rfl
                    have hcz56_7 : wc.cell? ⟨gb125, 7, none⟩ = some (.int .u64 ((rd_T37 l1 x8_1).f6.f1)) := (blk_cell BK125.out 7).trans rfl
                    have hcz56_8 : wc.cell? ⟨gb125, 8, none⟩ = some (.bool ((rd_T37 l1 x8_1).f7)) := (blk_cell BK125.out 8).trans rfl
                    have hcz56_9 : wc.cell? ⟨gb125, 9, none⟩ = some (.int .u64 ((rd_T37 l1 x8_1).f8)) := (blk_cell BK125.out 9).trans rfl
                    have hfz56_0 := blk_frozen BK125.out 0
                    have hfz56_1 := blk_frozen BK125.out 1
                    have hfz56_2 := blk_frozen BK125.out 2
                    have hfz56_3 := blk_frozen BK125.out 3
                    have hfz56_4 := blk_frozen BK125.out 4
                    have hfz56_5 := blk_frozen BK125.out 5
                    have hfz56_6 := blk_frozen BK125.out 6
                    have hfz56_7 := blk_frozen BK125.out 7
                    have hfz56_8 := blk_frozen BK125.out 8
                    have hfz56_9 := blk_frozen BK125.out 9
                    go_wp2_with (first | ((with_reducible refine gate_callee (f := 7) rfl ?_); refine goesL_ (some 39) rfl rfl Try.func7 (by kernel_rfl) rfl #[.slice (some ad124) l1.length c1, .string ((rd_T37 l1 x8_1).f0), .string ((rd_T37 l1 x8_1).f1)] rfl (by (try simp only [List.map_toArray, List.map_cons, List.map_nil]); first | done | rfl | (simp only [List.length_drop, List.length_take]; rfl)) ?_; (with_reducible refine (steleref17_Latest.calls kj6 _ _ l1 ((rd_T37 l1 x8_1).f0) ((rd_T37 l1 x8_1).f1) t127 _ ?side1 ?side2 A21.out).mono ?_); (case side1 => repeat (first | exact (Kd.C_below HR1.out HB.out) | (with_reducible refine Kd.C_alloc ?_ _) | (with_reducible refine Kd.C_drewN ?_ _) | (with_reducible refine Kd.C_drew ?_))); (case side2 => exact HC1.out); rintro e w' ⟨rfl, ⟨nd, rfl⟩⟩; refine ⟨_, rfl, ?_⟩; have hcz57_0 : wc.cell? ⟨gb123, 0, none⟩ = some (.string a0_0) := (blk_cell BK123.out 0).trans rfl; have hcz57_1 : wc.cell? ⟨gb123, 1, none⟩ = some (.int .i64 a0_1) := (blk_cell BK123.out 1).trans rfl; have hcz57_2 : wc.cell? ⟨gb123, 2, none⟩ = some (.bool a0_2) := (blk_cell BK123.out 2).trans rfl; have hcz57_3 : wc.cell? ⟨gb123, 3, none⟩ = some (.bool a0_3) := (blk_cell BK123.out 3).trans rfl; have hcz57_4 : wc.cell? ⟨gb123, 4, none⟩ = some (.int .i64 a0_4) := (blk_cell BK123.out 4).trans rfl; have hcz57_5 : wc.cell? ⟨gb123, 5, none⟩ = some (.int .i64 a0_5) := (blk_cell BK123.out 5).trans rfl; have hcz57_6 : wc.cell? ⟨gb123, 6, none⟩ = some (.string a0_6) := (blk_cell BK123.out 6).trans rfl; have hcz57_7 : wc.cell? ⟨gb123, 7, none⟩ = some (.int .i64 a0_7) := (blk_cell BK123.out 7).trans rfl; have hcz57_8 : wc.cell? ⟨gb123, 8, none⟩ = some (.int .i64 a0_8) := (blk_cell BK123.out 8).trans rfl; have hfz57_0 := blk_frozen BK123.out 0; have hfz57_1 := blk_frozen BK123.out 1; have hfz57_2 := blk_frozen BK123.out 2; have hfz57_3 := blk_frozen BK123.out 3; have hfz57_4 := blk_frozen BK123.out 4; have hfz57_5 := blk_frozen BK123.out 5; have hfz57_6 := blk_frozen BK123.out 6; have hfz57_7 := blk_frozen BK123.out 7; have hfz57_8 := blk_frozen BK123.out 8))
                    go_roundg kj6
                    case measure => have := HK1.out; have := HJ6.out; omega
                    case rel => exact ⟨(x7_1), (wrap64 (x8_1 + 1)), (by first | rfl | (simp; done) | (simp [*]; done)), H', ⟨by have := HK1.out; have := HJ6.out; omega⟩, ⟨by (with_reducible repeat (first | apply Kd.R_alloc | apply Kd.R_drewN | apply Kd.R_drew)); exact HO_7.out⟩, ⟨by (with_reducible repeat (first | refine blk_drewN ?_ _ | refine blk_drew ?_ | refine blk_alloc ?_ _)); exact BK123.out⟩, ⟨by repeat (first | (with_reducible first | exact HB.out | apply below_alloc | apply pw_below_drewN | apply below_drew1 | refine below_set ?_ GE123.out | refine below_set ?_ GE125.out) | exact HB.out)⟩⟩
        · rw [if_neg c6] at H
          exact absurd H (by simp)
      · rw [if_neg c5] at H
        have c5b0 : decide (x8_1 < (l1.length : Int)) = false := decide_eq_false c5
        clear c5
        obtain rfl := Option.some.inj H
        go_wp2
        go_ret
        exact ⟨_, by first | rfl | (simp [errW_none, errW_some] <;> rfl) | (simp [*, errW_none, errW_some] <;> rfl), by (with_reducible repeat (first | apply Kd.R_alloc | apply Kd.R_drewN | apply Kd.R_drew)); exact HO_7.out, by repeat (first | (with_reducible first | exact HB.out | apply below_alloc | apply pw_below_drewN | apply below_drew1 | refine below_set ?_ GE123.out) | exact HB.out)⟩

end Go.Proofs.Ytioncemogbjklaa.PE
