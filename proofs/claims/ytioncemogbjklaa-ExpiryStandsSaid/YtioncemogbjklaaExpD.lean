/- The contract of expiry.Due, by hand. -/
import Derived.Test.YtioncemogbjklaaExpC
namespace Go.Proofs.Ytioncemogbjklaa.PG
open Go.RowKit Go.Maps Go.Proofs.YtioncemogbjklaaW.PrintWords Go.Proofs.YtioncemogbjklaaW.PrintLast Go.Proofs.YtioncemogbjklaaW.PrintMore Go.Proofs.Ytioncemogbjklaa.PE
attribute [local go_sem] max2_int min2_int max_two min_two max_three min_three max_four min_four
set_option linter.unusedVariables false
set_option linter.unusedSimpArgs false

def may (v : S37) (now : Int) : Int := (lock_MayDelete.f v.f0 v.f1 v.f2 v.f3 v.f4 v.f5 v.f6.f0 v.f6.f1 v.f7 v.f8 now false).getD 0
theorem active_some (a b c : Int) : ∃ r, lock_Active.f a b c = some r := by
  have : ∃ r, lock_mode_locks.f a = some r := by unfold lock_mode_locks.f; split <;> exact ⟨_, rfl⟩
  obtain ⟨r, h⟩ := this
  unfold lock_Active.f
  rw [h]
  cases r <;> exact ⟨_, rfl⟩
theorem stands_some (a b c : Int) (d : Bool) : ∃ r, lock_stands.f a b c d = some r := by
  obtain ⟨r, h⟩ := active_some a b c
  unfold lock_stands.f
  rw [h]
  cases r
  · exact ⟨_, rfl⟩
  · simp only [Option.bind_some, if_true]
    split <;> exact ⟨_, rfl⟩
theorem may_eq (v : S37) (now : Int) : lock_MayDelete.f v.f0 v.f1 v.f2 v.f3 v.f4 v.f5 v.f6.f0 v.f6.f1 v.f7 v.f8 now false = some (may v now) := by
  have : ∃ r, lock_MayDelete.f v.f0 v.f1 v.f2 v.f3 v.f4 v.f5 v.f6.f0 v.f6.f1 v.f7 v.f8 now false = some r := by
    unfold lock_MayDelete.f
    by_cases c : v.f7 = true
    · rw [if_pos c]; exact ⟨_, rfl⟩
    · rw [if_neg c]
      obtain ⟨r, h⟩ := stands_some v.f6.f0 v.f6.f1 now false
      rw [h]
      cases r <;> exact ⟨_, rfl⟩
  obtain ⟨r, h⟩ := this
  unfold may
  rw [h]; rfl
/-- do the rules let a version go, before it is asked what it is? -/
def gone (ver exp non now : Int) (last : Bool) (v : S37) : Bool := if last then (!v.f4 && ver == 0 && over v.f8 exp now) else over v.f8 non now
def due1 (name : ByteArray) (ver exp non now : Int) (last : Bool) (v : S37) : Bool := gone ver exp non now last v && v.f0.toList == name.toList && may v now == 0
def lastB (l : List S37) (i : Nat) : Bool := lat l (l.getD i z37).f0 (l.getD i z37).f1 l.length == (i : Int)
def dueL (name : ByteArray) (ver exp non now : Int) (l : List S37) : Nat → List Int
  | 0 => []
  | n + 1 => if due1 name ver exp non now (lastB l n) (l.getD n z37) then dueL name ver exp non now l n ++ [(l.getD n z37).f3] else dueL name ver exp non now l n
theorem dueL_succ (name : ByteArray) (ver exp non now : Int) (l : List S37) (n : Nat) : dueL name ver exp non now l (n + 1) = if due1 name ver exp non now (lastB l n) (l.getD n z37) then dueL name ver exp non now l n ++ [(l.getD n z37).f3] else dueL name ver exp non now l n := rfl
theorem dueL_len (name : ByteArray) (ver exp non now : Int) (l : List S37) : ∀ n, (dueL name ver exp non now l n).length ≤ n
  | 0 => Nat.le_refl _
  | n + 1 => by have := dueL_len name ver exp non now l n; unfold dueL; split <;> simp <;> omega
theorem own_below {B : Nat} {w w' : World} {P : Program} {k : TypeId} {R : Value → Option (DataW Unit × List MemPlace)} {b n : Nat} {D : DataW Unit} (h : w.ownsMap P k R b n D) (hb : Below B w w') (hlt : b < B) : w'.ownsMap P k R b n D := by
  obtain ⟨es, clock, h1, F, h2, h3⟩ := h
  exact ⟨es, clock, (hb.block b hlt).trans h1, F, h2, h3⟩
theorem lat_mono (l : List S37) (b k : ByteArray) : ∀ (d n : Nat), 0 ≤ lat l b k n → 0 ≤ lat l b k (n + d)
  | 0, n, h => h
  | d + 1, n, h => by
    have := lat_mono l b k d n h
    show 0 ≤ lat l b k (n + d + 1)
    unfold lat
    split <;> omega
theorem lat_ge (l : List S37) (i n : Nat) (h : i < n) : 0 ≤ lat l (l.getD i z37).f0 (l.getD i z37).f1 n := by
  obtain ⟨d, rfl⟩ : ∃ d, n = (i + 1) + d := ⟨n - (i + 1), by omega⟩
  refine lat_mono l _ _ d (i + 1) ?_
  unfold lat
  split
  · omega
  · rename_i c
    have := lat_bd l (l.getD i z37).f0 (l.getD i z37).f1 i
    by_cases q : lat l (l.getD i z37).f0 (l.getD i z37).f1 i < 0
    · exact absurd ⟨rfl, rfl, .inl q⟩ c
    · omega
theorem lowB {B B' : Nat} {w w' : World} (h : Below B w w') (hb : B' ≤ B) : Below B' w w' := ⟨h.os, h.tape, h.output, h.size, fun k hk => h.block k (by omega)⟩
def vobj (v : S37) (A5 : Option Addr) (c5 : Nat) : Obj := .cells #[.string v.f0, .string v.f1, .int .u64 v.f2, .int .u64 v.f3, .bool v.f4, .slice A5 v.f5.length c5, .int .i64 v.f6.f0, .int .u64 v.f6.f1, .bool v.f7, .int .u64 v.f8] 37
set_option maxHeartbeats 8000000 in
set_option maxRecDepth 100000 in
theorem due_any (name : ByteArray) (ver : Int) (b2 b3 : Bool) (b4 b5 : Int) (pol : ByteArray) (exp non : Int) (A1 : Option Addr) (c1 : Nat) (l : List S37) (now : Int) (w : World) (hr1 : Kd.C k37 w A1 l.length l) (hc1 : l.length ≤ c1) (hl : l.length ≤ 100)
    (hs : ∀ v ∈ l, v.f0.size ≤ 140737488351232 ∧ v.f1.size ≤ 140737488351232) :
    Calls Try.prog 10 #[.agg #[.string name, .int .i64 ver, .bool b2, .bool b3, .int .i64 b4, .int .i64 b5, .string pol, .int .i64 exp, .int .i64 non], .slice A1 l.length c1, .int .u64 now] w fun e w' => ∃ v0_ : Value, e = .returned (v0_) ∧ Kd.R (Kd.int .u64) 28 w' w.heap.size (fun _ => True) v0_ (dueL name ver exp non now l l.length) ∧ Below w.heap.size w w' := by
  have HR := Aside0.mk hr1
  have HS := Aside0.mk hs
  have hu27 := Try.underlying27
  have hu37 := Try.underlying37
  have hmf : ∀ (fn : Fn) (first cap : Array Value) (w : World), (Instr.makeFunc fn first cap).run Try.prog w = .ok (.func fn first cap) w := fun _ _ _ _ => rfl
  clear hr1 hs
  have HL := fun o1 o2 => latest_any A1 c1 l ((w.alloc o1).alloc o2) (Kd.C_below HR.out (((Below.refl w.heap.size w).alloc (Nat.le_refl _) o1).alloc (by simp) o2)) hc1 hl HS.out
  go_enter Try.func10, Try.ntmps10
  go_wp2_with (go_at_call 14; refine (HL _ _).mono ?_)
  rintro e w1 ⟨D, rfl, hown, ht, hb⟩
  clear HL
  have e2 : ∀ o1 o2 : Obj, ((w.alloc o1).alloc o2).heap.size = w.heap.size + 2 := fun _ _ => by simp
  rw [e2] at hown hb
  have k0 : w1.cell? ⟨w.heap.size, 0, none⟩ = some (.string name) := (hb.cell (p := ⟨w.heap.size, 0, none⟩) (by simp)).trans (by first | (simp; done) | rfl)
  have k1 : w1.cell? ⟨w.heap.size, 1, none⟩ = some (.int .i64 ver) := (hb.cell (p := ⟨w.heap.size, 1, none⟩) (by simp)).trans (by first | (simp; done) | rfl)
  have k7 : w1.cell? ⟨w.heap.size, 7, none⟩ = some (.int .i64 exp) := (hb.cell (p := ⟨w.heap.size, 7, none⟩) (by simp)).trans (by first | (simp; done) | rfl)
  have k8 : w1.cell? ⟨w.heap.size, 8, none⟩ = some (.int .i64 non) := (hb.cell (p := ⟨w.heap.size, 8, none⟩) (by simp)).trans (by first | (simp; done) | rfl)
  have kn : w1.cell? ⟨w.heap.size + 1, 0, none⟩ = some (.int .u64 now) := (hb.cell (p := ⟨w.heap.size + 1, 0, none⟩) (by simp)).trans (by first | (simp; done) | rfl)
  have hw1 : Aside0 (Below w.heap.size w w1) := ⟨(((Below.refl w.heap.size w).alloc (Nat.le_refl _) _).alloc (by simp) _).trans ⟨hb.os, hb.tape, hb.output, hb.size, fun k hk => hb.block k (by omega)⟩⟩
  have hs1 := hb.size
  rw [e2] at hs1
  have hltM : w.heap.size + 2 < w1.heap.size := hown.lt
  have HT := Aside0.mk ht
  clear ht hb
  obtain ⟨mb, hmb⟩ : ∃ mb, w.heap.size + 2 = mb := ⟨_, rfl⟩
  simp only [e2, hmb] at hown hltM ⊢
  go_wp2_with fail
  go_loopw [6, 18] (fun v6 v18 wr => ∃ k : Nat, k ≤ l.length ∧ v18 = .int .i64 k ∧ Aside0 (Kd.R (Kd.int .u64) 28 wr w1.heap.size (fun _ => True) v6 (dueL name ver exp non now l k)) ∧ Aside0 (Below w1.heap.size w1 wr)) (fun _ v18 _ => l.length - (intOf v18).toNat)
  case atStart => exact ⟨0, Nat.zero_le _, rfl, ⟨Kd.R_nil _ _ _ _ _⟩, ⟨Below.refl _ _⟩⟩
  case round =>
    obtain ⟨k, hk, rfl, hR, hBl⟩ := hrel
    by_cases hlt : k < l.length
    · have hbA : Aside0 (Below w.heap.size w wr) := ⟨hw1.out.trans ⟨hBl.out.os, hBl.out.tape, hBl.out.output, hBl.out.size, fun j hj => hBl.out.block j (by omega)⟩⟩
      obtain ⟨ad, A5, c5, he, q0, q1, q2, q3, q4, q5, q6, q7, q8, q9, q10, q11⟩ := at_T37 HR.out (k : Int) (by omega) (by omega)
      cases he
      obtain ⟨v, hv⟩ : ∃ v, rd_T37 l (k : Int) = v := ⟨_, rfl⟩
      rw [hv] at q0 q1 q2 q3 q4 q5 q6 q7 q8 q9 q10 q11
      simp only [Int.toNat_natCast] at q0 q1 q2 q3 q4 q5 q6 q7 q8 q9
      have d0 := (hbA.out.cell (World.block_lt_of_cell? w _ q0)).trans q0
      have d1 := (hbA.out.cell (World.block_lt_of_cell? w _ q1)).trans q1
      have d2 := (hbA.out.cell (World.block_lt_of_cell? w _ q2)).trans q2
      have d3 := (hbA.out.cell (World.block_lt_of_cell? w _ q3)).trans q3
      have d4 := (hbA.out.cell (World.block_lt_of_cell? w _ q4)).trans q4
      have d5 := (hbA.out.cell (World.block_lt_of_cell? w _ q5)).trans q5
      have d6 := (hbA.out.cell (World.block_lt_of_cell? w _ q6)).trans q6
      have d7 := (hbA.out.cell (World.block_lt_of_cell? w _ q7)).trans q7
      have d8 := (hbA.out.cell (World.block_lt_of_cell? w _ q8)).trans q8
      have d9 := (hbA.out.cell (World.block_lt_of_cell? w _ q9)).trans q9
      have g5 := Aside0.mk (Kd.C_below q11 hbA.out)
      clear q0 q1 q2 q3 q4 q5 q6 q7 q8 q9 q11
      have HV := Aside0.mk hv
      clear hv
      have hsz := hBl.out.size
      have hvl : l.getD k z37 = v := HV.out
      obtain ⟨hs0, hs1'⟩ := HS.out v (by rw [← hvl, List.getD_eq_getElem?_getD, List.getElem?_eq_getElem hlt]; exact List.getElem_mem _)
      have HI := Aside0.mk (hasI D l l.length v.f0 v.f1 HT.out hs0 hs1')
      have hge := lat_ge l k l.length hlt
      rw [hvl] at hge
      obtain ⟨p, hp⟩ : ∃ p, lat l v.f0 v.f1 l.length = p := ⟨_, rfl⟩
      rw [hp] at hge HI
      have HP := Aside0.mk hp
      have HVL := Aside0.mk hvl
      clear hp hvl
      have hownr := own_below hown hBl.out hltM
      have kn' := (hBl.out.cell (p := ⟨w.heap.size + 1, 0, none⟩) (by show w.heap.size + 1 < _; omega)).trans kn
      have k0' := (hBl.out.cell (p := ⟨w.heap.size, 0, none⟩) (by show w.heap.size < _; omega)).trans k0
      have k1' := (hBl.out.cell (p := ⟨w.heap.size, 1, none⟩) (by show w.heap.size < _; omega)).trans k1
      have k7' := (hBl.out.cell (p := ⟨w.heap.size, 7, none⟩) (by show w.heap.size < _; omega)).trans k7
      have k8' := (hBl.out.cell (p := ⟨w.heap.size, 8, none⟩) (by show w.heap.size < _; omega)).trans k8
      have k0a := fun o : Obj => (((Below.refl wr.heap.size wr).alloc (Nat.le_refl _) o).cell (p := ⟨w.heap.size, 0, none⟩) (by show w.heap.size < wr.heap.size; omega)).trans k0'
      have k1a := fun o : Obj => (((Below.refl wr.heap.size wr).alloc (Nat.le_refl _) o).cell (p := ⟨w.heap.size, 1, none⟩) (by show w.heap.size < wr.heap.size; omega)).trans k1'
      have k7a := fun o : Obj => (((Below.refl wr.heap.size wr).alloc (Nat.le_refl _) o).cell (p := ⟨w.heap.size, 7, none⟩) (by show w.heap.size < wr.heap.size; omega)).trans k7'
      have k8a := fun o : Obj => (((Below.refl wr.heap.size wr).alloc (Nat.le_refl _) o).cell (p := ⟨w.heap.size, 8, none⟩) (by show w.heap.size < wr.heap.size; omega)).trans k8'
      have kna := fun o : Obj => (((Below.refl wr.heap.size wr).alloc (Nat.le_refl _) o).cell (p := ⟨w.heap.size + 1, 0, none⟩) (by show w.heap.size + 1 < wr.heap.size; omega)).trans kn'
      go_wp2_with (at_lookup; refine wpList_lookup_own_int _ rfl _ _ 42 rfl 45 3 .i64 law Try.underlying42 Try.underlying3 (zeroE _) mb l.length D rfl (hownr.alloc _) _ _ rfl (key_eq v.f0 v.f1 hs0 hs1') ?_)
      intro c hat hwc
      have hc := HI.out c hat
      rw [if_pos hge] at hc
      replace hc := hc.symm
      subst hc
      clear hat hwc
      go_upto_region 7 with (fail)
      go_cut [11, 12] (fun x11 x12 wc => x12 = .bool (gone ver exp non now (p == (k : Int)) v) ∧ Aside0 (Below (wr.alloc (vobj v A5 c5)).heap.size (wr.alloc (vobj v A5 c5)) wc))
      case first =>
        by_cases e : p = (k : Int)
        · have eb : (p == (k : Int)) = true := beq_iff_eq.2 e
          rw [eb]
          rcases hm : v.f4 with _ | _
          · by_cases ev : ver = 0
            · have evb : (ver == 0) = true := beq_iff_eq.2 ev
              clear ev
              have oN := over_any v.f0 v.f1 v.f2 v.f3 v.f4 (.slice A5 v.f5.length c5) v.f6.f0 v.f6.f1 v.f7 v.f8 exp now (w.heap.size + 1) (wr.alloc (vobj v A5 c5)) (by simp; omega) (kna _)
              simp only [vobj, hm] at oN
              rcases ho : over v.f8 exp now with _ | _
              · rw [ho] at oN
                go_wp2_with (go_at_call 15; refine oN.mono ?_)
                rintro e' w2 ⟨rfl, hb2⟩
                clear oN
                go_wp2
                go_meet
                case rel => exact ⟨by simp [gone, eb, ho, hm, evb], ⟨by simp only [vobj, hm]; exact hb2⟩⟩
              · rw [ho] at oN
                go_wp2_with (go_at_call 15; refine oN.mono ?_)
                rintro e' w2 ⟨rfl, hb2⟩
                clear oN
                go_wp2
                go_meet
                case rel => exact ⟨by simp [gone, eb, ho, hm, evb], ⟨by simp only [vobj, hm]; exact hb2⟩⟩
            · have evb : (ver == 0) = false := beq_eq_false_iff_ne.2 ev
              go_wp2
              go_meet
              case rel => exact ⟨by simp [gone, eb, hm, evb], ⟨by simp only [vobj, hm]; exact Below.refl _ _⟩⟩
          · go_wp2
            go_meet
            case rel => exact ⟨by simp [gone, eb, hm], ⟨by simp only [vobj, hm]; exact Below.refl _ _⟩⟩
        · have eb : (p == (k : Int)) = false := beq_eq_false_iff_ne.2 e
          rw [eb]
          have oN := over_any v.f0 v.f1 v.f2 v.f3 v.f4 (.slice A5 v.f5.length c5) v.f6.f0 v.f6.f1 v.f7 v.f8 non now (w.heap.size + 1) (wr.alloc (vobj v A5 c5)) (by simp; omega) (kna _)
          rcases ho : over v.f8 non now with _ | _
          · rw [ho] at oN
            go_wp2_with (go_at_call 15; refine oN.mono ?_)
            rintro e' w2 ⟨rfl, hb2⟩
            clear oN
            go_wp2
            go_meet
            case rel => exact ⟨by simp [gone, eb, ho], ⟨hb2⟩⟩
          · rw [ho] at oN
            go_wp2_with (go_at_call 15; refine oN.mono ?_)
            rintro e' w2 ⟨rfl, hb2⟩
            clear oN
            go_wp2
            go_meet
            case rel => exact ⟨by simp [gone, eb, ho], ⟨hb2⟩⟩
      case rest =>
        obtain ⟨rfl, hB2⟩ := hcut
        have hA := (Below.refl wr.heap.size wr).alloc (Nat.le_refl _) (vobj v A5 c5)
        have z0 := (hB2.out.cell (p := ⟨wr.heap.size, 0, none⟩) (by simp)).trans (show (wr.alloc (vobj v A5 c5)).cell? ⟨wr.heap.size, 0, none⟩ = some (.string v.f0) by first | (simp [vobj]; done) | rfl)
        have z1 := (hB2.out.cell (p := ⟨wr.heap.size, 1, none⟩) (by simp)).trans (show (wr.alloc (vobj v A5 c5)).cell? ⟨wr.heap.size, 1, none⟩ = some (.string v.f1) by first | (simp [vobj]; done) | rfl)
        have z2 := (hB2.out.cell (p := ⟨wr.heap.size, 2, none⟩) (by simp)).trans (show (wr.alloc (vobj v A5 c5)).cell? ⟨wr.heap.size, 2, none⟩ = some (.int .u64 v.f2) by first | (simp [vobj]; done) | rfl)
        have z3 := (hB2.out.cell (p := ⟨wr.heap.size, 3, none⟩) (by simp)).trans (show (wr.alloc (vobj v A5 c5)).cell? ⟨wr.heap.size, 3, none⟩ = some (.int .u64 v.f3) by first | (simp [vobj]; done) | rfl)
        have z4 := (hB2.out.cell (p := ⟨wr.heap.size, 4, none⟩) (by simp)).trans (show (wr.alloc (vobj v A5 c5)).cell? ⟨wr.heap.size, 4, none⟩ = some (.bool v.f4) by first | (simp [vobj]; done) | rfl)
        have z5 := (hB2.out.cell (p := ⟨wr.heap.size, 5, none⟩) (by simp)).trans (show (wr.alloc (vobj v A5 c5)).cell? ⟨wr.heap.size, 5, none⟩ = some (.slice A5 v.f5.length c5) by first | (simp [vobj]; done) | rfl)
        have z6 := (hB2.out.cell (p := ⟨wr.heap.size, 6, none⟩) (by simp)).trans (show (wr.alloc (vobj v A5 c5)).cell? ⟨wr.heap.size, 6, none⟩ = some (.int .i64 v.f6.f0) by first | (simp [vobj]; done) | rfl)
        have z7 := (hB2.out.cell (p := ⟨wr.heap.size, 7, none⟩) (by simp)).trans (show (wr.alloc (vobj v A5 c5)).cell? ⟨wr.heap.size, 7, none⟩ = some (.int .u64 v.f6.f1) by first | (simp [vobj]; done) | rfl)
        have z8 := (hB2.out.cell (p := ⟨wr.heap.size, 8, none⟩) (by simp)).trans (show (wr.alloc (vobj v A5 c5)).cell? ⟨wr.heap.size, 8, none⟩ = some (.bool v.f7) by first | (simp [vobj]; done) | rfl)
        have z9 := (hB2.out.cell (p := ⟨wr.heap.size, 9, none⟩) (by simp)).trans (show (wr.alloc (vobj v A5 c5)).cell? ⟨wr.heap.size, 9, none⟩ = some (.int .u64 v.f8) by first | (simp [vobj]; done) | rfl)
        have kw := (hB2.out.cell (p := ⟨w.heap.size + 1, 0, none⟩) (by simp; omega)).trans (kna (vobj v A5 c5))
        have k0w := (hB2.out.cell (p := ⟨w.heap.size, 0, none⟩) (by simp; omega)).trans (k0a (vobj v A5 c5))
        have hW : Below wr.heap.size wr wc := hA.trans (lowB hB2.out (by simp))
        have hlast : lastB l k = (p == (k : Int)) := by unfold lastB; rw [HVL.out, HP.out]
        rcases hg : gone ver exp non now (p == (k : Int)) v with _ | _
        · have hst : dueL name ver exp non now l (k + 1) = dueL name ver exp non now l k := by
            rw [dueL_succ, HVL.out, hlast, if_neg (by unfold due1; rw [hg]; simp)]
          go_wp2
          go_roundw
          · exact ⟨k + 1, by omega, by simp, ⟨by rw [hst]; exact Kd.R_below hR.out hW⟩, ⟨hBl.out.trans (lowB hW hsz)⟩⟩
          · show l.length - ((k : Int) + 1).toNat < l.length - (k : Int).toNat; omega
        · by_cases hn : v.f0.toList = name.toList
          · have hnb : (v.f0.toList == name.toList) = true := beq_iff_eq.2 hn
            clear hn
            go_wp2_with (go_at_call 17; refine (lock_MayDelete.calls v.f0 v.f1 v.f2 v.f3 v.f4 A5 c5 v.f5 v.f6.f0 v.f6.f1 v.f7 v.f8 now false (may v now) wc (Kd.C_below g5.out hW) q10 (may_eq v now)).mono ?_)
            rintro e' w2 ⟨rfl, hb2⟩
            have hW2 : Below wr.heap.size wr w2 := hW.trans (lowB hb2 hW.size)
            have z3' := (hb2.cell (World.block_lt_of_cell? wc _ z3)).trans z3
            by_cases hm : may v now = 0
            · have hmb : (may v now == 0) = true := beq_iff_eq.2 hm
              have hst : dueL name ver exp non now l (k + 1) = dueL name ver exp non now l k ++ [v.f3] := by
                rw [dueL_succ, HVL.out, hlast, if_pos (by unfold due1; rw [hg, hnb, hmb]; rfl)]
              have hdl := dueL_len name ver exp non now l k
              clear hm
              go_wp2_with (at_builtin; refine Kd.R_append (Kd.int .u64) (w0 := w1) w1.heap.size rfl (.tmp 75) (.tmp 78) 30 28 (.int .u64 0) 8 rfl Try.underlying30 info28 rfl (by decide) (by omega) _ (dueL name ver exp non now l k) v.f3 [.int .u64 v.f3] (fun _ => True) (fun _ => False) rfl rfl ?aP (fun _ hk => hk.elim) ?aF ?aO ?aB ?aS ?aL ?_)
              case aP => exact rfl
              case aF => exact fun _ _ => trivial
              case aO => exact Kd.R_below hR.out hW2
              case aB => exact hBl.out.trans (lowB hW2 hsz)
              case aS => have := hW2.size; omega
              case aL => omega
              intro v1 w3 ho hb3 hg3 hat3
              go_wp2
              go_roundw
              · exact ⟨k + 1, by omega, by simp, ⟨by rw [hst]; exact ho⟩, ⟨hb3⟩⟩
              · show l.length - ((k : Int) + 1).toNat < l.length - (k : Int).toNat; omega
            · have hmb : (may v now == 0) = false := beq_eq_false_iff_ne.2 hm
              have hst : dueL name ver exp non now l (k + 1) = dueL name ver exp non now l k := by
                rw [dueL_succ, HVL.out, hlast, if_neg (by unfold due1; rw [hmb]; simp)]
              clear hm
              go_wp2
              go_roundw
              · exact ⟨k + 1, by omega, by simp, ⟨by rw [hst]; exact Kd.R_below hR.out hW2⟩, ⟨hBl.out.trans (lowB hW2 hsz)⟩⟩
              · show l.length - ((k : Int) + 1).toNat < l.length - (k : Int).toNat; omega
          · have hnb : (v.f0.toList == name.toList) = false := beq_eq_false_iff_ne.2 hn
            have hst : dueL name ver exp non now l (k + 1) = dueL name ver exp non now l k := by
              rw [dueL_succ, HVL.out, hlast, if_neg (by unfold due1; rw [hnb]; simp)]
            clear hn
            go_wp2
            go_roundw
            · exact ⟨k + 1, by omega, by simp, ⟨by rw [hst]; exact Kd.R_below hR.out hW⟩, ⟨hBl.out.trans (lowB hW hsz)⟩⟩
            · show l.length - ((k : Int) + 1).toNat < l.length - (k : Int).toNat; omega
    · go_wp2
      go_ret
      have hke : k = l.length := by omega
      subst hke
      refine ⟨_, rfl, Kd.R_lower hR.out (by omega), ?_⟩
      exact hw1.out.trans ⟨hBl.out.os, hBl.out.tape, hBl.out.output, hBl.out.size, fun j hj => hBl.out.block j (by omega)⟩
end Go.Proofs.Ytioncemogbjklaa.PG
