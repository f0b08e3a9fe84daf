/- The map of the latest versions: its key's law, and what it tells. -/
import Derived.Test.YtioncemogbjklaaPEx0
import Derived.Maps.OwnSet
import Derived.Maps.OwnOps
import Derived.Maps.Views
import Derived.DeepKeys4
namespace Go.Proofs.Ytioncemogbjklaa.PG
open Go.RowKit Go.Maps Go.Proofs.YtioncemogbjklaaW.PrintWords Go.Proofs.YtioncemogbjklaaW.PrintLast Go.Proofs.YtioncemogbjklaaW.PrintMore Go.Proofs.Ytioncemogbjklaa.PE
attribute [local go_sem] max2_int min2_int max_two min_two max_three min_three max_four min_four
set_option linter.unusedVariables false
set_option linter.unusedSimpArgs false

theorem laidOut : laidOutB Try.prog = true := by kernel_rfl
theorem law : Keyed Try.prog 45 := Keyed.of_law (deep_law_laid laidOut (m := 3) (by omega) (of_decide_eq_true (by kernel_rfl)) (by kernel_rfl) (by kernel_rfl))
theorem zeroE (w : World) : (zeroValue 3).run Try.prog w = .ok (.int .i64 0) w := by kernel_rfl
def kl (b k : ByteArray) : Lit := .string (keyBytes [.string b.data.toList, .string k.data.toList])
theorem key_eq (b k : ByteArray) (hb : b.size ≤ 140737488351232) (hk : k.size ≤ 140737488351232) : keyOf Try.prog 45 (.agg #[.string b, .string k]) = some (kl b k) := by
  unfold keyOf
  simp only [Try.underlying45]
  have h1 : Try.prog.keyType 45 = true := by kernel_rfl
  have h2 : Try.prog.cellsOf 45 = 2 := by kernel_rfl
  have h3 : Try.prog.cellsOf 9 = 1 := by kernel_rfl
  have h4 : Value.formed Try.prog 45 (Value.agg #[Value.string b, Value.string k]) = true := by
    simp [Value.formed, Try.underlying45, h2]
  have h5 : b.size ≤ maxLen := by unfold maxLen; omega
  have h6 : k.size ≤ maxLen := by unfold maxLen; omega
  obtain ⟨m, hm⟩ : ∃ m, Try.prog.types.size + 1 = m + 1 + 1 := ⟨Try.prog.types.size - 1, by have : 0 < Try.prog.types.size := of_decide_eq_true (by kernel_rfl); omega⟩
  rw [h1, h4, hm]
  simp [Program.keyLits, Try.underlying45, Try.underlying9, h2, h3, h5, h6, Value.cells, kl]
theorem kl_ne (b k b' k' : ByteArray) (hb : b.size ≤ 140737488351232) (hk : k.size ≤ 140737488351232) (hb' : b'.size ≤ 140737488351232) (hk' : k'.size ≤ 140737488351232) (h : ¬ (b = b' ∧ k = k')) : kl b k ≠ kl b' k' := by
  intro e
  have h1 := key_eq b k hb hk
  have h2 := key_eq b' k' hb' hk'
  rw [← e] at h2
  have := law.inj h1 h2
  simp at this
  exact h this
theorem kl_is (b k : ByteArray) (hb : b.size ≤ 140737488351232) (hk : k.size ≤ 140737488351232) : WideAt.IsKeyLit (kl b k) := law.key (key_eq b k hb hk)
/-- the place of the latest version of a key among the first n; -1: there is none -/
def lat (l : List S37) (b k : ByteArray) : Nat → Int
  | 0 => -1
  | n + 1 => if (l.getD n z37).f0 = b ∧ (l.getD n z37).f1 = k ∧ (lat l b k n < 0 ∨ (l.getD (lat l b k n).toNat z37).f3 < (l.getD n z37).f3) then (n : Int) else lat l b k n
theorem lat_bd (l : List S37) (b k : ByteArray) : ∀ n, -1 ≤ lat l b k n ∧ lat l b k n < n
  | 0 => by unfold lat; omega
  | n + 1 => by have := lat_bd l b k n; unfold lat; split <;> omega
/-- what a map tells of the first n versions -/
def Tells (D : DataW Unit) (l : List S37) (n : Nat) : Prop := IsMap D ∧ ∀ b k : ByteArray, b.size ≤ 140737488351232 → k.size ≤ 140737488351232 →
  Maps.has D (kl b k) = decide (0 ≤ lat l b k n) ∧ (0 ≤ lat l b k n → D.atKey (kl b k) (.lit (.int .i64 0)) = .lit (.int .i64 (lat l b k n)))
theorem tells_nil (l : List S37) : Tells (.map []) l 0 := ⟨isMap_empty, fun b k _ _ => ⟨rfl, fun h => by simp [lat] at h⟩⟩
theorem tells_put (D : DataW Unit) (l : List S37) (n : Nat) (v : S37) (hv : l.getD n z37 = v) (h0 : v.f0.size ≤ 140737488351232) (h1 : v.f1.size ≤ 140737488351232) (h : Tells D l n)
    (hp : lat l v.f0 v.f1 n < 0 ∨ (l.getD (lat l v.f0 v.f1 n).toNat z37).f3 < v.f3) : Tells (D.put (kl v.f0 v.f1) (.lit (.int .i64 (n : Int)))) l (n + 1) := by
  refine ⟨h.1.put _ _, fun b k hb hk => ?_⟩
  by_cases e : v.f0 = b ∧ v.f1 = k
  · obtain ⟨rfl, rfl⟩ := e
    have el : lat l v.f0 v.f1 (n + 1) = n := by unfold lat; rw [hv, if_pos ⟨rfl, rfl, hp⟩]
    rw [el, has_put_same h.1 (kl_is _ _ h0 h1), atKey_put_same h.1 (kl_is _ _ h0 h1)]
    exact ⟨(decide_eq_true (by omega)).symm, fun _ => rfl⟩
  · have el : lat l b k (n + 1) = lat l b k n := by
      show (if _ then _ else _) = _
      rw [hv, if_neg (fun q => e ⟨q.1, q.2.1⟩)]
    have ne : kl b k ≠ kl v.f0 v.f1 := (kl_ne _ _ _ _ h0 h1 hb hk e).symm
    rw [el, has_put_other ne, atKey_put_other ne]
    exact h.2 b k hb hk
theorem tells_keep (D : DataW Unit) (l : List S37) (n : Nat) (v : S37) (hv : l.getD n z37 = v) (h : Tells D l n)
    (hp : ¬ (lat l v.f0 v.f1 n < 0 ∨ (l.getD (lat l v.f0 v.f1 n).toNat z37).f3 < v.f3)) : Tells D l (n + 1) := by
  refine ⟨h.1, fun b k hb hk => ?_⟩
  have el : lat l b k (n + 1) = lat l b k n := by
    show (if _ then _ else _) = _
    rw [hv, if_neg (by rintro ⟨rfl, rfl, q⟩; exact hp q)]
  rw [el]
  exact h.2 b k hb hk
theorem hasI (D : DataW Unit) (l : List S37) (n : Nat) (b k : ByteArray) (h : Tells D l n) (hb : b.size ≤ 140737488351232) (hk : k.size ≤ 140737488351232) (c : Int) (hc : D.atKey (kl b k) (.lit (.int .i64 0)) = .lit (.int .i64 c)) :
    c = if 0 ≤ lat l b k n then lat l b k n else 0 := by
  obtain ⟨h1, h2⟩ := h.2 b k hb hk
  by_cases q : 0 ≤ lat l b k n
  · rw [if_pos q]
    rw [h2 q] at hc
    injection hc with hc; injection hc with _ hc; exact hc.symm
  · rw [if_neg q]
    rw [decide_eq_false q] at h1
    rw [atKey_of_not_has h1] at hc
    injection hc with hc; injection hc with _ hc; exact hc.symm
theorem own_drewN {w : World} {P : Program} {k : TypeId} {R : Value → Option (DataW Unit × List MemPlace)} {b n m : Nat} {D : DataW Unit} (h : w.ownsMap P k R b n D) : (w.drewN m).ownsMap P k R b n D := h
set_option maxHeartbeats 4000000 in
set_option maxRecDepth 100000 in
theorem latest_any (A0 : Option Addr) (c0 : Nat) (l : List S37) (w : World) (hr0 : Kd.C k37 w A0 l.length l) (hc0 : l.length ≤ c0) (hl : l.length ≤ 100) (hs : ∀ v ∈ l, v.f0.size ≤ 140737488351232 ∧ v.f1.size ≤ 140737488351232) :
    Calls Try.prog 14 #[.slice A0 l.length c0] w fun e w' => ∃ D, e = .returned (.map (some w.heap.size)) ∧ w'.ownsMap Try.prog 45 (plainElem Try.prog 3) w.heap.size l.length D ∧ Tells D l l.length ∧ Below w.heap.size w w' := by
  have HR := Aside0.mk hr0
  have HS := Aside0.mk hs
  clear hr0 hs
  have hmm := @run_makeMap Try.prog
  go_enter Try.func14, Try.ntmps14
  go_wp2
  go_loopw [12] (fun v wr => ∃ k : Nat, k ≤ l.length ∧ v = .int .i64 k ∧ Aside0 (∃ D, wr.ownsMap Try.prog 45 (plainElem Try.prog 3) w.heap.size k D ∧ Tells D l k) ∧ Aside0 (Below w.heap.size w wr)) (fun v _ => l.length - (intOf v).toNat)
  case atStart =>
    refine ⟨0, Nat.zero_le _, rfl, ⟨_, World.ownsMap_made _ _ _ _, tells_nil l⟩, ⟨(Below.refl _ _).alloc (Nat.le_refl _) _⟩⟩
  case round =>
    obtain ⟨k, hk, rfl, hI, hBl⟩ := hrel
    by_cases hlt : k < l.length
    · obtain ⟨ad, A5, c5, he, q0, q1, q2, q3, q4, q5, q6, q7, q8, q9, _⟩ := at_T37 HR.out (k : Int) (by omega) (by omega)
      cases he
      obtain ⟨v, hv⟩ : ∃ v, rd_T37 l (k : Int) = v := ⟨_, rfl⟩
      rw [hv] at q0 q1 q2 q3 q4 q5 q6 q7 q8 q9
      simp only [Int.toNat_natCast] at q0 q1 q2 q3 q4 q5 q6 q7 q8 q9
      have d0 := (hBl.out.cell (World.block_lt_of_cell? w _ q0)).trans q0
      have d1 := (hBl.out.cell (World.block_lt_of_cell? w _ q1)).trans q1
      have d2 := (hBl.out.cell (World.block_lt_of_cell? w _ q2)).trans q2
      have d3 := (hBl.out.cell (World.block_lt_of_cell? w _ q3)).trans q3
      have d4 := (hBl.out.cell (World.block_lt_of_cell? w _ q4)).trans q4
      have d5 := (hBl.out.cell (World.block_lt_of_cell? w _ q5)).trans q5
      have d6 := (hBl.out.cell (World.block_lt_of_cell? w _ q6)).trans q6
      have d7 := (hBl.out.cell (World.block_lt_of_cell? w _ q7)).trans q7
      have d8 := (hBl.out.cell (World.block_lt_of_cell? w _ q8)).trans q8
      have d9 := (hBl.out.cell (World.block_lt_of_cell? w _ q9)).trans q9
      clear q0 q1 q2 q3 q4 q5 q6 q7 q8 q9
      have HV := Aside0.mk hv
      clear hv
      have hsz := hBl.out.size
      obtain ⟨D, hown, ht⟩ := hI.out
      have hvl : l.getD k z37 = v := HV.out
      obtain ⟨hs0, hs1⟩ := HS.out v (by rw [← hvl, List.getD_eq_getElem?_getD, List.getElem?_eq_getElem hlt]; exact List.getElem_mem _)
      have pbd := lat_bd l v.f0 v.f1 k
      have HT := Aside0.mk (ht.2 v.f0 v.f1 hs0 hs1)
      have HI := Aside0.mk (hasI D l k v.f0 v.f1 ht hs0 hs1)
      have HT0 := Aside0.mk ht
      have HVL := Aside0.mk hvl
      have HL := Aside0.mk (tells_put D l k v hvl hs0 hs1 ht)
      have HM := Aside0.mk (tells_keep D l k v hvl ht)
      clear ht hvl
      obtain ⟨p, hp⟩ : ∃ p, lat l v.f0 v.f1 k = p := ⟨_, rfl⟩
      rw [hp] at pbd HT HI HL HM
      have HP := Aside0.mk hp
      clear hp
      by_cases q : 0 ≤ p
      · have hh : Maps.has D (kl v.f0 v.f1) = true := by have := HT.out.1; rw [decide_eq_true q] at this; exact this
        obtain ⟨ad', A5', c5', he', r0, r1, r2, r3, _⟩ := at_T37 HR.out p q (by omega)
        cases he'
        obtain ⟨z, hz⟩ : ∃ z, rd_T37 l p = z := ⟨_, rfl⟩
        have hz' : l.getD p.toNat z37 = z := hz
        rw [hz'] at HL HM
        rw [hz] at r3
        have d' := (hBl.out.cell (World.block_lt_of_cell? w _ r3)).trans r3
        have HZ := Aside0.mk hz
        have dlt := World.block_lt_of_cell? wr _ d'
        have d2 : ∀ o1 o2, ((wr.alloc o1).alloc o2).cell? ⟨(ad.add (p.toNat * 10)).block, (ad.add (p.toNat * 10)).off + 3, none⟩ = some (.int .u64 z.f3) := fun o1 o2 => ((((Below.refl wr.heap.size wr).alloc (Nat.le_refl _) o1).alloc (by simp) o2).cell dlt).trans d'
        clear hz hz' r0 r1 r2 r3
        go_wp2_with (at_lookup; refine wpList_lookup_own_ok_int _ rfl _ _ 42 rfl 45 3 .i64 law Try.underlying42 Try.underlying3 (zeroE _) w.heap.size k D rfl ((hown.alloc _).alloc _) _ _ rfl (key_eq v.f0 v.f1 hs0 hs1) ?_)
        intro c hat hwc
        have hc := HI.out c hat
        rw [if_pos q] at hc
        replace hc := hc.symm
        subst hc
        clear hat hwc
        have p1 : p < l.length := by omega
        by_cases e : z.f3 < v.f3
        · have he : decide (z.f3 < v.f3) = true := decide_eq_true e
          go_wp2_with fail
          go_quiet (fail)
          go_wp2_with (at_mapUpdate; refine wpList_mapUpdate_own _ rfl _ _ _ 42 rfl 45 3 law Try.underlying42 _ w.heap.size k D rfl (own_drewN ((hown.alloc _).alloc _)) (by unfold maxLen; omega) _ _ _ rfl rfl (key_eq v.f0 v.f1 hs0 hs1) _ [] (plainElem_int Try.underlying3 (WalkArith.wf_i64 (by omega))) ?_)
          intro w1 hown1 hgrow1
          go_wp2
          go_roundw
          · refine ⟨k + 1, by omega, by simp, ⟨_, hown1, HL.out (.inr e)⟩, ⟨?_⟩⟩
            exact (pw_below_drewN ((hBl.out.alloc hsz _).alloc (by simp; omega) _) _).grown hgrow1 (by simp; omega) (fun j hj => by cases hj; exact Nat.le_refl _)
          · show l.length - ((k : Int) + 1).toNat < l.length - (k : Int).toNat; omega
        · have he : decide (z.f3 < v.f3) = false := decide_eq_false e
          go_wp2_with fail
          go_quiet (fail)
          go_wp2
          go_roundw
          · refine ⟨k + 1, by omega, by simp, ⟨_, (own_drewN ((hown.alloc _).alloc _)).mono (by omega), HM.out (by omega)⟩, ⟨?_⟩⟩
            exact pw_below_drewN ((hBl.out.alloc hsz _).alloc (by simp; omega) _) _
          · show l.length - ((k : Int) + 1).toNat < l.length - (k : Int).toNat; omega
      · have hh : Maps.has D (kl v.f0 v.f1) = false := by have := HT.out.1; rw [decide_eq_false q] at this; exact this
        go_wp2_with (at_lookup; refine wpList_lookup_own_ok_int _ rfl _ _ 42 rfl 45 3 .i64 law Try.underlying42 Try.underlying3 (zeroE _) w.heap.size k D rfl ((hown.alloc _).alloc _) _ _ rfl (key_eq v.f0 v.f1 hs0 hs1) ?_)
        intro c hat hwc
        have hc := HI.out c hat
        rw [if_neg (by omega)] at hc
        subst hc
        clear hat hwc
        go_wp2_with fail
        go_quiet (fail)
        go_wp2_with (at_mapUpdate; refine wpList_mapUpdate_own _ rfl _ _ _ 42 rfl 45 3 law Try.underlying42 _ w.heap.size k D rfl (own_drewN ((hown.alloc _).alloc _)) (by unfold maxLen; omega) _ _ _ rfl rfl (key_eq v.f0 v.f1 hs0 hs1) _ [] (plainElem_int Try.underlying3 (WalkArith.wf_i64 (by omega))) ?_)
        intro w1 hown1 hgrow1
        go_wp2
        go_roundw
        · refine ⟨k + 1, by omega, by simp, ⟨_, hown1, HL.out (.inl (by omega))⟩, ⟨?_⟩⟩
          exact (pw_below_drewN ((hBl.out.alloc hsz _).alloc (by simp; omega) _) _).grown hgrow1 (by simp; omega) (fun j hj => by cases hj; exact Nat.le_refl _)
        · show l.length - ((k : Int) + 1).toNat < l.length - (k : Int).toNat; omega
    · go_wp2
      go_ret
      have hke : k = l.length := by omega
      subst hke
      obtain ⟨D, hown, ht⟩ := hI.out
      exact ⟨D, rfl, hown, ht, hBl.out⟩
end Go.Proofs.Ytioncemogbjklaa.PG
