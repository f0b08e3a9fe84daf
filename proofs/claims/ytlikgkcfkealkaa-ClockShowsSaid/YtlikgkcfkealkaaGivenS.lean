/- The contracts of clock.pairs, clock.Show and clock.Date, by hand: the text of any time, and its date; nothing that was there has changed. -/
import Derived.Test.YtlikgkcfkealkaaGivenC2
import Derived.Test.YtlikgkcfkealkaaBuilder
namespace Go.Proofs.Ytlikgkcfkealkaa.PC
open Go.RowKit Go.Proofs.YtlikgkcfkealkaaW.PrintWords Go.Proofs.YtlikgkcfkealkaaW.PrintLast Go.Proofs.YtlikgkcfkealkaaW.PrintMore Go.Proofs.Ytlikgkcfkealkaa.Cal
attribute [local go_sem] max2_int min2_int max_two min_two max_three min_three max_four min_four
set_option linter.unusedVariables false
set_option linter.unusedSimpArgs false

def dg (n : Int) : UInt8 := UInt8.ofNat (48 + n % 10).toNat
/-- two digits of a number -/
def pr (n : Int) : List UInt8 := [dg (n / 10), dg n]
theorem dg_cell (n : Int) : Value.int .u8 ((48 + n % 10) : Int) = .int .u8 ((dg n).toNat : Int) := by
  unfold dg
  congr 1
  have : (48 + n % 10).toNat < 256 := by omega
  simp [UInt8.toNat_ofNat']
  omega
theorem cells_snoc (l : List UInt8) (n : Int) : Lib.byteCells l ++ [Value.int .u8 (48 + n % 10)] = Lib.byteCells (l ++ [dg n]) := by
  rw [dg_cell]; simp [Lib.byteCells]
def prs (l : List Int) : List UInt8 := l.flatMap pr
theorem prs_len (l : List Int) : (prs l).length = 2 * l.length := by
  induction l with
  | nil => rfl
  | cons a l ih => simp [prs, pr, List.flatMap_cons] at *; omega
set_option maxHeartbeats 2000000 in
set_option maxRecDepth 100000 in
theorem pairs_any (l : List Int) (g cap : Nat) (w : World) (hl : l.length ≤ 100) (hc : ∀ i, i < l.length → w.cell? ⟨g, i, none⟩ = some (.int .i64 (l.getD i 0))) (hg : g < w.heap.size) (hb : ∀ x ∈ l, 0 ≤ x ∧ x ≤ 99) :
    Calls Try.prog 29 #[.slice (some ⟨g, 0, none⟩) l.length cap] w fun e w' => e = .returned (.string ⟨(prs l).toArray⟩) ∧ Below w.heap.size w w' := by
  have HC := Aside0.mk hc
  have HB := Aside0.mk hb
  clear hc hb
  have hu := Try.underlying54
  go_enter Try.func29, Try.ntmps29
  go_wp2
  go_loopw [8] (fun v wr => ∃ k : Nat, k ≤ l.length ∧ v = .int .i64 k ∧ Aside0 (Lib.IsBuilder 54 5 w.heap.size w.heap.size (Lib.byteCells (prs (l.take k))) wr) ∧ Aside0 (Below w.heap.size w wr)) (fun v _ => l.length - (intOf v).toNat)
  case atStart =>
    refine ⟨0, Nat.zero_le _, rfl, ⟨?_⟩, ⟨(Below.refl _ _).alloc (Nat.le_refl _) _⟩⟩
    exact Lib.fresh_isBuilder 54 5 w
  case round =>
    obtain ⟨k, hk, rfl, hI, hBl⟩ := hrel
    by_cases hlt : k < l.length
    · have hx := HB.out (l.getD k 0) (by rw [List.getD_eq_getElem?_getD, List.getElem?_eq_getElem hlt]; exact List.getElem_mem _)
      have c0 : wr.cell? ⟨g, k, none⟩ = some (.int .i64 (l.getD k 0)) := (hBl.out.cell (p := ⟨g, k, none⟩) hg).trans (HC.out k hlt)
      have htake : prs (l.take (k + 1)) = prs (l.take k) ++ pr (l.getD k 0) := by
        rw [prs, List.take_add_one, List.flatMap_append, List.getD_eq_getElem?_getD, List.getElem?_eq_getElem hlt]
        simp [prs]
      have hlen : (prs (l.take k)).length ≤ 200 := by rw [prs_len, List.length_take]; omega
      obtain ⟨x, hxe⟩ : ∃ x, l.getD k 0 = x := ⟨_, rfl⟩
      rw [hxe] at hx c0 htake
      have hsz := hBl.out.size
      go_wp2_with (go_at_call 33; refine (Go.Proofs.Ytlikgkcfkealkaa.B.writeByte w.heap.size w.heap.size _ _ wr hI.out (by simp [Lib.byteCells]; omega) (by omega)).mono ?_)
      rintro e w1 ⟨rfl, hI1, hb1⟩
      rw [cells_snoc] at hI1
      have hsz1 := hb1.size
      go_wp2_with (go_at_call 33; refine (Go.Proofs.Ytlikgkcfkealkaa.B.writeByte w.heap.size w.heap.size _ _ w1 hI1 (by simp [Lib.byteCells]; omega) (by omega)).mono ?_)
      rintro e w2 ⟨rfl, hI2, hb2⟩
      rw [cells_snoc] at hI2
      go_wp2
      go_roundw
      · refine ⟨k + 1, by omega, by simp, ⟨?_⟩, ⟨(hBl.out.trans hb1).trans hb2⟩⟩
        rw [htake]
        simpa [pr] using hI2
      · show l.length - ((k : Int) + 1).toNat < l.length - (k : Int).toNat; omega
    · go_wp2_with (go_at_call 34; refine (Go.Proofs.Ytlikgkcfkealkaa.B.Builder_String_any w.heap.size w.heap.size _ _ hI.out (by have := hBl.out.size; omega)).mono ?_)
      rintro e w1 ⟨rfl, hb1⟩
      have hke : k = l.length := by omega
      subst hke
      rw [List.take_length]
      go_wp2
      go_ret
      exact ⟨rfl, hBl.out.trans hb1⟩
/-- the text of a time: of its year, month, day and second of the day -/
def showL (y m d s : Int) : List UInt8 := prs [y / 100, y % 100, m, d] ++ [84] ++ prs [s / 3600, s / 60 % 60, s % 60] ++ [90]
set_option maxHeartbeats 2000000 in
set_option maxRecDepth 100000 in
theorem show_in (t : Int) (w : World) (h0 : 0 ≤ t) (h1 : t ≤ 253402300799) (y m d : Int) (hy : 1 ≤ y ∧ y ≤ 9999) (hm : 1 ≤ m ∧ m ≤ 12) (hd : 1 ≤ d ∧ d ≤ 31) (hcv : clock_Civil.f (t / 86400) = some (y, m, d)) :
    Calls Try.prog 20 #[.int .u64 t] w fun e w' => e = .returned (.tuple #[.string ⟨(showL y m d (t % 86400)).toArray⟩, .int .i64 0]) ∧ Below w.heap.size w w' := by
  have HCV := Aside0.mk hcv
  clear hcv
  go_enter Try.func20, Try.ntmps20
  have hcv := clock_Civil.calls (t / 86400) y m d w HCV.out
  have hS : 0 ≤ t % 86400 ∧ t % 86400 < 86400 := by omega
  go_wp2_with (go_at_call 14; refine hcv.mono ?_)
  rintro e w1 ⟨rfl, hb1⟩
  clear hcv
  have hs1 := hb1.size
  have hq1 : ∀ x ∈ [y / 100, y % 100, m, d], 0 ≤ x ∧ x ≤ 99 := by simp; omega
  go_wp2_with (go_at_call 29; refine (pairs_any [y / 100, y % 100, m, d] w1.heap.size 4 _ (by simp) ?_ (by simp) hq1).mono ?_)
  · intro i hi
    match i, hi with
    | 0, _ => simp
    | 1, _ => simp
    | 2, _ => simp
    | 3, _ => simp
  rintro e w2 ⟨rfl, hb2⟩
  have hs2 := hb2.size
  simp at hs2
  have hl1 : (prs [y / 100, y % 100, m, d]).length = 8 := prs_len _
  obtain ⟨p1, hp1⟩ : ∃ p1 : ByteArray, p1 = ⟨(prs [y / 100, y % 100, m, d]).toArray⟩ := ⟨_, rfl⟩
  rw [← hp1]
  have hz1 : p1.size = 8 := by rw [hp1]; exact hl1
  have HP1 := Aside0.mk hp1
  clear hp1 hl1
  have hq2 : ∀ x ∈ [t % 86400 / 3600, t % 86400 / 60 % 60, t % 60], 0 ≤ x ∧ x ≤ 99 := by simp; omega
  go_wp2_with (go_at_call 29; refine (pairs_any [t % 86400 / 3600, t % 86400 / 60 % 60, t % 60] w2.heap.size 3 _ (by simp) ?_ (by simp) hq2).mono ?_)
  · intro i hi
    match i, hi with
    | 0, _ => simp
    | 1, _ => simp
    | 2, _ => simp
  rintro e w3 ⟨rfl, hb3⟩
  have hs3 := hb3.size
  simp at hs3
  have hl2 : (prs [t % 86400 / 3600, t % 86400 / 60 % 60, t % 60]).length = 6 := prs_len _
  obtain ⟨p2, hp2⟩ : ∃ p2 : ByteArray, p2 = ⟨(prs [t % 86400 / 3600, t % 86400 / 60 % 60, t % 60]).toArray⟩ := ⟨_, rfl⟩
  rw [← hp2]
  have hz2 : p2.size = 6 := by rw [hp2]; exact hl2
  have HP2 := Aside0.mk hp2
  clear hp2 hl2
  go_wp2
  go_ret2
  have hr : p1 ++ { data := #[84] } ++ p2 ++ { data := #[90] } = (⟨(showL y m d (t % 86400)).toArray⟩ : ByteArray) := by
    rw [HP1.out, HP2.out]
    unfold showL
    have e60 : t % 86400 % 60 = t % 60 := by omega
    rw [e60]
    apply ByteArray.ext
    simp
  refine ⟨?_, ?_⟩
  · rw [← hr]; rfl
  · refine (hb1.trans ((Below.alloc (Below.refl _ _) hs1 _).trans (hb2.mono ?_))).trans ((Below.alloc (Below.refl _ _) (by omega) _).trans (hb3.mono ?_)) <;> (simp; omega)
theorem show_out (t : Int) (w : World) (h1 : 253402300799 < t) :
    Calls Try.prog 20 #[.int .u64 t] w fun e w' => e = .returned (.tuple #[.string ⟨#[]⟩, .int .i64 6]) ∧ Below w.heap.size w w' := by
  go_enter Try.func20, Try.ntmps20
  go_wp2
  go_ret2
  exact ⟨rfl, Below.refl _ _⟩
def clock_Show.f (t : Int) : Option (ByteArray × Int) := if 0 ≤ t then (clock_Civil.f (t / 86400)).map (fun c => if t ≤ 253402300799 then (⟨(showL c.1 c.2.1 c.2.2 (t % 86400)).toArray⟩, 0) else (⟨#[]⟩, 6)) else none
theorem civ_bds (t : Int) (h0 : 0 ≤ t) (h1 : t ≤ 253402300799) : ∃ y m d, clock_Civil.f (t / 86400) = some (y, m, d) ∧ Valid (t / 86400 + 719162) y m d ∧ (1 ≤ y ∧ y ≤ 9999) ∧ (1 ≤ m ∧ m ≤ 12) ∧ 1 ≤ d ∧ d ≤ 31 := by
  have hv := civ_valid (t / 86400 + 719162) (by omega) (by omega)
  refine ⟨_, _, _, ?_, hv, ?_⟩
  · unfold clock_Civil.f; rw [if_neg (by omega), if_neg (by omega)]
  · obtain ⟨a, b, c, d, e, f, g⟩ := hv
    have := (dim_pos (civ (t / 86400 + 719162)).1 (civ (t / 86400 + 719162)).2.1).2
    omega
theorem clock_Show.calls (a0 : Int) (r1 : ByteArray) (r2 : Int) (w : World) (h : clock_Show.f a0 = some (r1, r2)) :
    Calls Try.prog 20 #[.int .u64 a0] w fun e w' => e = .returned (.tuple #[.string r1, .int .i64 r2]) ∧ Below w.heap.size w w' := by
  unfold clock_Show.f at h
  by_cases h0 : 0 ≤ a0
  · rw [if_pos h0] at h
    by_cases c : a0 ≤ 253402300799
    · obtain ⟨y, m, d, hc, hv, hy, hm, hd⟩ := civ_bds a0 h0 c
      rw [hc] at h
      simp only [Option.map_some, if_pos c, Option.some.injEq, Prod.mk.injEq] at h
      obtain ⟨rfl, rfl⟩ := h
      exact show_in a0 w h0 c y m d hy hm hd hc
    · unfold clock_Civil.f at h
      simp only [Option.map_some, if_neg c, Option.some.injEq, Prod.mk.injEq] at h
      obtain ⟨rfl, rfl⟩ := h
      exact show_out a0 w (by omega)
  · rw [if_neg h0] at h; cases h
def clock_Date.f (t : Int) : Option (ByteArray × Int) := (clock_Show.f t).map fun c => (c.1.extract 0 8, c.2)
set_option maxHeartbeats 2000000 in
set_option maxRecDepth 100000 in
theorem date_any (t : Int) (s : ByteArray) (r2 : Int) (w : World) (hs : s.size = 16 ∨ s = ⟨#[]⟩) (hc : Calls Try.prog 20 #[.int .u64 t] w fun e w' => e = .returned (.tuple #[.string s, .int .i64 r2]) ∧ Below w.heap.size w w') :
    Calls Try.prog 22 #[.int .u64 t] w fun e w' => e = .returned (.tuple #[.string (s.extract 0 8), .int .i64 r2]) ∧ Below w.heap.size w w' := by
  rcases hs with hs | hs
  · go_enter Try.func22, Try.ntmps22
    go_wp2_with (go_at_call 20; refine hc.mono ?_)
    rintro e w1 ⟨rfl, hb1⟩
    clear hc
    go_wp2
    go_ret2
    exact ⟨rfl, hb1⟩
  · subst hs
    go_enter Try.func22, Try.ntmps22
    go_wp2_with (go_at_call 20; refine hc.mono ?_)
    rintro e w1 ⟨rfl, hb1⟩
    clear hc
    go_wp2
    go_ret2
    exact ⟨rfl, hb1⟩
theorem showL_len (y m d s : Int) : (showL y m d s).length = 16 := by
  unfold showL
  simp only [List.length_append, prs_len]
  rfl
theorem clock_Date.calls (a0 : Int) (r1 : ByteArray) (r2 : Int) (w : World) (h : clock_Date.f a0 = some (r1, r2)) :
    Calls Try.prog 22 #[.int .u64 a0] w fun e w' => e = .returned (.tuple #[.string r1, .int .i64 r2]) ∧ Below w.heap.size w w' := by
  unfold clock_Date.f at h
  rcases hc : clock_Show.f a0 with _ | ⟨s, e⟩
  · rw [hc] at h; cases h
  · rw [hc] at h
    simp only [Option.map_some, Option.some.injEq, Prod.mk.injEq] at h
    obtain ⟨rfl, rfl⟩ := h
    have k := clock_Show.calls a0 s e w hc
    refine date_any a0 s e w ?_ k
    clear k
    unfold clock_Show.f at hc
    by_cases h0 : 0 ≤ a0
    · rw [if_pos h0] at hc
      by_cases c : a0 ≤ 253402300799
      · obtain ⟨y, m, d, hcv, _⟩ := civ_bds a0 h0 c
        rw [hcv] at hc
        simp only [Option.map_some, if_pos c, Option.some.injEq, Prod.mk.injEq] at hc
        left
        rw [← hc.1]
        exact showL_len _ _ _ _
      · unfold clock_Civil.f at hc
        simp only [Option.map_some, if_neg c, Option.some.injEq, Prod.mk.injEq] at hc
        exact .inr hc.1.symm
    · rw [if_neg h0] at hc; cases hc
end Go.Proofs.Ytlikgkcfkealkaa.PC
