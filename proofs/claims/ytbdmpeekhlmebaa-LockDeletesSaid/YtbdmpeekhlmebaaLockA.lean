/- What the printed functions of package lock answer, as plain Bools. -/
import Derived.Test.YtbdmpeekhlmebaaPx2
import Derived.Test.YtbdmpeekhlmebaaPxK
namespace Go.Proofs.Ytbdmpeekhlmebaa.Pure
open Go.RowKit Go.Proofs.YtbdmpeekhlmebaaW.PrintWords Go.Proofs.YtbdmpeekhlmebaaW.PrintLast Go.Proofs.YtbdmpeekhlmebaaW.PrintMore Go.Proofs.Ytbdmpeekhlmebaa.Opn Go.Proofs.Ytbdmpeekhlmebaa.P
set_option linter.unusedVariables false
set_option linter.unusedSimpArgs false

theorem alive_true : stelelaw15_alive.f = some true := by decide +kernel
def modeB (m : Int) : Bool := m == 1 || m == 2
theorem locks_eq (m : Int) : lock_mode_locks.f m = some (modeB m) := by
  unfold lock_mode_locks.f modeB; split <;> simp_all
theorem mode_eq (m : Int) : steleref15_mode.f m = some (modeB m) := by
  unfold steleref15_mode.f modeB; split <;> simp_all
def activeB (m u n : Int) : Bool := modeB m && decide (n < u)
theorem active_eq (m u n : Int) : lock_Active.f m u n = some (activeB m u n) := by
  unfold lock_Active.f activeB; rw [locks_eq]; simp only [Option.bind_some]; split <;> simp_all
theorem ractive_eq (m u n : Int) : steleref15_Active.f m u n = some (activeB m u n) := by
  unfold steleref15_Active.f activeB; rw [mode_eq]; simp only [Option.bind_some]; split <;> simp_all
def rightB (m u n : Int) : Bool := if modeB m then decide (n < u) && decide (u ≤ 253402300799) else (m == 0 && u == 0)
theorem mode0 {m : Int} (h : modeB m = true) : (m == 0) = false := by
  unfold modeB at h; simp at h ⊢; omega
theorem right_eq (m u n : Int) : lock_Right.f m u n = some (rightB m u n) := by
  unfold lock_Right.f rightB; rw [locks_eq]; simp only [Option.bind_some]
  cases h : modeB m
  · simp only [Bool.false_eq_true, if_false]; split <;> simp_all
  · simp only [if_true]; split <;> first | (simp_all; done) | (simp_all; omega)
theorem rright_eq (m u n : Int) : steleref15_Right.f m u n = some (rightB m u n) := by
  unfold steleref15_Right.f rightB; rw [mode_eq]; simp only [Option.bind_some]
  cases h : modeB m
  · simp only [Bool.false_eq_true, if_false]
  · have := mode0 h
    simp only [if_true, this, Bool.false_and]
    by_cases h1 : n < u
    · have h1' : u > n := h1
      rw [if_pos h1']
      by_cases h2 : u ≤ 253402300799
      · rw [if_pos h2]; simp [h1, h2]
      · rw [if_neg h2]; simp [h2]
    · have h1' : ¬ u > n := h1
      rw [if_neg h1']; simp [h1]
def coversB (am au bm bu : Int) : Bool := bm == 0 || (decide (bm ≤ am) && decide (bu ≤ au))
theorem mn_eq_right (a b : Int) : (mn a b == b) = decide (b ≤ a) := by
  unfold mn; split
  · rename_i h; simp; omega
  · rename_i h
    rw [Bool.eq_iff_iff]; simp; omega
theorem covers_eq (am au bm bu : Int) : lock_Covers.f am au bm bu = some (coversB am au bm bu) := by
  unfold lock_Covers.f coversB
  rw [mn_eq_right]
  by_cases h : bm = 0
  · rw [if_pos h]; simp [h]
  · rw [if_neg h]
    have h' : (bm == 0) = false := by simpa using h
    rw [h']
    have e : (mn am bm = bm) ↔ bm ≤ am := by have := mn_eq_right am bm; rw [Bool.eq_iff_iff] at this; simpa using this
    by_cases g : bm ≤ am
    · rw [if_pos (e.2 g)]; simp [g]
    · rw [if_neg (fun k => g (e.1 k))]; simp [g]
theorem rcovers_eq (am au bm bu : Int) : steleref15_Covers.f am au bm bu = some (coversB am au bm bu) := by
  unfold steleref15_Covers.f coversB
  by_cases h : bm = 0
  · rw [if_pos h]; simp [h]
  · rw [if_neg h]
    have h' : (bm == 0) = false := by simpa using h
    rw [h']
    by_cases g : bm ≤ am
    · rw [if_pos g]; simp [g]
    · rw [if_neg g]; simp [g]
def standsB (m u n : Int) (b : Bool) : Bool := activeB m u n && (m == 2 || !b)
theorem stands_eq (m u n : Int) (b : Bool) : lock_stands.f m u n b = some (standsB m u n b) := by
  unfold lock_stands.f standsB; rw [active_eq]; simp only [Option.bind_some]
  cases h : activeB m u n
  · simp
  · by_cases g : m = 2 <;> simp [g]
def maySetI (om ou tm tu n : Int) (b : Bool) : Int := if rightB tm tu n then (if standsB om ou n b then (if coversB tm tu om ou then 0 else 37) else 0) else 40
theorem mayset_eq (om ou tm tu n : Int) (b : Bool) : lock_MaySet.f om ou tm tu n b = some (maySetI om ou tm tu n b) := by
  unfold lock_MaySet.f maySetI; rw [right_eq, stands_eq, covers_eq]; simp only [Option.bind_some]
  cases rightB tm tu n <;> cases standsB om ou n b <;> cases coversB tm tu om ou <;> rfl
end Go.Proofs.Ytbdmpeekhlmebaa.Pure
