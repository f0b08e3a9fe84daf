/- What the laws of the digest share. -/
import Derived.Test.YtlnpmodhejakiaaPGx1
import Derived.Test.YtlnpmodhejakiaaPGx3
import Derived.Test.YtlnpmodhejakiaaDigB
namespace Go.Proofs.Ytlnpmodhejakiaa.D
open Go.RowKit Go.Proofs.YtlnpmodhejakiaaW.PrintWords Go.Proofs.YtlnpmodhejakiaaW.PrintLast Go.Proofs.YtlnpmodhejakiaaW.PrintMore Go.Proofs.Ytlnpmodhejakiaa.PG
set_option linter.unusedVariables false
theorem same_self0 (l : List Int) (hl : l.length ≤ 140737488355328) : ∀ (d i k : Nat), l.length - i = d → i ≤ l.length → d < k → steleref01_Same.l0 k l l i = some true := by
  intro d
  induction d with
  | zero =>
    intro i k hd hi hk
    obtain ⟨k, rfl⟩ : ∃ k', k = k' + 1 := ⟨k - 1, by omega⟩
    rw [steleref01_Same.l0, if_neg (by omega)]
  | succ d ih =>
    intro i k hd hi hk
    obtain ⟨k, rfl⟩ : ∃ k', k = k' + 1 := ⟨k - 1, by omega⟩
    rw [steleref01_Same.l0, if_pos (by omega), if_pos (by omega), if_pos (by omega), if_pos rfl]
    rw [show wrap64 ((i : Int) + 1) = ((i + 1 : Nat) : Int) by unfold wrap64; omega]
    exact ih (i + 1) k (by omega) (by omega) (by omega)
theorem same_self (l : List Int) (hl : l.length ≤ 140737488355328) : steleref01_Same.f (l.length + 1) l l = some true := by
  unfold steleref01_Same.f
  rw [if_pos rfl]
  exact same_self0 l hl l.length 0 _ (by omega) (by omega) (by omega)
theorem light_one (l : List Int) (hl : l.length ≤ 140737488355328) : stelelaw01_light.f 3 [l] = some (decide (l.length ≤ 200000)) := by
  unfold stelelaw01_light.f
  rw [stelelaw01_light.l0, if_pos (by simp), if_pos (by omega)]
  rw [show (rd_L1 [l] 0) = l from rfl, show wrap64 (0 + (l.length : Int)) = (l.length : Int) by unfold wrap64; omega, show wrap64 (0 + 1) = 1 by unfold wrap64; omega]
  rw [stelelaw01_light.l0, if_neg (by simp)]
  congr 1
  apply decide_eq_decide.2
  omega
theorem light_two (a b : List Int) (ha : a.length ≤ 140737488355328) (hb : b.length ≤ 140737488355328) : stelelaw01_light.f 4 [a, b] = some (decide (a.length + b.length ≤ 200000)) := by
  unfold stelelaw01_light.f
  rw [stelelaw01_light.l0, if_pos (by simp), if_pos (by omega)]
  rw [show (rd_L1 [a, b] 0) = a from rfl, show wrap64 (0 + (a.length : Int)) = (a.length : Int) by unfold wrap64; omega, show wrap64 (0 + 1) = 1 by unfold wrap64; omega]
  rw [stelelaw01_light.l0, if_pos (by simp), if_pos (by omega)]
  rw [show (rd_L1 [a, b] 1) = b from rfl, show wrap64 ((a.length : Int) + (b.length : Int)) = (a.length : Int) + (b.length : Int) by unfold wrap64; omega, show wrap64 (1 + 1) = 2 by unfold wrap64; omega]
  rw [stelelaw01_light.l0, if_neg (by simp)]
  congr 1
  apply decide_eq_decide.2
  omega
/-- a literal row of rows of bytes -/
theorem C_rows1 (w : World) (g : Nat) (A0 : Option Addr) (c0 : Nat) (l0 : List Int) (T : TypeId) (hg : w.heap[g]? = some (.cells #[.slice A0 l0.length c0] T (0, 0))) (h0 : Kd.C (Kd.int .u8) w A0 l0.length l0) (hc0 : l0.length ≤ c0) : Kd.C (Kd.slice 5 (Kd.int .u8)) w (some ⟨g, 0, none⟩) 1 [l0] := by
  refine ⟨rfl, by decide, fun _ => ⟨_, rfl, fun j p hj => ⟨[.slice A0 l0.length c0], rfl, ?_, fun i u hu => ?_⟩⟩⟩
  · have hj0 : j = 0 := by have := (List.getElem?_eq_some_iff.1 hj).1; simp at this; omega
    subst hj0
    obtain rfl : l0 = p := by simpa using hj
    exact ⟨A0, c0, rfl, hc0, h0⟩
  · have hj0 : j = 0 := by have := (List.getElem?_eq_some_iff.1 hj).1; simp at this; omega
    subst hj0
    have hi : i = 0 := by have := (List.getElem?_eq_some_iff.1 hu).1; simp at this; omega
    subst hi
    have hu' : u = .slice A0 l0.length c0 := by simpa using hu.symm
    subst hu'
    rw [addr_add, blk_cell hg]
    rfl
end Go.Proofs.Ytlnpmodhejakiaa.D
