/- slices.Backward over records: what its function yields. -/
import Derived.RangeFuncNested
import Derived.RangeFuncBound
import Derived.RangeFuncCalls
import Derived.RangeFuncLeaves
import Derived.Shelf.Abstract
import Derived.Shelf.RegionOpen
import Derived.WalkKit
import Derived.OwnWalkIn
import Derived.TacticsInMore
import Derived.LoopNIn
import Derived.LoopIn
import Derived.Test.YtlnpmodhejakiaaZAudC
import Derived.Test.YtlnpmodhejakiaaZWb
import Derived.Test.YtlnpmodhejakiaaZShab
import Derived.Test.YtlnpmodhejakiaaZAudBb
namespace Go.Proofs.Ytlnpmodhejakiaa.AV
open Go.RowKit Go.Shelf Go.Proofs.YtlnpmodhejakiaaW.PrintWords Go.Proofs.YtlnpmodhejakiaaW.PrintLast Go.Proofs.YtlnpmodhejakiaaW.PrintMore Go.Proofs.Ytlnpmodhejakiaa.Sha Go.Proofs.Ytlnpmodhejakiaa.D Go.Proofs.Ytlnpmodhejakiaa.PC Go.Proofs.Ytlnpmodhejakiaa.CP Go.Proofs.Ytlnpmodhejakiaa.PV
set_option linter.unusedVariables false
set_option linter.unusedSimpArgs false
attribute [local go_sem] Oper.semAt_some
abbrev E4 := Option Addr × Nat × Option Addr × Nat
structure RowE (W : World) (ad : Addr) (a : List S69) (e : E4) (k : Nat) : Prop where
  c0 : W.cell? (ad.add (k * 10)) = some (.int .u64 (rd_T69 a k).f0)
  c1 : W.cell? ⟨(ad.add (k * 10)).block, (ad.add (k * 10)).off + 1, none⟩ = some (.int .u64 (rd_T69 a k).f1)
  c2 : W.cell? ⟨(ad.add (k * 10)).block, (ad.add (k * 10)).off + 2, none⟩ = some (.string (rd_T69 a k).f2)
  c3 : W.cell? ⟨(ad.add (k * 10)).block, (ad.add (k * 10)).off + 3, none⟩ = some (.int .i64 (rd_T69 a k).f3)
  c4 : W.cell? ⟨(ad.add (k * 10)).block, (ad.add (k * 10)).off + 4, none⟩ = some (.string (rd_T69 a k).f4)
  c5 : W.cell? ⟨(ad.add (k * 10)).block, (ad.add (k * 10)).off + 5, none⟩ = some (.string (rd_T69 a k).f5)
  c6 : W.cell? ⟨(ad.add (k * 10)).block, (ad.add (k * 10)).off + 6, none⟩ = some (.int .u64 (rd_T69 a k).f6)
  c7 : W.cell? ⟨(ad.add (k * 10)).block, (ad.add (k * 10)).off + 7, none⟩ = some (.int .i64 (rd_T69 a k).f7)
  c8 : W.cell? ⟨(ad.add (k * 10)).block, (ad.add (k * 10)).off + 8, none⟩ = some (.slice e.1 (rd_T69 a k).f8.length e.2.1)
  c9 : W.cell? ⟨(ad.add (k * 10)).block, (ad.add (k * 10)).off + 9, none⟩ = some (.slice e.2.2.1 (rd_T69 a k).f9.length e.2.2.2)
  R : RecC W (rd_T69 a k) e.1 e.2.1 e.2.2.1 e.2.2.2
theorem row_env {w : World} {A : Option Addr} {a : List S69} (hC : Kd.C k69 w A a.length a) : ∃ (ad : Addr) (f : Nat → E4), (0 < a.length → A = some ad) ∧ ∀ k, k < a.length → RowE w ad a (f k) k := by
  by_cases hp : 0 < a.length
  · obtain ⟨ad, hA, _⟩ := hC.2.2 hp
    have h : ∀ k : Nat, ∃ e : E4, k < a.length → RowE w ad a e k := by
      intro k
      by_cases hk : k < a.length
      · obtain ⟨ad', A8, c8, A9, c9, hA', h0, h1, h2, h3, h4, h5, h6, h7, h8, h9, l8, C8, l9, C9⟩ := at_T69 hC (k : Int) (by omega) (by omega)
        rw [hA] at hA'
        cases hA'
        rw [Int.toNat_natCast] at h0 h1 h2 h3 h4 h5 h6 h7 h8 h9
        exact ⟨(A8, c8, A9, c9), fun _ => ⟨h0, h1, h2, h3, h4, h5, h6, h7, h8, h9, ⟨C8, l8, C9, l9⟩⟩⟩
      · exact ⟨(none, 0, none, 0), fun h => absurd h hk⟩
    obtain ⟨f, hf⟩ := Classical.axiomOfChoice h
    exact ⟨ad, f, fun _ => hA, hf⟩
  · exact ⟨⟨0, 0, none⟩, fun _ => (none, 0, none, 0), fun h => absurd h hp, fun k hk => by omega⟩
theorem RowE.below {W W' : World} {ad : Addr} {a : List S69} {e : E4} {k : Nat} (h : RowE W ad a e k) (hb : Below W.heap.size W W') : RowE W' ad a e k :=
  ⟨(hb.cell (World.block_lt_of_cell? W _ h.c0)).trans h.c0, (hb.cell (World.block_lt_of_cell? W _ h.c1)).trans h.c1, (hb.cell (World.block_lt_of_cell? W _ h.c2)).trans h.c2, (hb.cell (World.block_lt_of_cell? W _ h.c3)).trans h.c3, (hb.cell (World.block_lt_of_cell? W _ h.c4)).trans h.c4, (hb.cell (World.block_lt_of_cell? W _ h.c5)).trans h.c5, (hb.cell (World.block_lt_of_cell? W _ h.c6)).trans h.c6, (hb.cell (World.block_lt_of_cell? W _ h.c7)).trans h.c7, (hb.cell (World.block_lt_of_cell? W _ h.c8)).trans h.c8, (hb.cell (World.block_lt_of_cell? W _ h.c9)).trans h.c9, h.R.below hb⟩
def dnF (n : Nat) : Nat → List (Fin n)
  | 0 => []
  | k + 1 => dnF n k ++ (if h : k < n then [⟨n - 1 - k, by omega⟩] else [])
theorem dnF_len (n : Nat) : ∀ k, k ≤ n → (dnF n k).length = k
  | 0, _ => rfl
  | k + 1, h => by rw [dnF, List.length_append, dnF_len n k (by omega), dif_pos (by omega)]; rfl
theorem dnF_step (n m : Nat) (h : m + 1 ≤ n) : dnF n (n - (m + 1)) ++ [⟨m, by omega⟩] = dnF n (n - m) := by
  rw [show n - m = (n - (m + 1)) + 1 by omega, dnF, dif_pos (by omega)]
  congr 2
  apply Fin.ext
  show m = n - 1 - (n - (m + 1))
  omega
theorem dnF_mem (n : Nat) : ∀ k, k ≤ n → ∀ j : Fin n, j ∈ dnF n k ↔ n - k ≤ j.val
  | 0, _, j => by rw [dnF]; have := j.isLt; simp
  | k + 1, h, j => by
    have hj := j.isLt
    rw [dnF, List.mem_append, dnF_mem n k (by omega) j, dif_pos (by omega), List.mem_singleton, Fin.ext_iff]
    show n - k ≤ j.val ∨ j.val = n - 1 - k ↔ _
    omega
def encB (a : List S69) (f : Nat → E4) (k : Fin a.length) : Array Value := #[.int .i64 ((k : Nat) : Int), .agg #[.int .u64 (rd_T69 a (k : Nat)).f0, .int .u64 (rd_T69 a (k : Nat)).f1, .string (rd_T69 a (k : Nat)).f2, .int .i64 (rd_T69 a (k : Nat)).f3, .string (rd_T69 a (k : Nat)).f4, .string (rd_T69 a (k : Nat)).f5, .int .u64 (rd_T69 a (k : Nat)).f6, .int .i64 (rd_T69 a (k : Nat)).f7, .slice (f (k : Nat)).1 (rd_T69 a (k : Nat)).f8.length (f (k : Nat)).2.1, .slice (f (k : Nat)).2.2.1 (rd_T69 a (k : Nat)).f9.length (f (k : Nat)).2.2.2]]
theorem bk_meas (m : Nat) : ((m : Int) - 1 + 1).toNat < ((m : Int) + 1).toNat := by omega
theorem bk_ge (m : Nat) : decide (0 ≤ (m : Int)) = true := decide_eq_true (by omega)
set_option maxRecDepth 100000 in
set_option maxHeartbeats 8000000 in
theorem bk1_in (F : Fence) (n : Nat) (h8 : F.fn 188) (hro : F.round = none) (hn : 1 ≤ n) (l Bs n₀ : Nat) (A : Option Addr) (cap : Nat) (a : List S69) (hcap : a.length ≤ cap) (ad : Addr) (f : Nat → E4) (hA : 0 < a.length → A = some ad) (hlen : a.length ≤ 1000) (hB0 : Bs < n₀) (J Jx : List (Fin a.length) → World → Prop)
    (hY : ∀ pre x W, J pre W → pre.length < a.length → YieldAt F (n - 1) Try.prog l (encB a f x) W fun e W' =>
      (e = .returned (.bool true) ∧ J (pre ++ [x]) W' ∧ Below n₀ W W') ∨ (e = .returned (.bool false) ∧ Jx (pre ++ [x]) W'))
    (W : World) (hBs : W.cell? ⟨Bs, 0, none⟩ = some (.slice A a.length cap)) (hrow : ∀ W', Below n₀ W W' → ∀ k, k < a.length → RowE W' ad a (f k) k) (h0 : J [] W) :
    CallsIn F n Try.prog 188 #[.func (.yield l) #[] #[], .pointer (some ⟨Bs, 0, none⟩)] W fun e W' => (∃ v, e = .returned v) ∧
      ((∃ ys, ys = dnF a.length a.length ∧ J ys W') ∨ (∃ pre, (∃ k, k ≤ a.length ∧ pre = dnF a.length k) ∧ Jx pre W')) := by
  have hu69 := Try.underlying69
  have HROW := Aside0.mk hrow
  have HY := Aside0.mk hY
  have HA := Aside0.mk hA
  have HLE := Aside0.mk hlen
  clear hrow hY hA
  have hl63 : (a.length : Int) ≤ 1000 := by omega
  refine callsIn_of_wp Try.func188 rfl h8 ?_ hro
  simp only [Try.ntmps188, List.size_toArray, List.length_cons, List.length_nil, Nat.reduceAdd, Nat.reduceSub, Array.replicate_succ, Array.replicate_zero, List.push_toArray, List.append_toArray, List.nil_append, List.cons_append]
  gi_wp2
  gi_loopw [3] (fun v wr => ∃ (m : Nat) (z : Int), v = .int .i64 z ∧ z = (m : Int) - 1 ∧ m ≤ a.length ∧ Aside0 (J (dnF a.length (a.length - m)) wr) ∧ Aside0 (Below n₀ W wr))
    (fun v _ => (intOf v + 1).toNat)
  case atStart => exact ⟨a.length, (a.length : Int) - 1, rfl, rfl, Nat.le_refl _, ⟨by rw [Nat.sub_self]; exact h0⟩, ⟨Below.refl _ _⟩⟩
  case round =>
    obtain ⟨m, z, rfl, hz, hm, HJ, HB⟩ := hrel
    have hbx := (HB.out.cell (p := ⟨Bs, 0, none⟩) hB0).trans hBs
    cases m with
    | zero =>
      have dz : decide (0 ≤ z) = false := decide_eq_false (by omega)
      clear hz
      gi_wp2
      go_end0
      exact ⟨⟨_, rfl⟩, .inl ⟨_, rfl, HJ.out⟩⟩
    | succ m =>
      obtain rfl : z = (m : Int) := by omega
      clear hz
      obtain rfl : A = some ad := HA.out (by omega)
      have hR := HROW.out wr HB.out m (by omega)
      obtain ⟨fn, tmps, assign, body, hy, hRR⟩ := HY.out _ ⟨m, by omega⟩ wr HJ.out (by rw [dnF_len _ _ (by omega)]; omega)
      have HRR := Aside0.mk hRR
      clear hRR
      dsimp only [encB] at hy
      have d0 := bk_ge m
      have d1 : (m : Int) < (a.length : Int) := by omega
      have hm1 : m ≤ 140737488355328 := by omega
      obtain ⟨hc0, hc1, hc2, hc3, hc4, hc5, hc6, hc7, hc8, hc9, -⟩ := hR
      gi_wp2
      refine HRR.out.mono ?_
      rintro e W3 (⟨rfl, hJ3, hk3⟩ | ⟨rfl, hJx3⟩)
      · have HJ3 := Aside0.mk hJ3
        have HK3 := Aside0.mk (HB.out.trans hk3)
        gi_wp2
        go_roundw
        case rel => exact ⟨m, (m : Int) - 1, rfl, rfl, Nat.le_of_succ_le hm, ⟨by rw [← dnF_step a.length m hm]; exact HJ3.out⟩, HK3⟩
        case measure => exact bk_meas m
      · gi_wp2
        refine bodyPost_ret (results_none rfl _ _ _) rfl ?_
        exact ⟨⟨_, rfl⟩, .inr ⟨_, ⟨a.length - m, by omega, dnF_step a.length m (by omega)⟩, hJx3⟩⟩
theorem bk_stops (F : Fence) (n : Nat) (h8 : F.fn 188) (hro : F.round = none) (hn : 1 ≤ n) (Bs n₀ : Nat) (A : Option Addr) (cap : Nat) (a : List S69) (hcap : a.length ≤ cap) (ad : Addr) (f : Nat → E4) (hA : 0 < a.length → A = some ad) (hlen : a.length ≤ 1000) (hB0 : Bs < n₀) (w : World) (hn₀ : n₀ ≤ w.heap.size)
    (hBs : w.cell? ⟨Bs, 0, none⟩ = some (.slice A a.length cap)) (hrow : ∀ W', Below n₀ w W' → ∀ k, k < a.length → RowE W' ad a (f k) k) :
    SeqStopsK F n Try.prog 188 #[.pointer (some ⟨Bs, 0, none⟩)] (encB a f) (Below n₀) (fun ys => ys = dnF a.length a.length) (fun pre => ∃ k, k ≤ a.length ∧ pre = dnF a.length k) a.length w := fun l J Jx W hW _ _ hY h0 =>
  bk1_in F n h8 hro hn l Bs n₀ A cap a hcap ad f hA hlen hB0 J Jx hY W ((hW.mono hn₀).cell (p := ⟨Bs, 0, none⟩) hB0 |>.trans hBs) (fun W' hb => hrow W' ((hW.mono hn₀).trans hb)) h0
set_option maxHeartbeats 1000000 in
theorem bk_in (F : Fence) (n : Nat) (h6 : F.fn 147) (hro : F.round = none) (A : Option Addr) (len cap : Nat) (w : World) :
    CallsIn F n Try.prog 147 #[.slice A len cap] w fun e w' => e = .returned (.func (.func 188) #[] #[.pointer (some ⟨w.heap.size, 0, none⟩)]) ∧ w' = w.alloc (.cells #[.slice A len cap] 67) := by
  refine callsIn_of_wp Try.func147 rfl h6 ?_ hro
  simp only [Try.ntmps147, List.size_toArray, List.length_cons, List.length_nil, Nat.reduceAdd, Nat.reduceSub, Array.replicate_succ, Array.replicate_zero, List.push_toArray, List.append_toArray, List.nil_append, List.cons_append]
  gi_wp2
  go_ret
  exact ⟨rfl, rfl⟩
end Go.Proofs.Ytlnpmodhejakiaa.AV
