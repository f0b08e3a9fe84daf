/- math/bits.RotateLeft32 and digest.word. -/
import Derived.BigQuiet
import Derived.IntWalk
import Derived.Test.YtlnpmodhejakiaaZPAx0
import Derived.Test.YtlnpmodhejakiaaZSha
namespace Go.Proofs.Ytlnpmodhejakiaa.D
open Go.RowKit Go.Proofs.YtlnpmodhejakiaaW.PrintWords Go.Proofs.YtlnpmodhejakiaaW.PrintLast Go.Proofs.YtlnpmodhejakiaaW.PrintMore Go.Proofs.Ytlnpmodhejakiaa.Sha
set_option linter.unusedVariables false
set_option linter.unusedSimpArgs false
theorem rot_any (x : Int) (k : Int) (s : Nat) (hs : bits .and .u64 (IntKind.u64.wrap k) 31 = (s : Int)) (h1 : 1 ≤ s) (h2 : s ≤ 31) (W0 : W) (hx : n32 W0 = x) (w : World) :
    Calls Try.prog 197 #[.int .u32 x, .int .i64 k] w fun e w' => e = .returned (.int .u32 (n32 (rl W0 s))) ∧ w = w' := by
  go_enter Try.func197, Try.ntmps197
  go_wp2
  go_ret
  refine ⟨?_, rfl⟩
  have e1 : x * 2 ^ s % 4294967296 = n32 (W0 <<< s) := by
    rw [← n32_shl, hx, IntKind.wrap_u32]; simp
  have e2 : x / 2 ^ (32 - s) = n32 (W0 >>> (32 - s)) := by
    rw [← n32_shr, hx]; simp
  rw [e1, e2, n32_or]
  rfl
theorem rot_m7 (X : W) (w : World) : Calls Try.prog 197 #[.int .u32 (n32 X), .int .i64 (-7)] w fun e w' => e = .returned (.int .u32 (n32 (rl X 25))) ∧ w' = w := (rot_any _ (-7) 25 (by decide) (by omega) (by omega) X rfl w).mono fun _ _ h => ⟨h.1, h.2.symm⟩
theorem rot_m18 (X : W) (w : World) : Calls Try.prog 197 #[.int .u32 (n32 X), .int .i64 (-18)] w fun e w' => e = .returned (.int .u32 (n32 (rl X 14))) ∧ w' = w := (rot_any _ (-18) 14 (by decide) (by omega) (by omega) X rfl w).mono fun _ _ h => ⟨h.1, h.2.symm⟩
theorem rot_m17 (X : W) (w : World) : Calls Try.prog 197 #[.int .u32 (n32 X), .int .i64 (-17)] w fun e w' => e = .returned (.int .u32 (n32 (rl X 15))) ∧ w' = w := (rot_any _ (-17) 15 (by decide) (by omega) (by omega) X rfl w).mono fun _ _ h => ⟨h.1, h.2.symm⟩
theorem rot_m19 (X : W) (w : World) : Calls Try.prog 197 #[.int .u32 (n32 X), .int .i64 (-19)] w fun e w' => e = .returned (.int .u32 (n32 (rl X 13))) ∧ w' = w := (rot_any _ (-19) 13 (by decide) (by omega) (by omega) X rfl w).mono fun _ _ h => ⟨h.1, h.2.symm⟩
theorem rot_m6 (X : W) (w : World) : Calls Try.prog 197 #[.int .u32 (n32 X), .int .i64 (-6)] w fun e w' => e = .returned (.int .u32 (n32 (rl X 26))) ∧ w' = w := (rot_any _ (-6) 26 (by decide) (by omega) (by omega) X rfl w).mono fun _ _ h => ⟨h.1, h.2.symm⟩
theorem rot_m11 (X : W) (w : World) : Calls Try.prog 197 #[.int .u32 (n32 X), .int .i64 (-11)] w fun e w' => e = .returned (.int .u32 (n32 (rl X 21))) ∧ w' = w := (rot_any _ (-11) 21 (by decide) (by omega) (by omega) X rfl w).mono fun _ _ h => ⟨h.1, h.2.symm⟩
theorem rot_m25 (X : W) (w : World) : Calls Try.prog 197 #[.int .u32 (n32 X), .int .i64 (-25)] w fun e w' => e = .returned (.int .u32 (n32 (rl X 7))) ∧ w' = w := (rot_any _ (-25) 7 (by decide) (by omega) (by omega) X rfl w).mono fun _ _ h => ⟨h.1, h.2.symm⟩
theorem rot_m2 (X : W) (w : World) : Calls Try.prog 197 #[.int .u32 (n32 X), .int .i64 (-2)] w fun e w' => e = .returned (.int .u32 (n32 (rl X 30))) ∧ w' = w := (rot_any _ (-2) 30 (by decide) (by omega) (by omega) X rfl w).mono fun _ _ h => ⟨h.1, h.2.symm⟩
theorem rot_m13 (X : W) (w : World) : Calls Try.prog 197 #[.int .u32 (n32 X), .int .i64 (-13)] w fun e w' => e = .returned (.int .u32 (n32 (rl X 19))) ∧ w' = w := (rot_any _ (-13) 19 (by decide) (by omega) (by omega) X rfl w).mono fun _ _ h => ⟨h.1, h.2.symm⟩
theorem rot_m22 (X : W) (w : World) : Calls Try.prog 197 #[.int .u32 (n32 X), .int .i64 (-22)] w fun e w' => e = .returned (.int .u32 (n32 (rl X 10))) ∧ w' = w := (rot_any _ (-22) 10 (by decide) (by omega) (by omega) X rfl w).mono fun _ _ h => ⟨h.1, h.2.symm⟩
def aU8 (b : List Int) : Array Value := (b.map (Value.int .u8)).toArray
theorem aU8_size (b : List Int) : (aU8 b).size = b.length := by simp [aU8]
theorem aU8_get (b : List Int) (i : Nat) (h : i < b.length) : (aU8 b)[i]? = some (.int .u8 (b.getD i 0)) := by
  simp [aU8, List.getD_eq_getElem?_getD, List.getElem?_eq_getElem h]
set_option maxHeartbeats 2000000 in
set_option maxRecDepth 100000 in
theorem word_any (b : List Int) (i : Nat) (hb : b.length = 64) (hi : i < 16) (hbd : ∀ x ∈ b, 0 ≤ x ∧ x ≤ 255) (w : World) :
    Calls Try.prog 196 #[.agg (aU8 b), .int .i64 (i : Int)] w fun e w' => e = .returned (.int .u32 (n32 (wd b i))) ∧ Below w.heap.size w w' := by
  have HB := Aside0.mk hb
  have HD := Aside0.mk hbd
  clear hb hbd
  have hsz : (aU8 b).size = 64 := by rw [aU8_size, HB.out]
  go_enter Try.func196, Try.ntmps196
  go_wp2_with ((with_reducible refine gate_dst (N := 2) rfl ?_); refine box_event ?hg (N := 2) ?hd (cs := aU8 b) (t := 135) ?hr ?_; (case hd => rfl); (case hg => rfl); (case hr => first | (go_simp; done) | (go_simp; rfl)); intro g hg w1 hbox hBl; clear hg)
  have BK := Aside0.mk hbox
  have get : ∀ j, j < 64 → w1.cell? ⟨g, j, none⟩ = some (.int .u8 (b.getD j 0)) := fun j hj => (blk_cell BK.out j).trans (aU8_get b j (by rw [HB.out]; exact hj))
  clear hbox hsz
  have mem : ∀ j, j < 64 → 0 ≤ b.getD j 0 ∧ b.getD j 0 ≤ 255 := fun j hj => HD.out _ (by rw [List.getD_eq_getElem?_getD, List.getElem?_eq_getElem (by rw [HB.out]; exact hj)]; exact List.getElem_mem _)
  have c0 := get (4 * i) (by omega)
  have c1 := get (4 * i + 1) (by omega)
  have c2 := get (4 * i + 2) (by omega)
  have c3 := get (4 * i + 3) (by omega)
  have m0 := mem (4 * i) (by omega)
  have m1 := mem (4 * i + 1) (by omega)
  have m2 := mem (4 * i + 2) (by omega)
  have m3 := mem (4 * i + 3) (by omega)
  clear get mem
  have E : n32 (wd b i) = b.getD (4 * i) 0 * 16777216 + b.getD (4 * i + 1) 0 * 65536 + b.getD (4 * i + 2) 0 * 256 + b.getD (4 * i + 3) 0 := by
    unfold wd; rw [n32_of _ (by omega) (by omega)]
  have O := or_bytes _ _ _ _ m0 m1 m2 m3
  obtain ⟨x0, hx0⟩ : ∃ x, b.getD (4 * i) 0 = x := ⟨_, rfl⟩
  obtain ⟨x1, hx1⟩ : ∃ x, b.getD (4 * i + 1) 0 = x := ⟨_, rfl⟩
  obtain ⟨x2, hx2⟩ : ∃ x, b.getD (4 * i + 2) 0 = x := ⟨_, rfl⟩
  obtain ⟨x3, hx3⟩ : ∃ x, b.getD (4 * i + 3) 0 = x := ⟨_, rfl⟩
  rw [hx0] at c0 m0 E O
  rw [hx1] at c1 m1 E O
  rw [hx2] at c2 m2 E O
  rw [hx3] at c3 m3 E O
  have EE := Aside0.mk E
  have OO := Aside0.mk O
  clear hx0 hx1 hx2 hx3 E O
  obtain ⟨m0, m0'⟩ := m0
  obtain ⟨m1, m1'⟩ := m1
  obtain ⟨m2, m2'⟩ := m2
  obtain ⟨m3, m3'⟩ := m3
  have i0 : (0 : Int) ≤ 4 * (i : Int) := by omega
  have i1 : (0 : Int) ≤ 4 * (i : Int) + 1 := by omega
  have i2 : (0 : Int) ≤ 4 * (i : Int) + 2 := by omega
  have i3 : (0 : Int) ≤ 4 * (i : Int) + 3 := by omega
  have l0 : 4 * (i : Int) < 64 := by omega
  have l1 : 4 * (i : Int) + 1 < 64 := by omega
  have l2 : 4 * (i : Int) + 2 < 64 := by omega
  have l3 : 4 * (i : Int) + 3 < 64 := by omega
  have n0 : (4 * (i : Int)).toNat = 4 * i := by omega
  have n1 : (4 * (i : Int) + 1).toNat = 4 * i + 1 := by omega
  have n2 : (4 * (i : Int) + 2).toNat = 4 * i + 2 := by omega
  have n3 : (4 * (i : Int) + 3).toNat = 4 * i + 3 := by omega
  have e0 : IntKind.i64.wrap (4 * (i : Int)) = 4 * (i : Int) := IntWalk.i64_in _ (by omega)
  have e1 : IntKind.i64.wrap (4 * (i : Int) + 1) = 4 * (i : Int) + 1 := IntWalk.i64_in _ (by omega)
  have e2 : IntKind.i64.wrap (4 * (i : Int) + 2) = 4 * (i : Int) + 2 := IntWalk.i64_in _ (by omega)
  have e3 : IntKind.i64.wrap (4 * (i : Int) + 3) = 4 * (i : Int) + 3 := IntWalk.i64_in _ (by omega)
  go_wp2
  go_quiet (fail)
  clear i0 i1 i2 i3 l0 l1 l2 l3 n0 n1 n2 n3 e0 e1 e2 e3
  go_wp2
  go_ret
  refine ⟨?_, pw_below_drewN hBl _⟩
  show Ending.returned (Value.int .u32 _) = _
  rw [EE.out, ← OO.out]
end Go.Proofs.Ytlnpmodhejakiaa.D
