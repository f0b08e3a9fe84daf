/- Part of the proofs of this seat: PXxK. -/
import Derived.Test.YtlnpmodhejakiaaYPXx0
import Derived.Test.YtlnpmodhejakiaaYOpen
namespace Go.Proofs.Ytlnpmodhejakiaa.PX
open Go.RowKit Go.Proofs.YtlnpmodhejakiaaW.PrintWords Go.Proofs.YtlnpmodhejakiaaW.PrintLast Go.Proofs.Ytlnpmodhejakiaa.Opn
set_option linter.unusedVariables false
structure S110 where
  f0 : (List S89)
  f1 : (List S95)
  f2 : (List S101)
  f3 : Int
  f4 : Int
def k110 : Kd S110 := Kd.iso (Kd.pair (Kd.slice 89 k89) (Kd.pair (Kd.slice 95 k95) (Kd.pair (Kd.slice 101 k101) (Kd.pair (Kd.int .u64) (Kd.int .u64))))) (fun x : S110 => (x.f0, x.f1, x.f2, x.f3, x.f4))
theorem k110_open {w : World} {x : S110} {cs : List Value} (h : k110.K w x cs) : ∃ A0 c0 A1 c1 A2 c2, cs = [.slice A0 x.f0.length c0, .slice A1 x.f1.length c1, .slice A2 x.f2.length c2, .int .u64 x.f3, .int .u64 x.f4] ∧ x.f0.length ≤ c0 ∧ k89.C w A0 x.f0.length x.f0 ∧ x.f1.length ≤ c1 ∧ k95.C w A1 x.f1.length x.f1 ∧ x.f2.length ≤ c2 ∧ k101.C w A2 x.f2.length x.f2 := by
  obtain ⟨_, _, rfl, ⟨A0, c0, rfl, l0, g0⟩, ⟨_, _, rfl, ⟨A1, c1, rfl, l1, g1⟩, ⟨_, _, rfl, ⟨A2, c2, rfl, l2, g2⟩, ⟨_, _, rfl, rfl, rfl⟩⟩⟩⟩ := h
  exact ⟨A0, c0, A1, c1, A2, c2, rfl, l0, g0, l1, g1, l2, g2⟩
def ok89 (x : S89) : Prop := x.f0.size ≤ 140737488351232 ∧ (Lit.int .i64 x.f1).wf = true ∧ True ∧ True ∧ (Lit.int .i64 x.f4).wf = true ∧ (Lit.int .i64 x.f5).wf = true ∧ x.f6.size ≤ 140737488351232 ∧ (Lit.int .i64 x.f7).wf = true ∧ (Lit.int .i64 x.f8).wf = true
def sz89 (x : S89) : Nat := ((x.f0.size + 1) + (1 + (1 + (1 + (1 + (1 + ((x.f6.size + 1) + (1 + (1))))))))) + 1
theorem opens89 : Opens Try.prog 89 k89 ok89 sz89 :=
  opens_imp (opens_iso (fun x : S89 => (x.f0, x.f1, x.f2, x.f3, x.f4, x.f5, x.f6, x.f7, x.f8)) (fun a => ⟨a.1, a.2.1, a.2.2.1, a.2.2.2.1, a.2.2.2.2.1, a.2.2.2.2.2.1, a.2.2.2.2.2.2.1, a.2.2.2.2.2.2.2.1, a.2.2.2.2.2.2.2.2⟩) (fun _ => rfl) (opens_struct Try.underlying89 (by kernel_rfl) (opensF_cons rfl (by kernel_rfl) (opens_string Try.underlying9) (opensF_cons rfl (by kernel_rfl) (opens_int Try.underlying3) (opensF_cons rfl (by kernel_rfl) (opens_bool Try.underlying4) (opensF_cons rfl (by kernel_rfl) (opens_bool Try.underlying4) (opensF_cons rfl (by kernel_rfl) (opens_int Try.underlying3) (opensF_cons rfl (by kernel_rfl) (opens_int Try.underlying3) (opensF_cons rfl (by kernel_rfl) (opens_string Try.underlying9) (opensF_cons rfl (by kernel_rfl) (opens_int Try.underlying3) (opensF_one rfl (by kernel_rfl) (opens_int Try.underlying3)))))))))))) (fun _ h => h) (fun _ => Nat.le_refl _)
def ok93 (x : S93) : Prop := (Lit.int .i64 x.f0).wf = true ∧ (Lit.int .u64 x.f1).wf = true
def sz93 (x : S93) : Nat := (1 + (1)) + 1
theorem opens93 : Opens Try.prog 93 k93 ok93 sz93 :=
  opens_imp (opens_iso (fun x : S93 => (x.f0, x.f1)) (fun a => ⟨a.1, a.2⟩) (fun _ => rfl) (opens_struct Try.underlying93 (by kernel_rfl) (opensF_cons rfl (by kernel_rfl) (opens_int Try.underlying3) (opensF_one rfl (by kernel_rfl) (opens_int Try.underlying31))))) (fun _ h => h) (fun _ => Nat.le_refl _)
def ok95 (x : S95) : Prop := x.f0.size ≤ 140737488351232 ∧ x.f1.size ≤ 140737488351232 ∧ (Lit.int .u64 x.f2).wf = true ∧ (Lit.int .u64 x.f3).wf = true ∧ True ∧ (x.f5.length * 1 ≤ 140737488351232 ∧ ∀ y ∈ x.f5, (Lit.int .u8 y).wf = true) ∧ ok93 x.f6 ∧ True ∧ (Lit.int .u64 x.f8).wf = true
def sz95 (x : S95) : Nat := ((x.f0.size + 1) + ((x.f1.size + 1) + (1 + (1 + (1 + (((x.f5.map (fun y => 1)).sum + 1) + (sz93 x.f6 + (1 + (1))))))))) + 1
theorem opens95 : Opens Try.prog 95 k95 ok95 sz95 :=
  opens_imp (opens_iso (fun x : S95 => (x.f0, x.f1, x.f2, x.f3, x.f4, x.f5, x.f6, x.f7, x.f8)) (fun a => ⟨a.1, a.2.1, a.2.2.1, a.2.2.2.1, a.2.2.2.2.1, a.2.2.2.2.2.1, a.2.2.2.2.2.2.1, a.2.2.2.2.2.2.2.1, a.2.2.2.2.2.2.2.2⟩) (fun _ => rfl) (opens_struct Try.underlying95 (by kernel_rfl) (opensF_cons rfl (by kernel_rfl) (opens_string Try.underlying9) (opensF_cons rfl (by kernel_rfl) (opens_string Try.underlying9) (opensF_cons rfl (by kernel_rfl) (opens_int Try.underlying31) (opensF_cons rfl (by kernel_rfl) (opens_int Try.underlying31) (opensF_cons rfl (by kernel_rfl) (opens_bool Try.underlying4) (opensF_cons rfl (by kernel_rfl) (opens_slice (b := 1) Try.underlying22 (by kernel_rfl) (by kernel_rfl) (opens_int Try.underlying5)) (opensF_cons rfl (by kernel_rfl) Go.Proofs.Ytlnpmodhejakiaa.PX.opens93 (opensF_cons rfl (by kernel_rfl) (opens_bool Try.underlying4) (opensF_one rfl (by kernel_rfl) (opens_int Try.underlying31)))))))))))) (fun _ h => h) (fun _ => Nat.le_refl _)
def ok195 (x : S195) : Prop := (Lit.int .i64 x.f0).wf = true ∧ (x.f1.length * 1 ≤ 140737488351232 ∧ ∀ y ∈ x.f1, (Lit.int .u8 y).wf = true)
def sz195 (x : S195) : Nat := (1 + (((x.f1.map (fun y => 1)).sum + 1))) + 1
theorem opens195 : Opens Try.prog 195 k195 ok195 sz195 :=
  opens_imp (opens_iso (fun x : S195 => (x.f0, x.f1)) (fun a => ⟨a.1, a.2⟩) (fun _ => rfl) (opens_struct Try.underlying195 (by kernel_rfl) (opensF_cons rfl (by kernel_rfl) (opens_int Try.underlying3) (opensF_one rfl (by kernel_rfl) (opens_slice (b := 1) Try.underlying22 (by kernel_rfl) (by kernel_rfl) (opens_int Try.underlying5)))))) (fun _ h => h) (fun _ => Nat.le_refl _)
def ok101 (x : S101) : Prop := x.f0.size ≤ 140737488351232 ∧ x.f1.size ≤ 140737488351232 ∧ (Lit.int .u64 x.f2).wf = true ∧ (Lit.int .u64 x.f3).wf = true ∧ (x.f4.length * 32 ≤ 140737488351232 ∧ ∀ y ∈ x.f4, ok195 y)
def sz101 (x : S101) : Nat := ((x.f0.size + 1) + ((x.f1.size + 1) + (1 + (1 + (((x.f4.map (fun y => sz195 y)).sum + 1)))))) + 1
theorem opens101 : Opens Try.prog 101 k101 ok101 sz101 :=
  opens_imp (opens_iso (fun x : S101 => (x.f0, x.f1, x.f2, x.f3, x.f4)) (fun a => ⟨a.1, a.2.1, a.2.2.1, a.2.2.2.1, a.2.2.2.2⟩) (fun _ => rfl) (opens_struct Try.underlying101 (by kernel_rfl) (opensF_cons rfl (by kernel_rfl) (opens_string Try.underlying9) (opensF_cons rfl (by kernel_rfl) (opens_string Try.underlying9) (opensF_cons rfl (by kernel_rfl) (opens_int Try.underlying31) (opensF_cons rfl (by kernel_rfl) (opens_int Try.underlying31) (opensF_one rfl (by kernel_rfl) (opens_slice (b := 32) Try.underlying99 (by kernel_rfl) (by kernel_rfl) Go.Proofs.Ytlnpmodhejakiaa.PX.opens195)))))))) (fun _ h => h) (fun _ => Nat.le_refl _)
def ok110 (x : S110) : Prop := (x.f0.length * 80 ≤ 140737488351232 ∧ ∀ y ∈ x.f0, ok89 y) ∧ (x.f1.length * 112 ≤ 140737488351232 ∧ ∀ y ∈ x.f1, ok95 y) ∧ (x.f2.length * 72 ≤ 140737488351232 ∧ ∀ y ∈ x.f2, ok101 y) ∧ (Lit.int .u64 x.f3).wf = true ∧ (Lit.int .u64 x.f4).wf = true
def sz110 (x : S110) : Nat := (((x.f0.map (fun y => sz89 y)).sum + 1) + (((x.f1.map (fun y => sz95 y)).sum + 1) + (((x.f2.map (fun y => sz101 y)).sum + 1) + (1 + (1))))) + 1
theorem opens110 : Opens Try.prog 110 k110 ok110 sz110 :=
  opens_imp (opens_iso (fun x : S110 => (x.f0, x.f1, x.f2, x.f3, x.f4)) (fun a => ⟨a.1, a.2.1, a.2.2.1, a.2.2.2.1, a.2.2.2.2⟩) (fun _ => rfl) (opens_struct Try.underlying110 (by kernel_rfl) (opensF_cons rfl (by kernel_rfl) (opens_slice (b := 80) Try.underlying106 (by kernel_rfl) (by kernel_rfl) Go.Proofs.Ytlnpmodhejakiaa.PX.opens89) (opensF_cons rfl (by kernel_rfl) (opens_slice (b := 112) Try.underlying107 (by kernel_rfl) (by kernel_rfl) Go.Proofs.Ytlnpmodhejakiaa.PX.opens95) (opensF_cons rfl (by kernel_rfl) (opens_slice (b := 72) Try.underlying108 (by kernel_rfl) (by kernel_rfl) Go.Proofs.Ytlnpmodhejakiaa.PX.opens101) (opensF_cons rfl (by kernel_rfl) (opens_int Try.underlying31) (opensF_one rfl (by kernel_rfl) (opens_int Try.underlying31)))))))) (fun _ h => h) (fun _ => Nat.le_refl _)
end Go.Proofs.Ytlnpmodhejakiaa.PX
