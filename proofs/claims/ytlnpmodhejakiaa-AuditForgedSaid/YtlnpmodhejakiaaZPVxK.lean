/- Part of the proofs of this seat: PVxK. -/
import Derived.Test.YtlnpmodhejakiaaZPVx0
import Derived.Test.YtlnpmodhejakiaaZOpen
namespace Go.Proofs.Ytlnpmodhejakiaa.PV
open Go.RowKit Go.Proofs.YtlnpmodhejakiaaW.PrintWords Go.Proofs.YtlnpmodhejakiaaW.PrintLast Go.Proofs.Ytlnpmodhejakiaa.Opn
set_option linter.unusedVariables false
def ok69 (x : S69) : Prop := (Lit.int .u64 x.f0).wf = true ∧ (Lit.int .u64 x.f1).wf = true ∧ x.f2.size ≤ 140737488351232 ∧ (Lit.int .i64 x.f3).wf = true ∧ x.f4.size ≤ 140737488351232 ∧ x.f5.size ≤ 140737488351232 ∧ (Lit.int .u64 x.f6).wf = true ∧ (Lit.int .i64 x.f7).wf = true ∧ (x.f8.length * 1 ≤ 140737488351232 ∧ ∀ y ∈ x.f8, (Lit.int .u8 y).wf = true) ∧ (x.f9.length * 1 ≤ 140737488351232 ∧ ∀ y ∈ x.f9, (Lit.int .u8 y).wf = true)
def sz69 (x : S69) : Nat := (1 + (1 + ((x.f2.size + 1) + (1 + ((x.f4.size + 1) + ((x.f5.size + 1) + (1 + (1 + (((x.f8.map (fun y => 1)).sum + 1) + (((x.f9.map (fun y => 1)).sum + 1))))))))))) + 1
theorem opens69 : Opens Try.prog 69 k69 ok69 sz69 :=
  opens_imp (opens_iso (fun x : S69 => (x.f0, x.f1, x.f2, x.f3, x.f4, x.f5, x.f6, x.f7, x.f8, x.f9)) (fun a => ⟨a.1, a.2.1, a.2.2.1, a.2.2.2.1, a.2.2.2.2.1, a.2.2.2.2.2.1, a.2.2.2.2.2.2.1, a.2.2.2.2.2.2.2.1, a.2.2.2.2.2.2.2.2.1, a.2.2.2.2.2.2.2.2.2⟩) (fun _ => rfl) (opens_struct Try.underlying69 (by kernel_rfl) (opensF_cons rfl (by kernel_rfl) (opens_int Try.underlying31) (opensF_cons rfl (by kernel_rfl) (opens_int Try.underlying31) (opensF_cons rfl (by kernel_rfl) (opens_string Try.underlying9) (opensF_cons rfl (by kernel_rfl) (opens_int Try.underlying3) (opensF_cons rfl (by kernel_rfl) (opens_string Try.underlying9) (opensF_cons rfl (by kernel_rfl) (opens_string Try.underlying9) (opensF_cons rfl (by kernel_rfl) (opens_int Try.underlying31) (opensF_cons rfl (by kernel_rfl) (opens_int Try.underlying58) (opensF_cons rfl (by kernel_rfl) (opens_slice (b := 1) Try.underlying22 (by kernel_rfl) (by kernel_rfl) (opens_int Try.underlying5)) (opensF_one rfl (by kernel_rfl) (opens_slice (b := 1) Try.underlying22 (by kernel_rfl) (by kernel_rfl) (opens_int Try.underlying5)))))))))))))) (fun _ h => h) (fun _ => Nat.le_refl _)
end Go.Proofs.Ytlnpmodhejakiaa.PV
