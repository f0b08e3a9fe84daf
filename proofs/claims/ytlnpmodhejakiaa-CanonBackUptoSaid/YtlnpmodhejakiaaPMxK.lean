-- written by the workplace's driver round the kit's printer (wip/tools/myprint.py)
import Derived.Test.YtlnpmodhejakiaaPMx0
import Derived.Test.YtlnpmodhejakiaaOpen
namespace Go.Proofs.Ytlnpmodhejakiaa.PM
open Go.RowKit Go.Proofs.YtlnpmodhejakiaaW.PrintWords Go.Proofs.YtlnpmodhejakiaaW.PrintLast Go.Proofs.Ytlnpmodhejakiaa.Opn
set_option linter.unusedVariables false

def ok46 (x : S46) : Prop := (Lit.int .i64 x.f0).wf = true ∧ (Lit.int .u64 x.f1).wf = true ∧ (x.f2.length * 1 ≤ 140737488351232 ∧ ∀ y ∈ x.f2, (Lit.int .u8 y).wf = true)
def sz46 (x : S46) : Nat := (1 + (1 + (((x.f2.map (fun y => 1)).sum + 1)))) + 1
theorem opens46 : Opens Try.prog 46 k46 ok46 sz46 :=
  opens_imp (opens_iso (fun x : S46 => (x.f0, x.f1, x.f2)) (fun a => ⟨a.1, a.2.1, a.2.2⟩) (fun _ => rfl) (opens_struct Try.underlying46 (by kernel_rfl) (opensF_cons rfl (by kernel_rfl) (opens_int Try.underlying3) (opensF_cons rfl (by kernel_rfl) (opens_int Try.underlying31) (opensF_one rfl (by kernel_rfl) (opens_slice (b := 1) Try.underlying22 (by kernel_rfl) (by kernel_rfl) (opens_int Try.underlying5))))))) (fun _ h => h) (fun _ => Nat.le_refl _)
end Go.Proofs.Ytlnpmodhejakiaa.PM
