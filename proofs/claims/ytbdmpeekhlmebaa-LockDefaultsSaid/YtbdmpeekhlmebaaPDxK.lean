-- written by the workplace's driver round the kit's printer (wip/tools/myprint.py)
import Derived.Test.YtbdmpeekhlmebaaPDx0
import Derived.Test.YtbdmpeekhlmebaaOpen
namespace Go.Proofs.Ytbdmpeekhlmebaa.PD
open Go.RowKit Go.Proofs.YtbdmpeekhlmebaaW.PrintWords Go.Proofs.YtbdmpeekhlmebaaW.PrintLast Go.Proofs.Ytbdmpeekhlmebaa.Opn
set_option linter.unusedVariables false

def ok43 (x : S43) : Prop := x.f0.size ≤ 140737488351232 ∧ (Lit.int .i64 x.f1).wf = true ∧ True ∧ True ∧ (Lit.int .i64 x.f4).wf = true ∧ (Lit.int .i64 x.f5).wf = true ∧ x.f6.size ≤ 140737488351232 ∧ (Lit.int .i64 x.f7).wf = true ∧ (Lit.int .i64 x.f8).wf = true
def sz43 (x : S43) : Nat := ((x.f0.size + 1) + (1 + (1 + (1 + (1 + (1 + ((x.f6.size + 1) + (1 + (1))))))))) + 1
theorem opens43 : Opens Try.prog 43 k43 ok43 sz43 :=
  opens_imp (opens_iso (fun x : S43 => (x.f0, x.f1, x.f2, x.f3, x.f4, x.f5, x.f6, x.f7, x.f8)) (fun a => ⟨a.1, a.2.1, a.2.2.1, a.2.2.2.1, a.2.2.2.2.1, a.2.2.2.2.2.1, a.2.2.2.2.2.2.1, a.2.2.2.2.2.2.2.1, a.2.2.2.2.2.2.2.2⟩) (fun _ => rfl) (opens_struct Try.underlying43 (by kernel_rfl) (opensF_cons rfl (by kernel_rfl) (opens_string Try.underlying9) (opensF_cons rfl (by kernel_rfl) (opens_int Try.underlying3) (opensF_cons rfl (by kernel_rfl) (opens_bool Try.underlying4) (opensF_cons rfl (by kernel_rfl) (opens_bool Try.underlying4) (opensF_cons rfl (by kernel_rfl) (opens_int Try.underlying3) (opensF_cons rfl (by kernel_rfl) (opens_int Try.underlying3) (opensF_cons rfl (by kernel_rfl) (opens_string Try.underlying9) (opensF_cons rfl (by kernel_rfl) (opens_int Try.underlying3) (opensF_one rfl (by kernel_rfl) (opens_int Try.underlying3)))))))))))) (fun _ h => h) (fun _ => Nat.le_refl _)
end Go.Proofs.Ytbdmpeekhlmebaa.PD
