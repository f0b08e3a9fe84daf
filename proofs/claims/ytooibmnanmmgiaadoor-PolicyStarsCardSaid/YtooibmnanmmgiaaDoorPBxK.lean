-- written by the workplace's driver round the kit's printer (wip/tools/myprint.py)
import Derived.Test.YtooibmnanmmgiaaDoorPBx0
import Derived.Test.YtooibmnanmmgiaaDoorOpen
namespace Go.Proofs.YtooibmnanmmgiaaDoor.PB
open Go.RowKit Go.Proofs.YtooibmnanmmgiaaDoorW.PrintWords Go.Proofs.YtooibmnanmmgiaaDoorW.PrintLast Go.Proofs.YtooibmnanmmgiaaDoor.Opn
set_option linter.unusedVariables false

def ok34 (x : S34) : Prop := True ∧ x.f1.size ≤ 140737488351232 ∧ x.f2.size ≤ 140737488351232 ∧ x.f3.size ≤ 140737488351232
def sz34 (x : S34) : Nat := (1 + ((x.f1.size + 1) + ((x.f2.size + 1) + ((x.f3.size + 1))))) + 1
theorem opens34 : Opens Tryd.prog 34 k34 ok34 sz34 :=
  opens_imp (opens_iso (fun x : S34 => (x.f0, x.f1, x.f2, x.f3)) (fun a => ⟨a.1, a.2.1, a.2.2.1, a.2.2.2⟩) (fun _ => rfl) (opens_struct Tryd.underlying34 (by kernel_rfl) (opensF_cons rfl (by kernel_rfl) (opens_bool Tryd.underlying4) (opensF_cons rfl (by kernel_rfl) (opens_string Tryd.underlying9) (opensF_cons rfl (by kernel_rfl) (opens_string Tryd.underlying9) (opensF_one rfl (by kernel_rfl) (opens_string Tryd.underlying9))))))) (fun _ h => h) (fun _ => Nat.le_refl _)
end Go.Proofs.YtooibmnanmmgiaaDoor.PB
