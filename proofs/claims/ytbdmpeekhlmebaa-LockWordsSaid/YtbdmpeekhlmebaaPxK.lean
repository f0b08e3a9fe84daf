-- written by the workplace's driver round the kit's printer (wip/tools/myprint.py)
import Derived.Test.YtbdmpeekhlmebaaPx0
import Derived.Test.YtbdmpeekhlmebaaOpen
namespace Go.Proofs.Ytbdmpeekhlmebaa.P
open Go.RowKit Go.Proofs.YtbdmpeekhlmebaaW.PrintWords Go.Proofs.YtbdmpeekhlmebaaW.PrintLast Go.Proofs.Ytbdmpeekhlmebaa.Opn
set_option linter.unusedVariables false

def ok24 (x : S24) : Prop := (Lit.int .i64 x.f0).wf = true ∧ (Lit.int .u64 x.f1).wf = true
def sz24 (x : S24) : Nat := (1 + (1)) + 1
theorem opens24 : Opens Try.prog 24 k24 ok24 sz24 :=
  opens_imp (opens_iso (fun x : S24 => (x.f0, x.f1)) (fun a => ⟨a.1, a.2⟩) (fun _ => rfl) (opens_struct Try.underlying24 (by kernel_rfl) (opensF_cons rfl (by kernel_rfl) (opens_int Try.underlying3) (opensF_one rfl (by kernel_rfl) (opens_int Try.underlying22))))) (fun _ h => h) (fun _ => Nat.le_refl _)

def ok35 (x : S35) : Prop := x.f0.size ≤ 140737488351232 ∧ x.f1.size ≤ 140737488351232 ∧ (Lit.int .u64 x.f2).wf = true ∧ (Lit.int .u64 x.f3).wf = true ∧ True ∧ (x.f5.length * 1 ≤ 140737488351232 ∧ ∀ y ∈ x.f5, (Lit.int .u8 y).wf = true) ∧ ok24 x.f6 ∧ True ∧ (Lit.int .u64 x.f8).wf = true
def sz35 (x : S35) : Nat := ((x.f0.size + 1) + ((x.f1.size + 1) + (1 + (1 + (1 + (((x.f5.map (fun y => 1)).sum + 1) + (sz24 x.f6 + (1 + (1))))))))) + 1
theorem opens35 : Opens Try.prog 35 k35 ok35 sz35 :=
  opens_imp (opens_iso (fun x : S35 => (x.f0, x.f1, x.f2, x.f3, x.f4, x.f5, x.f6, x.f7, x.f8)) (fun a => ⟨a.1, a.2.1, a.2.2.1, a.2.2.2.1, a.2.2.2.2.1, a.2.2.2.2.2.1, a.2.2.2.2.2.2.1, a.2.2.2.2.2.2.2.1, a.2.2.2.2.2.2.2.2⟩) (fun _ => rfl) (opens_struct Try.underlying35 (by kernel_rfl) (opensF_cons rfl (by kernel_rfl) (opens_string Try.underlying9) (opensF_cons rfl (by kernel_rfl) (opens_string Try.underlying9) (opensF_cons rfl (by kernel_rfl) (opens_int Try.underlying22) (opensF_cons rfl (by kernel_rfl) (opens_int Try.underlying22) (opensF_cons rfl (by kernel_rfl) (opens_bool Try.underlying4) (opensF_cons rfl (by kernel_rfl) (opens_slice (b := 1) Try.underlying33 (by kernel_rfl) (by kernel_rfl) (opens_int Try.underlying5)) (opensF_cons rfl (by kernel_rfl) Go.Proofs.Ytbdmpeekhlmebaa.P.opens24 (opensF_cons rfl (by kernel_rfl) (opens_bool Try.underlying4) (opensF_one rfl (by kernel_rfl) (opens_int Try.underlying22)))))))))))) (fun _ h => h) (fun _ => Nat.le_refl _)

def ok40 (x : S40) : Prop := ok24 x.f0 ∧ (Lit.int .u64 x.f1).wf = true ∧ True
def sz40 (x : S40) : Nat := (sz24 x.f0 + (1 + (1))) + 1
theorem opens40 : Opens Try.prog 40 k40 ok40 sz40 :=
  opens_imp (opens_iso (fun x : S40 => (x.f0, x.f1, x.f2)) (fun a => ⟨a.1, a.2.1, a.2.2⟩) (fun _ => rfl) (opens_struct Try.underlying40 (by kernel_rfl) (opensF_cons rfl (by kernel_rfl) Go.Proofs.Ytbdmpeekhlmebaa.P.opens24 (opensF_cons rfl (by kernel_rfl) (opens_int Try.underlying22) (opensF_one rfl (by kernel_rfl) (opens_bool Try.underlying4)))))) (fun _ h => h) (fun _ => Nat.le_refl _)
end Go.Proofs.Ytbdmpeekhlmebaa.P
