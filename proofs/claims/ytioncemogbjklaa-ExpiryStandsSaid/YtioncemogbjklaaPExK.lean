-- written by the workplace's driver round the kit's printer (wip/tools/myprint.py)
import Derived.Test.YtioncemogbjklaaPEx0
import Derived.Test.YtioncemogbjklaaOpen
namespace Go.Proofs.Ytioncemogbjklaa.PE
open Go.RowKit Go.Proofs.YtioncemogbjklaaW.PrintWords Go.Proofs.YtioncemogbjklaaW.PrintLast Go.Proofs.Ytioncemogbjklaa.Opn
set_option linter.unusedVariables false

def ok35 (x : S35) : Prop := (Lit.int .i64 x.f0).wf = true ∧ (Lit.int .u64 x.f1).wf = true
def sz35 (x : S35) : Nat := (1 + (1)) + 1
theorem opens35 : Opens Try.prog 35 k35 ok35 sz35 :=
  opens_imp (opens_iso (fun x : S35 => (x.f0, x.f1)) (fun a => ⟨a.1, a.2⟩) (fun _ => rfl) (opens_struct Try.underlying35 (by kernel_rfl) (opensF_cons rfl (by kernel_rfl) (opens_int Try.underlying3) (opensF_one rfl (by kernel_rfl) (opens_int Try.underlying28))))) (fun _ h => h) (fun _ => Nat.le_refl _)

def ok37 (x : S37) : Prop := x.f0.size ≤ 140737488351232 ∧ x.f1.size ≤ 140737488351232 ∧ (Lit.int .u64 x.f2).wf = true ∧ (Lit.int .u64 x.f3).wf = true ∧ True ∧ (x.f5.length * 1 ≤ 140737488351232 ∧ ∀ y ∈ x.f5, (Lit.int .u8 y).wf = true) ∧ ok35 x.f6 ∧ True ∧ (Lit.int .u64 x.f8).wf = true
def sz37 (x : S37) : Nat := ((x.f0.size + 1) + ((x.f1.size + 1) + (1 + (1 + (1 + (((x.f5.map (fun y => 1)).sum + 1) + (sz35 x.f6 + (1 + (1))))))))) + 1
theorem opens37 : Opens Try.prog 37 k37 ok37 sz37 :=
  opens_imp (opens_iso (fun x : S37 => (x.f0, x.f1, x.f2, x.f3, x.f4, x.f5, x.f6, x.f7, x.f8)) (fun a => ⟨a.1, a.2.1, a.2.2.1, a.2.2.2.1, a.2.2.2.2.1, a.2.2.2.2.2.1, a.2.2.2.2.2.2.1, a.2.2.2.2.2.2.2.1, a.2.2.2.2.2.2.2.2⟩) (fun _ => rfl) (opens_struct Try.underlying37 (by kernel_rfl) (opensF_cons rfl (by kernel_rfl) (opens_string Try.underlying9) (opensF_cons rfl (by kernel_rfl) (opens_string Try.underlying9) (opensF_cons rfl (by kernel_rfl) (opens_int Try.underlying28) (opensF_cons rfl (by kernel_rfl) (opens_int Try.underlying28) (opensF_cons rfl (by kernel_rfl) (opens_bool Try.underlying4) (opensF_cons rfl (by kernel_rfl) (opens_slice (b := 1) Try.underlying33 (by kernel_rfl) (by kernel_rfl) (opens_int Try.underlying5)) (opensF_cons rfl (by kernel_rfl) Go.Proofs.Ytioncemogbjklaa.PE.opens35 (opensF_cons rfl (by kernel_rfl) (opens_bool Try.underlying4) (opensF_one rfl (by kernel_rfl) (opens_int Try.underlying28)))))))))))) (fun _ h => h) (fun _ => Nat.le_refl _)

def ok27 (x : S27) : Prop := x.f0.size ≤ 140737488351232 ∧ (Lit.int .i64 x.f1).wf = true ∧ True ∧ True ∧ (Lit.int .i64 x.f4).wf = true ∧ (Lit.int .i64 x.f5).wf = true ∧ x.f6.size ≤ 140737488351232 ∧ (Lit.int .i64 x.f7).wf = true ∧ (Lit.int .i64 x.f8).wf = true
def sz27 (x : S27) : Nat := ((x.f0.size + 1) + (1 + (1 + (1 + (1 + (1 + ((x.f6.size + 1) + (1 + (1))))))))) + 1
theorem opens27 : Opens Try.prog 27 k27 ok27 sz27 :=
  opens_imp (opens_iso (fun x : S27 => (x.f0, x.f1, x.f2, x.f3, x.f4, x.f5, x.f6, x.f7, x.f8)) (fun a => ⟨a.1, a.2.1, a.2.2.1, a.2.2.2.1, a.2.2.2.2.1, a.2.2.2.2.2.1, a.2.2.2.2.2.2.1, a.2.2.2.2.2.2.2.1, a.2.2.2.2.2.2.2.2⟩) (fun _ => rfl) (opens_struct Try.underlying27 (by kernel_rfl) (opensF_cons rfl (by kernel_rfl) (opens_string Try.underlying9) (opensF_cons rfl (by kernel_rfl) (opens_int Try.underlying3) (opensF_cons rfl (by kernel_rfl) (opens_bool Try.underlying4) (opensF_cons rfl (by kernel_rfl) (opens_bool Try.underlying4) (opensF_cons rfl (by kernel_rfl) (opens_int Try.underlying3) (opensF_cons rfl (by kernel_rfl) (opens_int Try.underlying3) (opensF_cons rfl (by kernel_rfl) (opens_string Try.underlying9) (opensF_cons rfl (by kernel_rfl) (opens_int Try.underlying3) (opensF_one rfl (by kernel_rfl) (opens_int Try.underlying3)))))))))))) (fun _ h => h) (fun _ => Nat.le_refl _)
end Go.Proofs.Ytioncemogbjklaa.PE
