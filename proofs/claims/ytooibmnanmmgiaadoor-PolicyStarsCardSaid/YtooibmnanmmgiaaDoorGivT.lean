/- strings.Trim at '*' in the print's form. -/
import Derived.Test.YtooibmnanmmgiaaDoorPAx0
import Derived.Test.YtooibmnanmmgiaaDoorShelf
namespace Go.Proofs.YtooibmnanmmgiaaDoor.D
open Go.RowKit Go.Proofs.YtooibmnanmmgiaaDoorW.PrintWords Go.Proofs.YtooibmnanmmgiaaDoorW.PrintLast Go.Proofs.YtooibmnanmmgiaaDoorW.PrintMore
set_option linter.unusedVariables false
def strings_Trim.f (a0 : ByteArray) (a1 : ByteArray) : Option (ByteArray) := if a1 = (⟨#[42]⟩ : ByteArray) ∧ a0.size ≤ 9223372036854775807 then some ⟨(Lib.trimB a0.data.toList 42).toArray⟩ else none
theorem strings_Trim.calls (a0 : ByteArray) (a1 : ByteArray) (r : ByteArray) (w : World) (h : strings_Trim.f a0 a1 = some r) :
    Calls Tryd.prog 24 #[.string a0, .string a1] w fun e w' => e = .returned (.string r) ∧ Drawn0 w w' := by
  unfold strings_Trim.f at h
  split at h
  · rename_i hh
    obtain ⟨rfl, hs⟩ := hh
    obtain rfl := Option.some.inj h
    refine (Go.Proofs.YtooibmnanmmgiaaDoor.Sh.strings_Trim_one a0 42 (by decide) w hs).mono fun e w' ⟨he, hw⟩ => ⟨he, ?_⟩
    rcases hw with rfl | rfl
    · exact Drawn0.refl _
    · exact (Drawn0.refl w).step 1
  · cases h
end Go.Proofs.YtooibmnanmmgiaaDoor.D
