/- steleref01.Sha256, Sha1 in the print's form. -/
import Derived.Test.YtlnpmodhejakiaaZRefC
namespace Go.Proofs.Ytlnpmodhejakiaa.D
open Go.RowKit Go.Proofs.YtlnpmodhejakiaaW.PrintWords Go.Proofs.YtlnpmodhejakiaaW.PrintLast Go.Proofs.YtlnpmodhejakiaaW.PrintMore Go.Proofs.Ytlnpmodhejakiaa.Sha
set_option linter.unusedVariables false
def okR (l : List Int) : Prop := l.length ≤ 140737488340000 ∧ ∀ x ∈ l, 0 ≤ x ∧ x ≤ 255
instance (l : List Int) : Decidable (okR l) := inferInstanceAs (Decidable (_ ∧ _))
def steleref01_Sha256.f (l0 : List Int) : Option (List Int) := if okR l0 then some (sha256 l0) else none
theorem steleref01_Sha256.calls (A0 : Option Addr) (c0 : Nat) (l0 : List Int) (r : List Int) (w : World) (hr0 : Kd.C (Kd.int .u8) w A0 l0.length l0) (hc0 : l0.length ≤ c0) (h : steleref01_Sha256.f l0 = some r) :
    Calls Try.prog 33 #[.slice A0 l0.length c0] w fun e w' => ∃ v0_ : Value, e = .returned v0_ ∧ Kd.R (Kd.int .u8) 5 w' w.heap.size (fun _ => True) v0_ r ∧ Below w.heap.size w w' := by
  unfold steleref01_Sha256.f at h
  by_cases hh : okR l0
  · rw [if_pos hh] at h
    obtain rfl := Option.some.inj h
    exact ref256_any A0 c0 l0 w hr0 hc0 hh.1 hh.2
  · rw [if_neg hh] at h; cases h
end Go.Proofs.Ytlnpmodhejakiaa.D
