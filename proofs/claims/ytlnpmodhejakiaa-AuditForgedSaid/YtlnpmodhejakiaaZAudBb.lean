/- Part of the proofs of this seat: AudB. -/
import Derived.Test.YtlnpmodhejakiaaZAudB
import Derived.Test.YtlnpmodhejakiaaZAudP
import Derived.Test.YtlnpmodhejakiaaZQCall
import Derived.Test.YtlnpmodhejakiaaZWb
import Derived.Test.YtlnpmodhejakiaaZShab
/- The audit's contracts in plain words; a literal row of records; stelelaw14.alive. -/
namespace Go.Proofs.Ytlnpmodhejakiaa.AV
open Go.RowKit Go.Proofs.YtlnpmodhejakiaaW.PrintWords Go.Proofs.YtlnpmodhejakiaaW.PrintLast Go.Proofs.YtlnpmodhejakiaaW.PrintMore Go.Proofs.Ytlnpmodhejakiaa.Sha Go.Proofs.Ytlnpmodhejakiaa.D Go.Proofs.Ytlnpmodhejakiaa.PC Go.Proofs.Ytlnpmodhejakiaa.CP Go.Proofs.Ytlnpmodhejakiaa.PV
set_option linter.unusedVariables false
set_option linter.unusedSimpArgs false
theorem rshow_c (x : S69) (A8 : Option Addr) (c8 : Nat) (A9 : Option Addr) (c9 : Nat) (w : World) (h : RecC w x A8 c8 A9 c9) (hx : okX x) :
    Calls Try.prog 85 #[.agg #[.int .u64 x.f0, .int .u64 x.f1, .string x.f2, .int .i64 x.f3, .string x.f4, .string x.f5, .int .u64 x.f6, .int .i64 x.f7, .slice A8 x.f8.length c8, .slice A9 x.f9.length c9]] w fun e w' => ∃ v0_ : Value, e = .returned v0_ ∧ Kd.R (Kd.int .u8) 5 w' w.heap.size (fun _ => True) v0_ (showP x) ∧ Below w.heap.size w w' :=
  steleref14_Show.calls 9 x.f0 x.f1 x.f2 x.f3 x.f4 x.f5 x.f6 x.f7 A8 c8 x.f8 A9 c9 x.f9 _ w h.C8 h.h8 h.C9 h.h9 (r_show x hx 9 (Nat.le_refl _))
end Go.Proofs.Ytlnpmodhejakiaa.AV
