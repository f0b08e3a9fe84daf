/- steleref01.Sha1. -/
import Derived.Test.YtlnpmodhejakiaaZRefB
namespace Go.Proofs.Ytlnpmodhejakiaa.D
open Go.RowKit Go.Proofs.YtlnpmodhejakiaaW.PrintWords Go.Proofs.YtlnpmodhejakiaaW.PrintLast Go.Proofs.YtlnpmodhejakiaaW.PrintMore Go.Proofs.Ytlnpmodhejakiaa.Sha Go.Proofs.Ytlnpmodhejakiaa.PG
set_option linter.unusedVariables false
set_option linter.unusedSimpArgs false
def h5 (h v : V8) (i : Nat) : List W := ((add5 h v).l.take 5).take i ++ (h.l.take 5).drop i
end Go.Proofs.Ytlnpmodhejakiaa.D
