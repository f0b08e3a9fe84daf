/- Part of the proofs of this seat: Sha. -/
import Derived.Test.YtlnpmodhejakiaaZSha
import Derived.Laws.BitsLemmas
/- SHA-256 and SHA-1 in plain Lean, over bit vectors: no program in sight. -/
namespace Go.Proofs.Ytlnpmodhejakiaa.Sha
def t1 (v : V8) (i : Nat) (w : W) : W := rl v.a 5 + f1 i v + v.e + k1 i + w
open Go
section
variable (comp : V8 → List Int → V8)
end
end Go.Proofs.Ytlnpmodhejakiaa.Sha
