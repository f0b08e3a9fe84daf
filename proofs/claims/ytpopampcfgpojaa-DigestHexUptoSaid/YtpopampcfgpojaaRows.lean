/-
  No cell of these rows narrows 'for every input' (looked for: loops, veiled, ifaces, maps, wideKeys, modest, calm, conditions, laid).
  DERIVED. THE GIVEN ROWS OF THIS SEAT. 8 by the template 'for every input the law returns true; each argument reads behind the call as it read before'; 0 by the template 'total and deterministic' (their statements: YtpopampcfgpojaaTotals.lean).
  GIVEN WITH THE SEED: the statements are not yours to turn. If you find one false, say at which input.
  Laid BY PROGRAM, IN A SANDBOX (cutbox-rows.mjs): the forced cells as the released guide's own fill.sh prints them over the translation a6fc6f21693e5a26… (all of the seat's roots in one cut). By AI agents, Wed Nov 11 2026. No macro, syntax, notation, axiom, sorry.
-/
import Derived.Test.YtpopampcfgpojaaChecked
import GoSem.Claim
import GoSem.ClaimJoined
import GoSem.ClaimMapViews
import Derived.JoinedTies
import Derived.KernelRfl
namespace Go.Proofs.Ytpopampcfgpojaa
/- THE CELL 'sum', in the pinned program and in every row, IS THE sha256 OF THE DUMP (.gsa) THAT YtpopampcfgpojaaProg.lean LOADS. Nothing in Lean hashes anything: it is a label: what it is worth is what the hold of that sum in a sandbox is worth. -/
noncomputable def Try.pinned : Pinned := { name := "ytpopampcfgpojaa", sum := "a6fc6f21693e5a26f9d255f74ee8de260345464fabb6f18439130d00305ddd74", checked := Try.checked }
namespace Rows
def none {H : Type} : Left H := { results := [], args := [] }

/-- 'stelelaw01.DigestSame': WHATEVER THE INPUT: true; the input reads as it did. -/
def digestSameSpec : ChangeSpec := { name := "digestSame", fn := fun _ => fun
  | [d1, d2] => { results := [.lit (.bool true)], args := [d1, d2] }
  | _ => none }
def digestSameRow : OpenClaim := { program := "ytpopampcfgpojaa", sum := "a6fc6f21693e5a26f9d255f74ee8de260345464fabb6f18439130d00305ddd74", func := "stele/stelelaw01.DigestSame", spec := "digestSame", apart := false }
def DigestSameSaid : Prop := digestSameRow.holds Try.pinned (OpenSpec.ofChange digestSameSpec)

/-- ITS FALSE NEIGHBOUR: 'it returns false'. Refute it at one input. -/
def digestSameWrong : ChangeSpec := { name := "digestSame", fn := fun _ => fun
  | [d1, d2] => { results := [.lit (.bool false)], args := [d1, d2] }
  | _ => none }
def DigestSameWrongFalsely : Prop := digestSameRow.holds Try.pinned (OpenSpec.ofChange digestSameWrong)

/-- 'stelelaw01.DigestHex': WHATEVER THE INPUT: true; the input reads as it did. -/
def digestHexSpec : ChangeSpec := { name := "digestHex", fn := fun _ => fun
  | [d1, d2] => { results := [.lit (.bool true)], args := [d1, d2] }
  | _ => none }
def digestHexRow : OpenClaim := { program := "ytpopampcfgpojaa", sum := "a6fc6f21693e5a26f9d255f74ee8de260345464fabb6f18439130d00305ddd74", func := "stele/stelelaw01.DigestHex", spec := "digestHex", inPlace := ["internal/bytealg.IndexByteString", "internal/abi.NoEscape"], apart := false }
def DigestHexSaid : Prop := digestHexRow.holds Try.pinned (OpenSpec.ofChange digestHexSpec)

/-- ITS FALSE NEIGHBOUR: 'it returns false'. Refute it at one input. -/
def digestHexWrong : ChangeSpec := { name := "digestHex", fn := fun _ => fun
  | [d1, d2] => { results := [.lit (.bool false)], args := [d1, d2] }
  | _ => none }
def DigestHexWrongFalsely : Prop := digestHexRow.holds Try.pinned (OpenSpec.ofChange digestHexWrong)

/-- 'stelelaw01.DigestBack': WHATEVER THE INPUT: true; the input reads as it did. -/
def digestBackSpec : ChangeSpec := { name := "digestBack", fn := fun _ => fun
  | [d1, d2] => { results := [.lit (.bool true)], args := [d1, d2] }
  | _ => none }
def digestBackRow : OpenClaim := { program := "ytpopampcfgpojaa", sum := "a6fc6f21693e5a26f9d255f74ee8de260345464fabb6f18439130d00305ddd74", func := "stele/stelelaw01.DigestBack", spec := "digestBack", inPlace := ["internal/abi.NoEscape", "internal/bytealg.IndexByteString"], apart := false }
def DigestBackSaid : Prop := digestBackRow.holds Try.pinned (OpenSpec.ofChange digestBackSpec)

/-- ITS FALSE NEIGHBOUR: 'it returns false'. Refute it at one input. -/
def digestBackWrong : ChangeSpec := { name := "digestBack", fn := fun _ => fun
  | [d1, d2] => { results := [.lit (.bool false)], args := [d1, d2] }
  | _ => none }
def DigestBackWrongFalsely : Prop := digestBackRow.holds Try.pinned (OpenSpec.ofChange digestBackWrong)

/-- 'stelelaw01.DigestSha1': WHATEVER THE INPUT: true; the input reads as it did. -/
def digestSha1Spec : ChangeSpec := { name := "digestSha1", fn := fun _ => fun
  | [d] => { results := [.lit (.bool true)], args := [d] }
  | _ => none }
def digestSha1Row : OpenClaim := { program := "ytpopampcfgpojaa", sum := "a6fc6f21693e5a26f9d255f74ee8de260345464fabb6f18439130d00305ddd74", func := "stele/stelelaw01.DigestSha1", spec := "digestSha1", unfollowed := true, recurses := true, apart := false }
def DigestSha1Said : Prop := digestSha1Row.holds Try.pinned (OpenSpec.ofChange digestSha1Spec)

/-- ITS FALSE NEIGHBOUR: 'it returns false'. Refute it at one input. -/
def digestSha1Wrong : ChangeSpec := { name := "digestSha1", fn := fun _ => fun
  | [d] => { results := [.lit (.bool false)], args := [d] }
  | _ => none }
def DigestSha1WrongFalsely : Prop := digestSha1Row.holds Try.pinned (OpenSpec.ofChange digestSha1Wrong)

/-- 'stelelaw01.DigestSha256': WHATEVER THE INPUT: true; the input reads as it did. -/
def digestSha256Spec : ChangeSpec := { name := "digestSha256", fn := fun _ => fun
  | [d] => { results := [.lit (.bool true)], args := [d] }
  | _ => none }
def digestSha256Row : OpenClaim := { program := "ytpopampcfgpojaa", sum := "a6fc6f21693e5a26f9d255f74ee8de260345464fabb6f18439130d00305ddd74", func := "stele/stelelaw01.DigestSha256", spec := "digestSha256", unfollowed := true, recurses := true, apart := false }
def DigestSha256Said : Prop := digestSha256Row.holds Try.pinned (OpenSpec.ofChange digestSha256Spec)

/-- ITS FALSE NEIGHBOUR: 'it returns false'. Refute it at one input. -/
def digestSha256Wrong : ChangeSpec := { name := "digestSha256", fn := fun _ => fun
  | [d] => { results := [.lit (.bool false)], args := [d] }
  | _ => none }
def DigestSha256WrongFalsely : Prop := digestSha256Row.holds Try.pinned (OpenSpec.ofChange digestSha256Wrong)

/-- 'stelelaw01.DigestParts': WHATEVER THE INPUT: true; the input reads as it did. -/
def digestPartsSpec : ChangeSpec := { name := "digestParts", fn := fun _ => fun
  | [d] => { results := [.lit (.bool true)], args := [d] }
  | _ => none }
def digestPartsRow : OpenClaim := { program := "ytpopampcfgpojaa", sum := "a6fc6f21693e5a26f9d255f74ee8de260345464fabb6f18439130d00305ddd74", func := "stele/stelelaw01.DigestParts", spec := "digestParts", unfollowed := true, recurses := true, apart := false }
def DigestPartsSaid : Prop := digestPartsRow.holds Try.pinned (OpenSpec.ofChange digestPartsSpec)

/-- ITS FALSE NEIGHBOUR: 'it returns false'. Refute it at one input. -/
def digestPartsWrong : ChangeSpec := { name := "digestParts", fn := fun _ => fun
  | [d] => { results := [.lit (.bool false)], args := [d] }
  | _ => none }
def DigestPartsWrongFalsely : Prop := digestPartsRow.holds Try.pinned (OpenSpec.ofChange digestPartsWrong)

/-- 'stelelaw01.DigestHmac1': WHATEVER THE INPUT: true; the input reads as it did. -/
def digestHmac1Spec : ChangeSpec := { name := "digestHmac1", fn := fun _ => fun
  | [d1, d2] => { results := [.lit (.bool true)], args := [d1, d2] }
  | _ => none }
def digestHmac1Row : OpenClaim := { program := "ytpopampcfgpojaa", sum := "a6fc6f21693e5a26f9d255f74ee8de260345464fabb6f18439130d00305ddd74", func := "stele/stelelaw01.DigestHmac1", spec := "digestHmac1", unfollowed := true, recurses := true, apart := false }
def DigestHmac1Said : Prop := digestHmac1Row.holds Try.pinned (OpenSpec.ofChange digestHmac1Spec)

/-- ITS FALSE NEIGHBOUR: 'it returns false'. Refute it at one input. -/
def digestHmac1Wrong : ChangeSpec := { name := "digestHmac1", fn := fun _ => fun
  | [d1, d2] => { results := [.lit (.bool false)], args := [d1, d2] }
  | _ => none }
def DigestHmac1WrongFalsely : Prop := digestHmac1Row.holds Try.pinned (OpenSpec.ofChange digestHmac1Wrong)

/-- 'stelelaw01.DigestHmac256': WHATEVER THE INPUT: true; the input reads as it did. -/
def digestHmac256Spec : ChangeSpec := { name := "digestHmac256", fn := fun _ => fun
  | [d1, d2] => { results := [.lit (.bool true)], args := [d1, d2] }
  | _ => none }
def digestHmac256Row : OpenClaim := { program := "ytpopampcfgpojaa", sum := "a6fc6f21693e5a26f9d255f74ee8de260345464fabb6f18439130d00305ddd74", func := "stele/stelelaw01.DigestHmac256", spec := "digestHmac256", unfollowed := true, recurses := true, apart := false }
def DigestHmac256Said : Prop := digestHmac256Row.holds Try.pinned (OpenSpec.ofChange digestHmac256Spec)

/-- ITS FALSE NEIGHBOUR: 'it returns false'. Refute it at one input. -/
def digestHmac256Wrong : ChangeSpec := { name := "digestHmac256", fn := fun _ => fun
  | [d1, d2] => { results := [.lit (.bool false)], args := [d1, d2] }
  | _ => none }
def DigestHmac256WrongFalsely : Prop := digestHmac256Row.holds Try.pinned (OpenSpec.ofChange digestHmac256Wrong)

/- THE SECOND FORM. 'bulk': how many values and letters a reading holds, each counted each time it is reached (what is shared counts as often as it is met; a slice's spare places count too). A statement '..UptoSaid' is the law's where the arguments, and the package variables that the reading takes, are together of bulk at most 1048576: NARROWER than '..Said'. Prove '..Said' where nothing that the law and all that it calls make is longer than what came in: it says more and counts as full. Else prove '..UptoSaid'. A law counts once. -/
mutual
def uptoBulk {H : Type} : DataW H → Nat
  | .lit (.string bytes) => bytes.length + 1
  | .lit _ => 1
  | .nil => 1
  | .ptr d => uptoBulk d + 1
  | .slice elems spare => uptoBulkAll elems + uptoBulkAll spare + 1
  | .agg parts => uptoBulkAll parts + 1
  | .iface _ d => uptoBulk d + 1
  | .map entries => uptoBulkEntries entries + 1
  | .held _ => 1
def uptoBulkAll {H : Type} : List (DataW H) → Nat
  | [] => 0
  | d :: r => uptoBulk d + uptoBulkAll r
def uptoBulkEntries {H : Type} : List (Lit × DataW H) → Nat
  | [] => 0
  | x :: r => uptoBulkEntry x + uptoBulkEntries r
def uptoBulkEntry {H : Type} : Lit × DataW H → Nat
  | (.string bytes, d) => bytes.length + uptoBulk d + 1
  | (_, d) => uptoBulk d + 1
 end
def uptoSmall : (H : Type) → List (DataW H) → Bool := fun _ ds => decide (uptoBulkAll ds ≤ 1048576)
def OpenSpec.upto (s : _root_.Go.ChangeSpec) : _root_.Go.OpenSpec := { _root_.Go.OpenSpec.ofChange s with cond := some uptoSmall }

/-- 'stelelaw01.DigestSame', WHERE WHAT IT READS IS OF BULK AT MOST 1048576: true; the input reads as it did. -/
def digestSameUptoRow : OpenClaim := { program := "ytpopampcfgpojaa", sum := "a6fc6f21693e5a26f9d255f74ee8de260345464fabb6f18439130d00305ddd74", func := "stele/stelelaw01.DigestSame", spec := "digestSame", apart := false, narrowed := true }
def DigestSameUptoSaid : Prop := digestSameUptoRow.holds Try.pinned (OpenSpec.upto digestSameSpec)

/-- 'stelelaw01.DigestHex', WHERE WHAT IT READS IS OF BULK AT MOST 1048576: true; the input reads as it did. -/
def digestHexUptoRow : OpenClaim := { program := "ytpopampcfgpojaa", sum := "a6fc6f21693e5a26f9d255f74ee8de260345464fabb6f18439130d00305ddd74", func := "stele/stelelaw01.DigestHex", spec := "digestHex", inPlace := ["internal/bytealg.IndexByteString", "internal/abi.NoEscape"], apart := false, narrowed := true }
def DigestHexUptoSaid : Prop := digestHexUptoRow.holds Try.pinned (OpenSpec.upto digestHexSpec)

/-- 'stelelaw01.DigestBack', WHERE WHAT IT READS IS OF BULK AT MOST 1048576: true; the input reads as it did. -/
def digestBackUptoRow : OpenClaim := { program := "ytpopampcfgpojaa", sum := "a6fc6f21693e5a26f9d255f74ee8de260345464fabb6f18439130d00305ddd74", func := "stele/stelelaw01.DigestBack", spec := "digestBack", inPlace := ["internal/abi.NoEscape", "internal/bytealg.IndexByteString"], apart := false, narrowed := true }
def DigestBackUptoSaid : Prop := digestBackUptoRow.holds Try.pinned (OpenSpec.upto digestBackSpec)

/-- 'stelelaw01.DigestSha1', WHERE WHAT IT READS IS OF BULK AT MOST 1048576: true; the input reads as it did. -/
def digestSha1UptoRow : OpenClaim := { program := "ytpopampcfgpojaa", sum := "a6fc6f21693e5a26f9d255f74ee8de260345464fabb6f18439130d00305ddd74", func := "stele/stelelaw01.DigestSha1", spec := "digestSha1", unfollowed := true, recurses := true, apart := false, narrowed := true }
def DigestSha1UptoSaid : Prop := digestSha1UptoRow.holds Try.pinned (OpenSpec.upto digestSha1Spec)

/-- 'stelelaw01.DigestSha256', WHERE WHAT IT READS IS OF BULK AT MOST 1048576: true; the input reads as it did. -/
def digestSha256UptoRow : OpenClaim := { program := "ytpopampcfgpojaa", sum := "a6fc6f21693e5a26f9d255f74ee8de260345464fabb6f18439130d00305ddd74", func := "stele/stelelaw01.DigestSha256", spec := "digestSha256", unfollowed := true, recurses := true, apart := false, narrowed := true }
def DigestSha256UptoSaid : Prop := digestSha256UptoRow.holds Try.pinned (OpenSpec.upto digestSha256Spec)

/-- 'stelelaw01.DigestParts', WHERE WHAT IT READS IS OF BULK AT MOST 1048576: true; the input reads as it did. -/
def digestPartsUptoRow : OpenClaim := { program := "ytpopampcfgpojaa", sum := "a6fc6f21693e5a26f9d255f74ee8de260345464fabb6f18439130d00305ddd74", func := "stele/stelelaw01.DigestParts", spec := "digestParts", unfollowed := true, recurses := true, apart := false, narrowed := true }
def DigestPartsUptoSaid : Prop := digestPartsUptoRow.holds Try.pinned (OpenSpec.upto digestPartsSpec)

/-- 'stelelaw01.DigestHmac1', WHERE WHAT IT READS IS OF BULK AT MOST 1048576: true; the input reads as it did. -/
def digestHmac1UptoRow : OpenClaim := { program := "ytpopampcfgpojaa", sum := "a6fc6f21693e5a26f9d255f74ee8de260345464fabb6f18439130d00305ddd74", func := "stele/stelelaw01.DigestHmac1", spec := "digestHmac1", unfollowed := true, recurses := true, apart := false, narrowed := true }
def DigestHmac1UptoSaid : Prop := digestHmac1UptoRow.holds Try.pinned (OpenSpec.upto digestHmac1Spec)

/-- 'stelelaw01.DigestHmac256', WHERE WHAT IT READS IS OF BULK AT MOST 1048576: true; the input reads as it did. -/
def digestHmac256UptoRow : OpenClaim := { program := "ytpopampcfgpojaa", sum := "a6fc6f21693e5a26f9d255f74ee8de260345464fabb6f18439130d00305ddd74", func := "stele/stelelaw01.DigestHmac256", spec := "digestHmac256", unfollowed := true, recurses := true, apart := false, narrowed := true }
def DigestHmac256UptoSaid : Prop := digestHmac256UptoRow.holds Try.pinned (OpenSpec.upto digestHmac256Spec)

end Rows
end Go.Proofs.Ytpopampcfgpojaa
