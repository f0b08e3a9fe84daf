/-
  No cell of these rows narrows 'for every input' (looked for: loops, veiled, ifaces, maps, wideKeys, modest, calm, conditions, laid).
  DERIVED. THE GIVEN ROWS OF THIS SEAT. 25 by the template 'for every input the law returns true; each argument reads behind the call as it read before'; 0 by the template 'total and deterministic' (their statements: YtlnpmodhejakiaaTotals.lean).
  GIVEN WITH THE SEED: the statements are not yours to turn. If you find one false, say at which input.
  Laid BY PROGRAM, IN A SANDBOX (cutbox-rows.mjs): the forced cells as the released guide's own fill.sh prints them over the translation e3c51a1d91d6ae33… (all of the seat's roots in one cut). By AI agents, Wed Nov 11 2026. No macro, syntax, notation, axiom, sorry.
-/
import Derived.Test.YtlnpmodhejakiaaChecked
import GoSem.Claim
import GoSem.ClaimJoined
import GoSem.ClaimMapViews
import Derived.JoinedTies
import Derived.KernelRfl
namespace Go.Proofs.Ytlnpmodhejakiaa
/- THE CELL 'sum', in the pinned program and in every row, IS THE sha256 OF THE DUMP (.gsa) THAT YtlnpmodhejakiaaProg.lean LOADS. Nothing in Lean hashes anything: it is a label: what it is worth is what the hold of that sum in a sandbox is worth. -/
noncomputable def Try.pinned : Pinned := { name := "ytlnpmodhejakiaa", sum := "e3c51a1d91d6ae337cebd5658e863c3f68ff206799428585b01399e615aec771", checked := Try.checked }
namespace Rows
def none {H : Type} : Left H := { results := [], args := [] }

/-- 'stelelaw01.DigestSha1': WHATEVER THE INPUT: true; the input reads as it did. -/
def digestSha1Spec : ChangeSpec := { name := "digestSha1", fn := fun _ => fun
  | [d] => { results := [.lit (.bool true)], args := [d] }
  | _ => none }
def digestSha1Row : OpenClaim := { program := "ytlnpmodhejakiaa", sum := "e3c51a1d91d6ae337cebd5658e863c3f68ff206799428585b01399e615aec771", func := "stele/stelelaw01.DigestSha1", spec := "digestSha1", unfollowed := true, recurses := true, apart := false }
def DigestSha1Said : Prop := digestSha1Row.holds Try.pinned (OpenSpec.ofChange digestSha1Spec)

/-- ITS FALSE NEIGHBOUR: 'it returns false'. Refute it at one input. -/
def digestSha1Wrong : ChangeSpec := { name := "digestSha1", fn := fun _ => fun
  | [d] => { results := [.lit (.bool false)], args := [d] }
  | _ => none }
def DigestSha1WrongFalsely : Prop := digestSha1Row.holds Try.pinned (OpenSpec.ofChange digestSha1Wrong)

/-- 'stelelaw01.DigestSha256': WHATEVER THE INPUT: true; the input reads as it did. -/
def digestSha256Spec : ChangeSpec := { name := "digestSha256", fn := fun _ => fun
  | [d] => { results := [.lit (.bool true)], args := [d] }
  | _ => none }
def digestSha256Row : OpenClaim := { program := "ytlnpmodhejakiaa", sum := "e3c51a1d91d6ae337cebd5658e863c3f68ff206799428585b01399e615aec771", func := "stele/stelelaw01.DigestSha256", spec := "digestSha256", unfollowed := true, recurses := true, apart := false }
def DigestSha256Said : Prop := digestSha256Row.holds Try.pinned (OpenSpec.ofChange digestSha256Spec)

/-- ITS FALSE NEIGHBOUR: 'it returns false'. Refute it at one input. -/
def digestSha256Wrong : ChangeSpec := { name := "digestSha256", fn := fun _ => fun
  | [d] => { results := [.lit (.bool false)], args := [d] }
  | _ => none }
def DigestSha256WrongFalsely : Prop := digestSha256Row.holds Try.pinned (OpenSpec.ofChange digestSha256Wrong)

/-- 'stelelaw01.DigestParts': WHATEVER THE INPUT: true; the input reads as it did. -/
def digestPartsSpec : ChangeSpec := { name := "digestParts", fn := fun _ => fun
  | [d] => { results := [.lit (.bool true)], args := [d] }
  | _ => none }
def digestPartsRow : OpenClaim := { program := "ytlnpmodhejakiaa", sum := "e3c51a1d91d6ae337cebd5658e863c3f68ff206799428585b01399e615aec771", func := "stele/stelelaw01.DigestParts", spec := "digestParts", unfollowed := true, recurses := true, apart := false }
def DigestPartsSaid : Prop := digestPartsRow.holds Try.pinned (OpenSpec.ofChange digestPartsSpec)

/-- ITS FALSE NEIGHBOUR: 'it returns false'. Refute it at one input. -/
def digestPartsWrong : ChangeSpec := { name := "digestParts", fn := fun _ => fun
  | [d] => { results := [.lit (.bool false)], args := [d] }
  | _ => none }
def DigestPartsWrongFalsely : Prop := digestPartsRow.holds Try.pinned (OpenSpec.ofChange digestPartsWrong)

/-- 'stelelaw01.DigestHmac1': WHATEVER THE INPUT: true; the input reads as it did. -/
def digestHmac1Spec : ChangeSpec := { name := "digestHmac1", fn := fun _ => fun
  | [d1, d2] => { results := [.lit (.bool true)], args := [d1, d2] }
  | _ => none }
def digestHmac1Row : OpenClaim := { program := "ytlnpmodhejakiaa", sum := "e3c51a1d91d6ae337cebd5658e863c3f68ff206799428585b01399e615aec771", func := "stele/stelelaw01.DigestHmac1", spec := "digestHmac1", unfollowed := true, recurses := true, apart := false }
def DigestHmac1Said : Prop := digestHmac1Row.holds Try.pinned (OpenSpec.ofChange digestHmac1Spec)

/-- ITS FALSE NEIGHBOUR: 'it returns false'. Refute it at one input. -/
def digestHmac1Wrong : ChangeSpec := { name := "digestHmac1", fn := fun _ => fun
  | [d1, d2] => { results := [.lit (.bool false)], args := [d1, d2] }
  | _ => none }
def DigestHmac1WrongFalsely : Prop := digestHmac1Row.holds Try.pinned (OpenSpec.ofChange digestHmac1Wrong)

/-- 'stelelaw01.DigestHmac256': WHATEVER THE INPUT: true; the input reads as it did. -/
def digestHmac256Spec : ChangeSpec := { name := "digestHmac256", fn := fun _ => fun
  | [d1, d2] => { results := [.lit (.bool true)], args := [d1, d2] }
  | _ => none }
def digestHmac256Row : OpenClaim := { program := "ytlnpmodhejakiaa", sum := "e3c51a1d91d6ae337cebd5658e863c3f68ff206799428585b01399e615aec771", func := "stele/stelelaw01.DigestHmac256", spec := "digestHmac256", unfollowed := true, recurses := true, apart := false }
def DigestHmac256Said : Prop := digestHmac256Row.holds Try.pinned (OpenSpec.ofChange digestHmac256Spec)

/-- ITS FALSE NEIGHBOUR: 'it returns false'. Refute it at one input. -/
def digestHmac256Wrong : ChangeSpec := { name := "digestHmac256", fn := fun _ => fun
  | [d1, d2] => { results := [.lit (.bool false)], args := [d1, d2] }
  | _ => none }
def DigestHmac256WrongFalsely : Prop := digestHmac256Row.holds Try.pinned (OpenSpec.ofChange digestHmac256Wrong)

/-- 'stelelaw02.CanonTexts': WHATEVER THE INPUT: true; the input reads as it did. -/
def canonTextsSpec : ChangeSpec := { name := "canonTexts", fn := fun _ => fun
  | [d1, d2, d3] => { results := [.lit (.bool true)], args := [d1, d2, d3] }
  | _ => none }
def canonTextsRow : OpenClaim := { program := "ytlnpmodhejakiaa", sum := "e3c51a1d91d6ae337cebd5658e863c3f68ff206799428585b01399e615aec771", func := "stele/stelelaw02.CanonTexts", spec := "canonTexts", inPlace := ["sync/atomic.LoadUint32", "sync/atomic.StoreUint32"], apart := false }
def CanonTextsSaid : Prop := canonTextsRow.holds Try.pinned (OpenSpec.ofChange canonTextsSpec)

/-- ITS FALSE NEIGHBOUR: 'it returns false'. Refute it at one input. -/
def canonTextsWrong : ChangeSpec := { name := "canonTexts", fn := fun _ => fun
  | [d1, d2, d3] => { results := [.lit (.bool false)], args := [d1, d2, d3] }
  | _ => none }
def CanonTextsWrongFalsely : Prop := canonTextsRow.holds Try.pinned (OpenSpec.ofChange canonTextsWrong)

/-- 'stelelaw02.CanonNumbers': WHATEVER THE INPUT: true; the input reads as it did. -/
def canonNumbersSpec : ChangeSpec := { name := "canonNumbers", fn := fun _ => fun
  | [d1, d2, d3, d4] => { results := [.lit (.bool true)], args := [d1, d2, d3, d4] }
  | _ => none }
def canonNumbersRow : OpenClaim := { program := "ytlnpmodhejakiaa", sum := "e3c51a1d91d6ae337cebd5658e863c3f68ff206799428585b01399e615aec771", func := "stele/stelelaw02.CanonNumbers", spec := "canonNumbers", inPlace := ["sync/atomic.LoadUint32", "sync/atomic.StoreUint32"], apart := false }
def CanonNumbersSaid : Prop := canonNumbersRow.holds Try.pinned (OpenSpec.ofChange canonNumbersSpec)

/-- ITS FALSE NEIGHBOUR: 'it returns false'. Refute it at one input. -/
def canonNumbersWrong : ChangeSpec := { name := "canonNumbers", fn := fun _ => fun
  | [d1, d2, d3, d4] => { results := [.lit (.bool false)], args := [d1, d2, d3, d4] }
  | _ => none }
def CanonNumbersWrongFalsely : Prop := canonNumbersRow.holds Try.pinned (OpenSpec.ofChange canonNumbersWrong)

/-- 'stelelaw02.CanonOne': WHATEVER THE INPUT: true; the input reads as it did. -/
def canonOneSpec : ChangeSpec := { name := "canonOne", fn := fun _ => fun
  | [d1, d2] => { results := [.lit (.bool true)], args := [d1, d2] }
  | _ => none }
def canonOneRow : OpenClaim := { program := "ytlnpmodhejakiaa", sum := "e3c51a1d91d6ae337cebd5658e863c3f68ff206799428585b01399e615aec771", func := "stele/stelelaw02.CanonOne", spec := "canonOne", inPlace := ["sync/atomic.LoadUint32", "sync/atomic.StoreUint32"], apart := false }
def CanonOneSaid : Prop := canonOneRow.holds Try.pinned (OpenSpec.ofChange canonOneSpec)

/-- ITS FALSE NEIGHBOUR: 'it returns false'. Refute it at one input. -/
def canonOneWrong : ChangeSpec := { name := "canonOne", fn := fun _ => fun
  | [d1, d2] => { results := [.lit (.bool false)], args := [d1, d2] }
  | _ => none }
def CanonOneWrongFalsely : Prop := canonOneRow.holds Try.pinned (OpenSpec.ofChange canonOneWrong)

/-- 'stelelaw02.CanonReads': WHATEVER THE INPUT: true; the input reads as it did. -/
def canonReadsSpec : ChangeSpec := { name := "canonReads", fn := fun _ => fun
  | [d1, d2, d3] => { results := [.lit (.bool true)], args := [d1, d2, d3] }
  | _ => none }
def canonReadsRow : OpenClaim := { program := "ytlnpmodhejakiaa", sum := "e3c51a1d91d6ae337cebd5658e863c3f68ff206799428585b01399e615aec771", func := "stele/stelelaw02.CanonReads", spec := "canonReads", inPlace := ["sync/atomic.LoadUint32", "sync/atomic.StoreUint32"], apart := false }
def CanonReadsSaid : Prop := canonReadsRow.holds Try.pinned (OpenSpec.ofChange canonReadsSpec)

/-- ITS FALSE NEIGHBOUR: 'it returns false'. Refute it at one input. -/
def canonReadsWrong : ChangeSpec := { name := "canonReads", fn := fun _ => fun
  | [d1, d2, d3] => { results := [.lit (.bool false)], args := [d1, d2, d3] }
  | _ => none }
def CanonReadsWrongFalsely : Prop := canonReadsRow.holds Try.pinned (OpenSpec.ofChange canonReadsWrong)

/-- 'stelelaw02.CanonBack': WHATEVER THE INPUT: true; the input reads as it did. -/
def canonBackSpec : ChangeSpec := { name := "canonBack", fn := fun _ => fun
  | [d] => { results := [.lit (.bool true)], args := [d] }
  | _ => none }
def canonBackRow : OpenClaim := { program := "ytlnpmodhejakiaa", sum := "e3c51a1d91d6ae337cebd5658e863c3f68ff206799428585b01399e615aec771", func := "stele/stelelaw02.CanonBack", spec := "canonBack", inPlace := ["sync/atomic.LoadUint32", "sync/atomic.StoreUint32"], apart := false }
def CanonBackSaid : Prop := canonBackRow.holds Try.pinned (OpenSpec.ofChange canonBackSpec)

/-- ITS FALSE NEIGHBOUR: 'it returns false'. Refute it at one input. -/
def canonBackWrong : ChangeSpec := { name := "canonBack", fn := fun _ => fun
  | [d] => { results := [.lit (.bool false)], args := [d] }
  | _ => none }
def CanonBackWrongFalsely : Prop := canonBackRow.holds Try.pinned (OpenSpec.ofChange canonBackWrong)

/-- 'stelelaw07.TotpSigns': WHATEVER THE INPUT: true; the input reads as it did. -/
def totpSignsSpec : ChangeSpec := { name := "totpSigns", fn := fun _ => fun
  | [d1, d2] => { results := [.lit (.bool true)], args := [d1, d2] }
  | _ => none }
def totpSignsRow : OpenClaim := { program := "ytlnpmodhejakiaa", sum := "e3c51a1d91d6ae337cebd5658e863c3f68ff206799428585b01399e615aec771", func := "stele/stelelaw07.TotpSigns", spec := "totpSigns", inPlace := ["internal/bytealg.IndexByteString", "internal/abi.NoEscape"], apart := false }
def TotpSignsSaid : Prop := totpSignsRow.holds Try.pinned (OpenSpec.ofChange totpSignsSpec)

/-- ITS FALSE NEIGHBOUR: 'it returns false'. Refute it at one input. -/
def totpSignsWrong : ChangeSpec := { name := "totpSigns", fn := fun _ => fun
  | [d1, d2] => { results := [.lit (.bool false)], args := [d1, d2] }
  | _ => none }
def TotpSignsWrongFalsely : Prop := totpSignsRow.holds Try.pinned (OpenSpec.ofChange totpSignsWrong)

/-- 'stelelaw07.TotpBack': WHATEVER THE INPUT: true; the input reads as it did. -/
def totpBackSpec : ChangeSpec := { name := "totpBack", fn := fun _ => fun
  | [d1, d2] => { results := [.lit (.bool true)], args := [d1, d2] }
  | _ => none }
def totpBackRow : OpenClaim := { program := "ytlnpmodhejakiaa", sum := "e3c51a1d91d6ae337cebd5658e863c3f68ff206799428585b01399e615aec771", func := "stele/stelelaw07.TotpBack", spec := "totpBack", inPlace := ["internal/abi.NoEscape", "internal/bytealg.IndexByteString"], apart := false }
def TotpBackSaid : Prop := totpBackRow.holds Try.pinned (OpenSpec.ofChange totpBackSpec)

/-- ITS FALSE NEIGHBOUR: 'it returns false'. Refute it at one input. -/
def totpBackWrong : ChangeSpec := { name := "totpBack", fn := fun _ => fun
  | [d1, d2] => { results := [.lit (.bool false)], args := [d1, d2] }
  | _ => none }
def TotpBackWrongFalsely : Prop := totpBackRow.holds Try.pinned (OpenSpec.ofChange totpBackWrong)

/-- 'stelelaw14.AuditNexts': WHATEVER THE INPUT: true; the input reads as it did. -/
def auditNextsSpec : ChangeSpec := { name := "auditNexts", fn := fun _ => fun
  | [d1, d2] => { results := [.lit (.bool true)], args := [d1, d2] }
  | _ => none }
def auditNextsRow : OpenClaim := { program := "ytlnpmodhejakiaa", sum := "e3c51a1d91d6ae337cebd5658e863c3f68ff206799428585b01399e615aec771", func := "stele/stelelaw14.AuditNexts", spec := "auditNexts", unfollowed := true, recurses := true, apart := false }
def AuditNextsSaid : Prop := auditNextsRow.holds Try.pinned (OpenSpec.ofChange auditNextsSpec)

/-- ITS FALSE NEIGHBOUR: 'it returns false'. Refute it at one input. -/
def auditNextsWrong : ChangeSpec := { name := "auditNexts", fn := fun _ => fun
  | [d1, d2] => { results := [.lit (.bool false)], args := [d1, d2] }
  | _ => none }
def AuditNextsWrongFalsely : Prop := auditNextsRow.holds Try.pinned (OpenSpec.ofChange auditNextsWrong)

/-- 'stelelaw14.AuditVerifies': WHATEVER THE INPUT: true; the input reads as it did. -/
def auditVerifiesSpec : ChangeSpec := { name := "auditVerifies", fn := fun _ => fun
  | [d1, d2] => { results := [.lit (.bool true)], args := [d1, d2] }
  | _ => none }
def auditVerifiesRow : OpenClaim := { program := "ytlnpmodhejakiaa", sum := "e3c51a1d91d6ae337cebd5658e863c3f68ff206799428585b01399e615aec771", func := "stele/stelelaw14.AuditVerifies", spec := "auditVerifies", unfollowed := true, recurses := true, apart := false }
def AuditVerifiesSaid : Prop := auditVerifiesRow.holds Try.pinned (OpenSpec.ofChange auditVerifiesSpec)

/-- ITS FALSE NEIGHBOUR: 'it returns false'. Refute it at one input. -/
def auditVerifiesWrong : ChangeSpec := { name := "auditVerifies", fn := fun _ => fun
  | [d1, d2] => { results := [.lit (.bool false)], args := [d1, d2] }
  | _ => none }
def AuditVerifiesWrongFalsely : Prop := auditVerifiesRow.holds Try.pinned (OpenSpec.ofChange auditVerifiesWrong)

/-- 'stelelaw14.AuditChains': WHATEVER THE INPUT: true; the input reads as it did. -/
def auditChainsSpec : ChangeSpec := { name := "auditChains", fn := fun _ => fun
  | [d] => { results := [.lit (.bool true)], args := [d] }
  | _ => none }
def auditChainsRow : OpenClaim := { program := "ytlnpmodhejakiaa", sum := "e3c51a1d91d6ae337cebd5658e863c3f68ff206799428585b01399e615aec771", func := "stele/stelelaw14.AuditChains", spec := "auditChains", unfollowed := true, recurses := true, apart := false }
def AuditChainsSaid : Prop := auditChainsRow.holds Try.pinned (OpenSpec.ofChange auditChainsSpec)

/-- ITS FALSE NEIGHBOUR: 'it returns false'. Refute it at one input. -/
def auditChainsWrong : ChangeSpec := { name := "auditChains", fn := fun _ => fun
  | [d] => { results := [.lit (.bool false)], args := [d] }
  | _ => none }
def AuditChainsWrongFalsely : Prop := auditChainsRow.holds Try.pinned (OpenSpec.ofChange auditChainsWrong)

/-- 'stelelaw14.AuditEdited': WHATEVER THE INPUT: true; the input reads as it did. -/
def auditEditedSpec : ChangeSpec := { name := "auditEdited", fn := fun _ => fun
  | [d1, d2, d3, d4] => { results := [.lit (.bool true)], args := [d1, d2, d3, d4] }
  | _ => none }
def auditEditedRow : OpenClaim := { program := "ytlnpmodhejakiaa", sum := "e3c51a1d91d6ae337cebd5658e863c3f68ff206799428585b01399e615aec771", func := "stele/stelelaw14.AuditEdited", spec := "auditEdited", unfollowed := true, recurses := true, apart := false }
def AuditEditedSaid : Prop := auditEditedRow.holds Try.pinned (OpenSpec.ofChange auditEditedSpec)

/-- ITS FALSE NEIGHBOUR: 'it returns false'. Refute it at one input. -/
def auditEditedWrong : ChangeSpec := { name := "auditEdited", fn := fun _ => fun
  | [d1, d2, d3, d4] => { results := [.lit (.bool false)], args := [d1, d2, d3, d4] }
  | _ => none }
def AuditEditedWrongFalsely : Prop := auditEditedRow.holds Try.pinned (OpenSpec.ofChange auditEditedWrong)

/-- 'stelelaw14.AuditShows': WHATEVER THE INPUT: true; the input reads as it did. -/
def auditShowsSpec : ChangeSpec := { name := "auditShows", fn := fun _ => fun
  | [d1, d2, d3] => { results := [.lit (.bool true)], args := [d1, d2, d3] }
  | _ => none }
def auditShowsRow : OpenClaim := { program := "ytlnpmodhejakiaa", sum := "e3c51a1d91d6ae337cebd5658e863c3f68ff206799428585b01399e615aec771", func := "stele/stelelaw14.AuditShows", spec := "auditShows", unfollowed := true, recurses := true, apart := false }
def AuditShowsSaid : Prop := auditShowsRow.holds Try.pinned (OpenSpec.ofChange auditShowsSpec)

/-- ITS FALSE NEIGHBOUR: 'it returns false'. Refute it at one input. -/
def auditShowsWrong : ChangeSpec := { name := "auditShows", fn := fun _ => fun
  | [d1, d2, d3] => { results := [.lit (.bool false)], args := [d1, d2, d3] }
  | _ => none }
def AuditShowsWrongFalsely : Prop := auditShowsRow.holds Try.pinned (OpenSpec.ofChange auditShowsWrong)

/-- 'stelelaw14.AuditCollides': WHATEVER THE INPUT: true; the input reads as it did. -/
def auditCollidesSpec : ChangeSpec := { name := "auditCollides", fn := fun _ => fun
  | [d1, d2] => { results := [.lit (.bool true)], args := [d1, d2] }
  | _ => none }
def auditCollidesRow : OpenClaim := { program := "ytlnpmodhejakiaa", sum := "e3c51a1d91d6ae337cebd5658e863c3f68ff206799428585b01399e615aec771", func := "stele/stelelaw14.AuditCollides", spec := "auditCollides", unfollowed := true, recurses := true, apart := false }
def AuditCollidesSaid : Prop := auditCollidesRow.holds Try.pinned (OpenSpec.ofChange auditCollidesSpec)

/-- ITS FALSE NEIGHBOUR: 'it returns false'. Refute it at one input. -/
def auditCollidesWrong : ChangeSpec := { name := "auditCollides", fn := fun _ => fun
  | [d1, d2] => { results := [.lit (.bool false)], args := [d1, d2] }
  | _ => none }
def AuditCollidesWrongFalsely : Prop := auditCollidesRow.holds Try.pinned (OpenSpec.ofChange auditCollidesWrong)

/-- 'stelelaw14.AuditForged': WHATEVER THE INPUT: true; the input reads as it did. -/
def auditForgedSpec : ChangeSpec := { name := "auditForged", fn := fun _ => fun
  | [d1, d2, d3] => { results := [.lit (.bool true)], args := [d1, d2, d3] }
  | _ => none }
def auditForgedRow : OpenClaim := { program := "ytlnpmodhejakiaa", sum := "e3c51a1d91d6ae337cebd5658e863c3f68ff206799428585b01399e615aec771", func := "stele/stelelaw14.AuditForged", spec := "auditForged", unfollowed := true, recurses := true, apart := false }
def AuditForgedSaid : Prop := auditForgedRow.holds Try.pinned (OpenSpec.ofChange auditForgedSpec)

/-- ITS FALSE NEIGHBOUR: 'it returns false'. Refute it at one input. -/
def auditForgedWrong : ChangeSpec := { name := "auditForged", fn := fun _ => fun
  | [d1, d2, d3] => { results := [.lit (.bool false)], args := [d1, d2, d3] }
  | _ => none }
def AuditForgedWrongFalsely : Prop := auditForgedRow.holds Try.pinned (OpenSpec.ofChange auditForgedWrong)

/-- 'stelelaw14.AuditReads': WHATEVER THE INPUT: true; the input reads as it did. -/
def auditReadsSpec : ChangeSpec := { name := "auditReads", fn := fun _ => fun
  | [d] => { results := [.lit (.bool true)], args := [d] }
  | _ => none }
def auditReadsRow : OpenClaim := { program := "ytlnpmodhejakiaa", sum := "e3c51a1d91d6ae337cebd5658e863c3f68ff206799428585b01399e615aec771", func := "stele/stelelaw14.AuditReads", spec := "auditReads", inPlace := ["sync/atomic.LoadUint32", "sync/atomic.StoreUint32"], unfollowed := true, recurses := true, apart := false }
def AuditReadsSaid : Prop := auditReadsRow.holds Try.pinned (OpenSpec.ofChange auditReadsSpec)

/-- ITS FALSE NEIGHBOUR: 'it returns false'. Refute it at one input. -/
def auditReadsWrong : ChangeSpec := { name := "auditReads", fn := fun _ => fun
  | [d] => { results := [.lit (.bool false)], args := [d] }
  | _ => none }
def AuditReadsWrongFalsely : Prop := auditReadsRow.holds Try.pinned (OpenSpec.ofChange auditReadsWrong)

/-- 'stelelaw14.AuditBack': WHATEVER THE INPUT: true; the input reads as it did. -/
def auditBackSpec : ChangeSpec := { name := "auditBack", fn := fun _ => fun
  | [d1, d2] => { results := [.lit (.bool true)], args := [d1, d2] }
  | _ => none }
def auditBackRow : OpenClaim := { program := "ytlnpmodhejakiaa", sum := "e3c51a1d91d6ae337cebd5658e863c3f68ff206799428585b01399e615aec771", func := "stele/stelelaw14.AuditBack", spec := "auditBack", inPlace := ["sync/atomic.LoadUint32", "sync/atomic.StoreUint32"], unfollowed := true, recurses := true, apart := false }
def AuditBackSaid : Prop := auditBackRow.holds Try.pinned (OpenSpec.ofChange auditBackSpec)

/-- ITS FALSE NEIGHBOUR: 'it returns false'. Refute it at one input. -/
def auditBackWrong : ChangeSpec := { name := "auditBack", fn := fun _ => fun
  | [d1, d2] => { results := [.lit (.bool false)], args := [d1, d2] }
  | _ => none }
def AuditBackWrongFalsely : Prop := auditBackRow.holds Try.pinned (OpenSpec.ofChange auditBackWrong)

/-- 'stelelaw19.RecordsReads': WHATEVER THE INPUT: true; the input reads as it did. -/
def recordsReadsSpec : ChangeSpec := { name := "recordsReads", fn := fun _ => fun
  | [d] => { results := [.lit (.bool true)], args := [d] }
  | _ => none }
def recordsReadsRow : OpenClaim := { program := "ytlnpmodhejakiaa", sum := "e3c51a1d91d6ae337cebd5658e863c3f68ff206799428585b01399e615aec771", func := "stele/stelelaw19.RecordsReads", spec := "recordsReads", inPlace := ["sync/atomic.LoadUint32", "sync/atomic.StoreUint32"], apart := false }
def RecordsReadsSaid : Prop := recordsReadsRow.holds Try.pinned (OpenSpec.ofChange recordsReadsSpec)

/-- ITS FALSE NEIGHBOUR: 'it returns false'. Refute it at one input. -/
def recordsReadsWrong : ChangeSpec := { name := "recordsReads", fn := fun _ => fun
  | [d] => { results := [.lit (.bool false)], args := [d] }
  | _ => none }
def RecordsReadsWrongFalsely : Prop := recordsReadsRow.holds Try.pinned (OpenSpec.ofChange recordsReadsWrong)

/-- 'stelelaw19.RecordsShows': WHATEVER THE INPUT: true; the input reads as it did. -/
def recordsShowsSpec : ChangeSpec := { name := "recordsShows", fn := fun _ => fun
  | [d1, d2, d3, d4] => { results := [.lit (.bool true)], args := [d1, d2, d3, d4] }
  | _ => none }
def recordsShowsRow : OpenClaim := { program := "ytlnpmodhejakiaa", sum := "e3c51a1d91d6ae337cebd5658e863c3f68ff206799428585b01399e615aec771", func := "stele/stelelaw19.RecordsShows", spec := "recordsShows", inPlace := ["sync/atomic.LoadUint32", "sync/atomic.StoreUint32"], apart := false }
def RecordsShowsSaid : Prop := recordsShowsRow.holds Try.pinned (OpenSpec.ofChange recordsShowsSpec)

/-- ITS FALSE NEIGHBOUR: 'it returns false'. Refute it at one input. -/
def recordsShowsWrong : ChangeSpec := { name := "recordsShows", fn := fun _ => fun
  | [d1, d2, d3, d4] => { results := [.lit (.bool false)], args := [d1, d2, d3, d4] }
  | _ => none }
def RecordsShowsWrongFalsely : Prop := recordsShowsRow.holds Try.pinned (OpenSpec.ofChange recordsShowsWrong)

/-- 'stelelaw19.RecordsItems': WHATEVER THE INPUT: true; the input reads as it did. -/
def recordsItemsSpec : ChangeSpec := { name := "recordsItems", fn := fun _ => fun
  | [d] => { results := [.lit (.bool true)], args := [d] }
  | _ => none }
def recordsItemsRow : OpenClaim := { program := "ytlnpmodhejakiaa", sum := "e3c51a1d91d6ae337cebd5658e863c3f68ff206799428585b01399e615aec771", func := "stele/stelelaw19.RecordsItems", spec := "recordsItems", inPlace := ["sync/atomic.LoadUint32", "sync/atomic.StoreUint32"], apart := false }
def RecordsItemsSaid : Prop := recordsItemsRow.holds Try.pinned (OpenSpec.ofChange recordsItemsSpec)

/-- ITS FALSE NEIGHBOUR: 'it returns false'. Refute it at one input. -/
def recordsItemsWrong : ChangeSpec := { name := "recordsItems", fn := fun _ => fun
  | [d] => { results := [.lit (.bool false)], args := [d] }
  | _ => none }
def RecordsItemsWrongFalsely : Prop := recordsItemsRow.holds Try.pinned (OpenSpec.ofChange recordsItemsWrong)

/-- 'stelelaw19.RecordsApply': WHATEVER THE INPUT: true; the input reads as it did. -/
def recordsApplySpec : ChangeSpec := { name := "recordsApply", fn := fun _ => fun
  | [d1, d2] => { results := [.lit (.bool true)], args := [d1, d2] }
  | _ => none }
def recordsApplyRow : OpenClaim := { program := "ytlnpmodhejakiaa", sum := "e3c51a1d91d6ae337cebd5658e863c3f68ff206799428585b01399e615aec771", func := "stele/stelelaw19.RecordsApply", spec := "recordsApply", inPlace := ["sync/atomic.LoadUint32", "sync/atomic.StoreUint32"], apart := false }
def RecordsApplySaid : Prop := recordsApplyRow.holds Try.pinned (OpenSpec.ofChange recordsApplySpec)

/-- ITS FALSE NEIGHBOUR: 'it returns false'. Refute it at one input. -/
def recordsApplyWrong : ChangeSpec := { name := "recordsApply", fn := fun _ => fun
  | [d1, d2] => { results := [.lit (.bool false)], args := [d1, d2] }
  | _ => none }
def RecordsApplyWrongFalsely : Prop := recordsApplyRow.holds Try.pinned (OpenSpec.ofChange recordsApplyWrong)

/- THE SECOND FORM. 'bulk': how many values and letters a reading holds, each counted each time it is reached (what is shared counts as often as it is met; a slice's spare places count too). A statement '..UptoSaid' is the law's where the arguments, and the package variables that the reading takes, are together of bulk at most 1048576: NARROWER than '..Said'. Prove '..Said' where nothing that the law and all that it calls make is longer than what came in: it says more and counts as full. Else prove '..UptoSaid'. A law counts once. -/
mutual
def uptoBulk {H : Type} : DataW H → Nat
  | .lit (.string bytes) => bytes.length + 1
  | .lit _ => 1
  | .nil => 1
  | .ptr d => uptoBulk d + 1
  | .slice elems spare => uptoBulkAll elems + uptoBulkAll spare + 1
  | .agg parts => uptoBulkAll parts + 1
  | .iface _ d => uptoBulk d + 1
  | .map entries => uptoBulkEntries entries + 1
  | .held _ => 1
def uptoBulkAll {H : Type} : List (DataW H) → Nat
  | [] => 0
  | d :: r => uptoBulk d + uptoBulkAll r
def uptoBulkEntries {H : Type} : List (Lit × DataW H) → Nat
  | [] => 0
  | x :: r => uptoBulkEntry x + uptoBulkEntries r
def uptoBulkEntry {H : Type} : Lit × DataW H → Nat
  | (.string bytes, d) => bytes.length + uptoBulk d + 1
  | (_, d) => uptoBulk d + 1
 end
def uptoSmall : (H : Type) → List (DataW H) → Bool := fun _ ds => decide (uptoBulkAll ds ≤ 1048576)
def OpenSpec.upto (s : _root_.Go.ChangeSpec) : _root_.Go.OpenSpec := { _root_.Go.OpenSpec.ofChange s with cond := some uptoSmall }

/-- 'stelelaw01.DigestSha1', WHERE WHAT IT READS IS OF BULK AT MOST 1048576: true; the input reads as it did. -/
def digestSha1UptoRow : OpenClaim := { program := "ytlnpmodhejakiaa", sum := "e3c51a1d91d6ae337cebd5658e863c3f68ff206799428585b01399e615aec771", func := "stele/stelelaw01.DigestSha1", spec := "digestSha1", unfollowed := true, recurses := true, apart := false, narrowed := true }
def DigestSha1UptoSaid : Prop := digestSha1UptoRow.holds Try.pinned (OpenSpec.upto digestSha1Spec)

/-- 'stelelaw01.DigestSha256', WHERE WHAT IT READS IS OF BULK AT MOST 1048576: true; the input reads as it did. -/
def digestSha256UptoRow : OpenClaim := { program := "ytlnpmodhejakiaa", sum := "e3c51a1d91d6ae337cebd5658e863c3f68ff206799428585b01399e615aec771", func := "stele/stelelaw01.DigestSha256", spec := "digestSha256", unfollowed := true, recurses := true, apart := false, narrowed := true }
def DigestSha256UptoSaid : Prop := digestSha256UptoRow.holds Try.pinned (OpenSpec.upto digestSha256Spec)

/-- 'stelelaw01.DigestParts', WHERE WHAT IT READS IS OF BULK AT MOST 1048576: true; the input reads as it did. -/
def digestPartsUptoRow : OpenClaim := { program := "ytlnpmodhejakiaa", sum := "e3c51a1d91d6ae337cebd5658e863c3f68ff206799428585b01399e615aec771", func := "stele/stelelaw01.DigestParts", spec := "digestParts", unfollowed := true, recurses := true, apart := false, narrowed := true }
def DigestPartsUptoSaid : Prop := digestPartsUptoRow.holds Try.pinned (OpenSpec.upto digestPartsSpec)

/-- 'stelelaw01.DigestHmac1', WHERE WHAT IT READS IS OF BULK AT MOST 1048576: true; the input reads as it did. -/
def digestHmac1UptoRow : OpenClaim := { program := "ytlnpmodhejakiaa", sum := "e3c51a1d91d6ae337cebd5658e863c3f68ff206799428585b01399e615aec771", func := "stele/stelelaw01.DigestHmac1", spec := "digestHmac1", unfollowed := true, recurses := true, apart := false, narrowed := true }
def DigestHmac1UptoSaid : Prop := digestHmac1UptoRow.holds Try.pinned (OpenSpec.upto digestHmac1Spec)

/-- 'stelelaw01.DigestHmac256', WHERE WHAT IT READS IS OF BULK AT MOST 1048576: true; the input reads as it did. -/
def digestHmac256UptoRow : OpenClaim := { program := "ytlnpmodhejakiaa", sum := "e3c51a1d91d6ae337cebd5658e863c3f68ff206799428585b01399e615aec771", func := "stele/stelelaw01.DigestHmac256", spec := "digestHmac256", unfollowed := true, recurses := true, apart := false, narrowed := true }
def DigestHmac256UptoSaid : Prop := digestHmac256UptoRow.holds Try.pinned (OpenSpec.upto digestHmac256Spec)

/-- 'stelelaw02.CanonTexts', WHERE WHAT IT READS IS OF BULK AT MOST 1048576: true; the input reads as it did. -/
def canonTextsUptoRow : OpenClaim := { program := "ytlnpmodhejakiaa", sum := "e3c51a1d91d6ae337cebd5658e863c3f68ff206799428585b01399e615aec771", func := "stele/stelelaw02.CanonTexts", spec := "canonTexts", inPlace := ["sync/atomic.LoadUint32", "sync/atomic.StoreUint32"], apart := false, narrowed := true }
def CanonTextsUptoSaid : Prop := canonTextsUptoRow.holds Try.pinned (OpenSpec.upto canonTextsSpec)

/-- 'stelelaw02.CanonNumbers', WHERE WHAT IT READS IS OF BULK AT MOST 1048576: true; the input reads as it did. -/
def canonNumbersUptoRow : OpenClaim := { program := "ytlnpmodhejakiaa", sum := "e3c51a1d91d6ae337cebd5658e863c3f68ff206799428585b01399e615aec771", func := "stele/stelelaw02.CanonNumbers", spec := "canonNumbers", inPlace := ["sync/atomic.LoadUint32", "sync/atomic.StoreUint32"], apart := false, narrowed := true }
def CanonNumbersUptoSaid : Prop := canonNumbersUptoRow.holds Try.pinned (OpenSpec.upto canonNumbersSpec)

/-- 'stelelaw02.CanonOne', WHERE WHAT IT READS IS OF BULK AT MOST 1048576: true; the input reads as it did. -/
def canonOneUptoRow : OpenClaim := { program := "ytlnpmodhejakiaa", sum := "e3c51a1d91d6ae337cebd5658e863c3f68ff206799428585b01399e615aec771", func := "stele/stelelaw02.CanonOne", spec := "canonOne", inPlace := ["sync/atomic.LoadUint32", "sync/atomic.StoreUint32"], apart := false, narrowed := true }
def CanonOneUptoSaid : Prop := canonOneUptoRow.holds Try.pinned (OpenSpec.upto canonOneSpec)

/-- 'stelelaw02.CanonReads', WHERE WHAT IT READS IS OF BULK AT MOST 1048576: true; the input reads as it did. -/
def canonReadsUptoRow : OpenClaim := { program := "ytlnpmodhejakiaa", sum := "e3c51a1d91d6ae337cebd5658e863c3f68ff206799428585b01399e615aec771", func := "stele/stelelaw02.CanonReads", spec := "canonReads", inPlace := ["sync/atomic.LoadUint32", "sync/atomic.StoreUint32"], apart := false, narrowed := true }
def CanonReadsUptoSaid : Prop := canonReadsUptoRow.holds Try.pinned (OpenSpec.upto canonReadsSpec)

/-- 'stelelaw02.CanonBack', WHERE WHAT IT READS IS OF BULK AT MOST 1048576: true; the input reads as it did. -/
def canonBackUptoRow : OpenClaim := { program := "ytlnpmodhejakiaa", sum := "e3c51a1d91d6ae337cebd5658e863c3f68ff206799428585b01399e615aec771", func := "stele/stelelaw02.CanonBack", spec := "canonBack", inPlace := ["sync/atomic.LoadUint32", "sync/atomic.StoreUint32"], apart := false, narrowed := true }
def CanonBackUptoSaid : Prop := canonBackUptoRow.holds Try.pinned (OpenSpec.upto canonBackSpec)

/-- 'stelelaw07.TotpSigns', WHERE WHAT IT READS IS OF BULK AT MOST 1048576: true; the input reads as it did. -/
def totpSignsUptoRow : OpenClaim := { program := "ytlnpmodhejakiaa", sum := "e3c51a1d91d6ae337cebd5658e863c3f68ff206799428585b01399e615aec771", func := "stele/stelelaw07.TotpSigns", spec := "totpSigns", inPlace := ["internal/bytealg.IndexByteString", "internal/abi.NoEscape"], apart := false, narrowed := true }
def TotpSignsUptoSaid : Prop := totpSignsUptoRow.holds Try.pinned (OpenSpec.upto totpSignsSpec)

/-- 'stelelaw07.TotpBack', WHERE WHAT IT READS IS OF BULK AT MOST 1048576: true; the input reads as it did. -/
def totpBackUptoRow : OpenClaim := { program := "ytlnpmodhejakiaa", sum := "e3c51a1d91d6ae337cebd5658e863c3f68ff206799428585b01399e615aec771", func := "stele/stelelaw07.TotpBack", spec := "totpBack", inPlace := ["internal/abi.NoEscape", "internal/bytealg.IndexByteString"], apart := false, narrowed := true }
def TotpBackUptoSaid : Prop := totpBackUptoRow.holds Try.pinned (OpenSpec.upto totpBackSpec)

/-- 'stelelaw14.AuditNexts', WHERE WHAT IT READS IS OF BULK AT MOST 1048576: true; the input reads as it did. -/
def auditNextsUptoRow : OpenClaim := { program := "ytlnpmodhejakiaa", sum := "e3c51a1d91d6ae337cebd5658e863c3f68ff206799428585b01399e615aec771", func := "stele/stelelaw14.AuditNexts", spec := "auditNexts", unfollowed := true, recurses := true, apart := false, narrowed := true }
def AuditNextsUptoSaid : Prop := auditNextsUptoRow.holds Try.pinned (OpenSpec.upto auditNextsSpec)

/-- 'stelelaw14.AuditVerifies', WHERE WHAT IT READS IS OF BULK AT MOST 1048576: true; the input reads as it did. -/
def auditVerifiesUptoRow : OpenClaim := { program := "ytlnpmodhejakiaa", sum := "e3c51a1d91d6ae337cebd5658e863c3f68ff206799428585b01399e615aec771", func := "stele/stelelaw14.AuditVerifies", spec := "auditVerifies", unfollowed := true, recurses := true, apart := false, narrowed := true }
def AuditVerifiesUptoSaid : Prop := auditVerifiesUptoRow.holds Try.pinned (OpenSpec.upto auditVerifiesSpec)

/-- 'stelelaw14.AuditChains', WHERE WHAT IT READS IS OF BULK AT MOST 1048576: true; the input reads as it did. -/
def auditChainsUptoRow : OpenClaim := { program := "ytlnpmodhejakiaa", sum := "e3c51a1d91d6ae337cebd5658e863c3f68ff206799428585b01399e615aec771", func := "stele/stelelaw14.AuditChains", spec := "auditChains", unfollowed := true, recurses := true, apart := false, narrowed := true }
def AuditChainsUptoSaid : Prop := auditChainsUptoRow.holds Try.pinned (OpenSpec.upto auditChainsSpec)

/-- 'stelelaw14.AuditEdited', WHERE WHAT IT READS IS OF BULK AT MOST 1048576: true; the input reads as it did. -/
def auditEditedUptoRow : OpenClaim := { program := "ytlnpmodhejakiaa", sum := "e3c51a1d91d6ae337cebd5658e863c3f68ff206799428585b01399e615aec771", func := "stele/stelelaw14.AuditEdited", spec := "auditEdited", unfollowed := true, recurses := true, apart := false, narrowed := true }
def AuditEditedUptoSaid : Prop := auditEditedUptoRow.holds Try.pinned (OpenSpec.upto auditEditedSpec)

/-- 'stelelaw14.AuditShows', WHERE WHAT IT READS IS OF BULK AT MOST 1048576: true; the input reads as it did. -/
def auditShowsUptoRow : OpenClaim := { program := "ytlnpmodhejakiaa", sum := "e3c51a1d91d6ae337cebd5658e863c3f68ff206799428585b01399e615aec771", func := "stele/stelelaw14.AuditShows", spec := "auditShows", unfollowed := true, recurses := true, apart := false, narrowed := true }
def AuditShowsUptoSaid : Prop := auditShowsUptoRow.holds Try.pinned (OpenSpec.upto auditShowsSpec)

/-- 'stelelaw14.AuditCollides', WHERE WHAT IT READS IS OF BULK AT MOST 1048576: true; the input reads as it did. -/
def auditCollidesUptoRow : OpenClaim := { program := "ytlnpmodhejakiaa", sum := "e3c51a1d91d6ae337cebd5658e863c3f68ff206799428585b01399e615aec771", func := "stele/stelelaw14.AuditCollides", spec := "auditCollides", unfollowed := true, recurses := true, apart := false, narrowed := true }
def AuditCollidesUptoSaid : Prop := auditCollidesUptoRow.holds Try.pinned (OpenSpec.upto auditCollidesSpec)

/-- 'stelelaw14.AuditForged', WHERE WHAT IT READS IS OF BULK AT MOST 1048576: true; the input reads as it did. -/
def auditForgedUptoRow : OpenClaim := { program := "ytlnpmodhejakiaa", sum := "e3c51a1d91d6ae337cebd5658e863c3f68ff206799428585b01399e615aec771", func := "stele/stelelaw14.AuditForged", spec := "auditForged", unfollowed := true, recurses := true, apart := false, narrowed := true }
def AuditForgedUptoSaid : Prop := auditForgedUptoRow.holds Try.pinned (OpenSpec.upto auditForgedSpec)

/-- 'stelelaw14.AuditReads', WHERE WHAT IT READS IS OF BULK AT MOST 1048576: true; the input reads as it did. -/
def auditReadsUptoRow : OpenClaim := { program := "ytlnpmodhejakiaa", sum := "e3c51a1d91d6ae337cebd5658e863c3f68ff206799428585b01399e615aec771", func := "stele/stelelaw14.AuditReads", spec := "auditReads", inPlace := ["sync/atomic.LoadUint32", "sync/atomic.StoreUint32"], unfollowed := true, recurses := true, apart := false, narrowed := true }
def AuditReadsUptoSaid : Prop := auditReadsUptoRow.holds Try.pinned (OpenSpec.upto auditReadsSpec)

/-- 'stelelaw14.AuditBack', WHERE WHAT IT READS IS OF BULK AT MOST 1048576: true; the input reads as it did. -/
def auditBackUptoRow : OpenClaim := { program := "ytlnpmodhejakiaa", sum := "e3c51a1d91d6ae337cebd5658e863c3f68ff206799428585b01399e615aec771", func := "stele/stelelaw14.AuditBack", spec := "auditBack", inPlace := ["sync/atomic.LoadUint32", "sync/atomic.StoreUint32"], unfollowed := true, recurses := true, apart := false, narrowed := true }
def AuditBackUptoSaid : Prop := auditBackUptoRow.holds Try.pinned (OpenSpec.upto auditBackSpec)

/-- 'stelelaw19.RecordsReads', WHERE WHAT IT READS IS OF BULK AT MOST 1048576: true; the input reads as it did. -/
def recordsReadsUptoRow : OpenClaim := { program := "ytlnpmodhejakiaa", sum := "e3c51a1d91d6ae337cebd5658e863c3f68ff206799428585b01399e615aec771", func := "stele/stelelaw19.RecordsReads", spec := "recordsReads", inPlace := ["sync/atomic.LoadUint32", "sync/atomic.StoreUint32"], apart := false, narrowed := true }
def RecordsReadsUptoSaid : Prop := recordsReadsUptoRow.holds Try.pinned (OpenSpec.upto recordsReadsSpec)

/-- 'stelelaw19.RecordsShows', WHERE WHAT IT READS IS OF BULK AT MOST 1048576: true; the input reads as it did. -/
def recordsShowsUptoRow : OpenClaim := { program := "ytlnpmodhejakiaa", sum := "e3c51a1d91d6ae337cebd5658e863c3f68ff206799428585b01399e615aec771", func := "stele/stelelaw19.RecordsShows", spec := "recordsShows", inPlace := ["sync/atomic.LoadUint32", "sync/atomic.StoreUint32"], apart := false, narrowed := true }
def RecordsShowsUptoSaid : Prop := recordsShowsUptoRow.holds Try.pinned (OpenSpec.upto recordsShowsSpec)

/-- 'stelelaw19.RecordsItems', WHERE WHAT IT READS IS OF BULK AT MOST 1048576: true; the input reads as it did. -/
def recordsItemsUptoRow : OpenClaim := { program := "ytlnpmodhejakiaa", sum := "e3c51a1d91d6ae337cebd5658e863c3f68ff206799428585b01399e615aec771", func := "stele/stelelaw19.RecordsItems", spec := "recordsItems", inPlace := ["sync/atomic.LoadUint32", "sync/atomic.StoreUint32"], apart := false, narrowed := true }
def RecordsItemsUptoSaid : Prop := recordsItemsUptoRow.holds Try.pinned (OpenSpec.upto recordsItemsSpec)

/-- 'stelelaw19.RecordsApply', WHERE WHAT IT READS IS OF BULK AT MOST 1048576: true; the input reads as it did. -/
def recordsApplyUptoRow : OpenClaim := { program := "ytlnpmodhejakiaa", sum := "e3c51a1d91d6ae337cebd5658e863c3f68ff206799428585b01399e615aec771", func := "stele/stelelaw19.RecordsApply", spec := "recordsApply", inPlace := ["sync/atomic.LoadUint32", "sync/atomic.StoreUint32"], apart := false, narrowed := true }
def RecordsApplyUptoSaid : Prop := recordsApplyUptoRow.holds Try.pinned (OpenSpec.upto recordsApplySpec)

end Rows
end Go.Proofs.Ytlnpmodhejakiaa
