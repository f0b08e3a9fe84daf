/-
  No cell of these rows narrows 'for every input' (looked for: loops, veiled, ifaces, maps, wideKeys, modest, calm, conditions, laid).
  DERIVED. THE GIVEN ROWS OF THIS SEAT. 3 by the template 'for every input the law returns true; each argument reads behind the call as it read before'; 0 by the template 'total and deterministic' (their statements: YtioncemogbjklaaTotals.lean).
  GIVEN WITH THE SEED: the statements are not yours to turn. If you find one false, say at which input.
  Laid BY PROGRAM, IN A SANDBOX (cutbox-rows.mjs): the forced cells as the released guide's own fill.sh prints them over the translation c98e44621628b679… (all of the seat's roots in one cut). By AI agents, Wed Nov 11 2026. No macro, syntax, notation, axiom, sorry.
-/
import Derived.Test.YtioncemogbjklaaChecked
import GoSem.Claim
import GoSem.ClaimJoined
import GoSem.ClaimMapViews
import Derived.JoinedTies
import Derived.KernelRfl
namespace Go.Proofs.Ytioncemogbjklaa
/- THE CELL 'sum', in the pinned program and in every row, IS THE sha256 OF THE DUMP (.gsa) THAT YtioncemogbjklaaProg.lean LOADS. Nothing in Lean hashes anything: it is a label: what it is worth is what the hold of that sum in a sandbox is worth. -/
noncomputable def Try.pinned : Pinned := { name := "ytioncemogbjklaa", sum := "c98e44621628b67975e9856f1d0e077fa25f48c77f336dec5701f489a3dab75a", checked := Try.checked }
namespace Rows
def none {H : Type} : Left H := { results := [], args := [] }

/-- 'stelelaw17.ExpiryLatest': WHATEVER THE INPUT: true; the input reads as it did. -/
def expiryLatestSpec : ChangeSpec := { name := "expiryLatest", fn := fun _ => fun
  | [d1, d2, d3] => { results := [.lit (.bool true)], args := [d1, d2, d3] }
  | _ => none }
def expiryLatestRow : OpenClaim := { program := "ytioncemogbjklaa", sum := "c98e44621628b67975e9856f1d0e077fa25f48c77f336dec5701f489a3dab75a", func := "stele/stelelaw17.ExpiryLatest", spec := "expiryLatest", unfollowed := true, recurses := true, plainKeys := false, apart := false }
def ExpiryLatestSaid : Prop := expiryLatestRow.holds Try.pinned (OpenSpec.ofChange expiryLatestSpec)

/-- ITS FALSE NEIGHBOUR: 'it returns false'. Refute it at one input. -/
def expiryLatestWrong : ChangeSpec := { name := "expiryLatest", fn := fun _ => fun
  | [d1, d2, d3] => { results := [.lit (.bool false)], args := [d1, d2, d3] }
  | _ => none }
def ExpiryLatestWrongFalsely : Prop := expiryLatestRow.holds Try.pinned (OpenSpec.ofChange expiryLatestWrong)

/-- 'stelelaw17.ExpiryDue': WHATEVER THE INPUT: true; the input reads as it did. -/
def expiryDueSpec : ChangeSpec := { name := "expiryDue", fn := fun _ => fun
  | [d1, d2, d3] => { results := [.lit (.bool true)], args := [d1, d2, d3] }
  | _ => none }
def expiryDueRow : OpenClaim := { program := "ytioncemogbjklaa", sum := "c98e44621628b67975e9856f1d0e077fa25f48c77f336dec5701f489a3dab75a", func := "stele/stelelaw17.ExpiryDue", spec := "expiryDue", unfollowed := true, recurses := true, plainKeys := false, apart := false }
def ExpiryDueSaid : Prop := expiryDueRow.holds Try.pinned (OpenSpec.ofChange expiryDueSpec)

/-- ITS FALSE NEIGHBOUR: 'it returns false'. Refute it at one input. -/
def expiryDueWrong : ChangeSpec := { name := "expiryDue", fn := fun _ => fun
  | [d1, d2, d3] => { results := [.lit (.bool false)], args := [d1, d2, d3] }
  | _ => none }
def ExpiryDueWrongFalsely : Prop := expiryDueRow.holds Try.pinned (OpenSpec.ofChange expiryDueWrong)

/-- 'stelelaw17.ExpiryStands': WHATEVER THE INPUT: true; the input reads as it did. -/
def expiryStandsSpec : ChangeSpec := { name := "expiryStands", fn := fun _ => fun
  | [d1, d2, d3, d4] => { results := [.lit (.bool true)], args := [d1, d2, d3, d4] }
  | _ => none }
def expiryStandsRow : OpenClaim := { program := "ytioncemogbjklaa", sum := "c98e44621628b67975e9856f1d0e077fa25f48c77f336dec5701f489a3dab75a", func := "stele/stelelaw17.ExpiryStands", spec := "expiryStands", unfollowed := true, recurses := true, plainKeys := false, apart := false }
def ExpiryStandsSaid : Prop := expiryStandsRow.holds Try.pinned (OpenSpec.ofChange expiryStandsSpec)

/-- ITS FALSE NEIGHBOUR: 'it returns false'. Refute it at one input. -/
def expiryStandsWrong : ChangeSpec := { name := "expiryStands", fn := fun _ => fun
  | [d1, d2, d3, d4] => { results := [.lit (.bool false)], args := [d1, d2, d3, d4] }
  | _ => none }
def ExpiryStandsWrongFalsely : Prop := expiryStandsRow.holds Try.pinned (OpenSpec.ofChange expiryStandsWrong)

/- THE SECOND FORM. 'bulk': how many values and letters a reading holds, each counted each time it is reached (what is shared counts as often as it is met; a slice's spare places count too). A statement '..UptoSaid' is the law's where the arguments, and the package variables that the reading takes, are together of bulk at most 1048576: NARROWER than '..Said'. Prove '..Said' where nothing that the law and all that it calls make is longer than what came in: it says more and counts as full. Else prove '..UptoSaid'. A law counts once. -/
mutual
def uptoBulk {H : Type} : DataW H → Nat
  | .lit (.string bytes) => bytes.length + 1
  | .lit _ => 1
  | .nil => 1
  | .ptr d => uptoBulk d + 1
  | .slice elems spare => uptoBulkAll elems + uptoBulkAll spare + 1
  | .agg parts => uptoBulkAll parts + 1
  | .iface _ d => uptoBulk d + 1
  | .map entries => uptoBulkEntries entries + 1
  | .held _ => 1
def uptoBulkAll {H : Type} : List (DataW H) → Nat
  | [] => 0
  | d :: r => uptoBulk d + uptoBulkAll r
def uptoBulkEntries {H : Type} : List (Lit × DataW H) → Nat
  | [] => 0
  | x :: r => uptoBulkEntry x + uptoBulkEntries r
def uptoBulkEntry {H : Type} : Lit × DataW H → Nat
  | (.string bytes, d) => bytes.length + uptoBulk d + 1
  | (_, d) => uptoBulk d + 1
 end
def uptoSmall : (H : Type) → List (DataW H) → Bool := fun _ ds => decide (uptoBulkAll ds ≤ 1048576)
def OpenSpec.upto (s : _root_.Go.ChangeSpec) : _root_.Go.OpenSpec := { _root_.Go.OpenSpec.ofChange s with cond := some uptoSmall }

/-- 'stelelaw17.ExpiryLatest', WHERE WHAT IT READS IS OF BULK AT MOST 1048576: true; the input reads as it did. -/
def expiryLatestUptoRow : OpenClaim := { program := "ytioncemogbjklaa", sum := "c98e44621628b67975e9856f1d0e077fa25f48c77f336dec5701f489a3dab75a", func := "stele/stelelaw17.ExpiryLatest", spec := "expiryLatest", unfollowed := true, recurses := true, plainKeys := false, apart := false, narrowed := true }
def ExpiryLatestUptoSaid : Prop := expiryLatestUptoRow.holds Try.pinned (OpenSpec.upto expiryLatestSpec)

/-- 'stelelaw17.ExpiryDue', WHERE WHAT IT READS IS OF BULK AT MOST 1048576: true; the input reads as it did. -/
def expiryDueUptoRow : OpenClaim := { program := "ytioncemogbjklaa", sum := "c98e44621628b67975e9856f1d0e077fa25f48c77f336dec5701f489a3dab75a", func := "stele/stelelaw17.ExpiryDue", spec := "expiryDue", unfollowed := true, recurses := true, plainKeys := false, apart := false, narrowed := true }
def ExpiryDueUptoSaid : Prop := expiryDueUptoRow.holds Try.pinned (OpenSpec.upto expiryDueSpec)

/-- 'stelelaw17.ExpiryStands', WHERE WHAT IT READS IS OF BULK AT MOST 1048576: true; the input reads as it did. -/
def expiryStandsUptoRow : OpenClaim := { program := "ytioncemogbjklaa", sum := "c98e44621628b67975e9856f1d0e077fa25f48c77f336dec5701f489a3dab75a", func := "stele/stelelaw17.ExpiryStands", spec := "expiryStands", unfollowed := true, recurses := true, plainKeys := false, apart := false, narrowed := true }
def ExpiryStandsUptoSaid : Prop := expiryStandsUptoRow.holds Try.pinned (OpenSpec.upto expiryStandsSpec)

end Rows
end Go.Proofs.Ytioncemogbjklaa
