/-
  No cell of these rows narrows 'for every input' (looked for: loops, veiled, ifaces, maps, wideKeys, modest, calm, conditions, laid).
  DERIVED. THE GIVEN ROWS OF THIS SEAT. 7 by the template 'for every input the law returns true; each argument reads behind the call as it read before'; 0 by the template 'total and deterministic' (their statements: YtbdmpeekhlmebaaTotals.lean).
  GIVEN WITH THE SEED: the statements are not yours to turn. If you find one false, say at which input.
  Laid BY PROGRAM, IN A SANDBOX (cutbox-rows.mjs): the forced cells as the released guide's own fill.sh prints them over the translation dc1cac90e0dfe8f7… (all of the seat's roots in one cut). By AI agents, Wed Nov 11 2026. No macro, syntax, notation, axiom, sorry.
-/
import Derived.Test.YtbdmpeekhlmebaaChecked
import GoSem.Claim
import GoSem.ClaimJoined
import GoSem.ClaimMapViews
import Derived.JoinedTies
import Derived.KernelRfl
namespace Go.Proofs.Ytbdmpeekhlmebaa
/- THE CELL 'sum', in the pinned program and in every row, IS THE sha256 OF THE DUMP (.gsa) THAT YtbdmpeekhlmebaaProg.lean LOADS. Nothing in Lean hashes anything: it is a label: what it is worth is what the hold of that sum in a sandbox is worth. -/
noncomputable def Try.pinned : Pinned := { name := "ytbdmpeekhlmebaa", sum := "dc1cac90e0dfe8f7bb9d1d91bc41d7d0700964462cf5eb89e893f6dfa5dff089", checked := Try.checked }
namespace Rows
def none {H : Type} : Left H := { results := [], args := [] }

/-- 'stelelaw15.LockWords': WHATEVER THE INPUT: true; the input reads as it did. -/
def lockWordsSpec : ChangeSpec := { name := "lockWords", fn := fun _ => fun
  | [d1, d2, d3] => { results := [.lit (.bool true)], args := [d1, d2, d3] }
  | _ => none }
def lockWordsRow : OpenClaim := { program := "ytbdmpeekhlmebaa", sum := "dc1cac90e0dfe8f7bb9d1d91bc41d7d0700964462cf5eb89e893f6dfa5dff089", func := "stele/stelelaw15.LockWords", spec := "lockWords", apart := false }
def LockWordsSaid : Prop := lockWordsRow.holds Try.pinned (OpenSpec.ofChange lockWordsSpec)

/-- ITS FALSE NEIGHBOUR: 'it returns false'. Refute it at one input. -/
def lockWordsWrong : ChangeSpec := { name := "lockWords", fn := fun _ => fun
  | [d1, d2, d3] => { results := [.lit (.bool false)], args := [d1, d2, d3] }
  | _ => none }
def LockWordsWrongFalsely : Prop := lockWordsRow.holds Try.pinned (OpenSpec.ofChange lockWordsWrong)

/-- 'stelelaw15.LockSets': WHATEVER THE INPUT: true; the input reads as it did. -/
def lockSetsSpec : ChangeSpec := { name := "lockSets", fn := fun _ => fun
  | [d1, d2, d3, d4] => { results := [.lit (.bool true)], args := [d1, d2, d3, d4] }
  | _ => none }
def lockSetsRow : OpenClaim := { program := "ytbdmpeekhlmebaa", sum := "dc1cac90e0dfe8f7bb9d1d91bc41d7d0700964462cf5eb89e893f6dfa5dff089", func := "stele/stelelaw15.LockSets", spec := "lockSets", apart := false }
def LockSetsSaid : Prop := lockSetsRow.holds Try.pinned (OpenSpec.ofChange lockSetsSpec)

/-- ITS FALSE NEIGHBOUR: 'it returns false'. Refute it at one input. -/
def lockSetsWrong : ChangeSpec := { name := "lockSets", fn := fun _ => fun
  | [d1, d2, d3, d4] => { results := [.lit (.bool false)], args := [d1, d2, d3, d4] }
  | _ => none }
def LockSetsWrongFalsely : Prop := lockSetsRow.holds Try.pinned (OpenSpec.ofChange lockSetsWrong)

/-- 'stelelaw15.LockOrder': WHATEVER THE INPUT: true; the input reads as it did. -/
def lockOrderSpec : ChangeSpec := { name := "lockOrder", fn := fun _ => fun
  | [d1, d2, d3] => { results := [.lit (.bool true)], args := [d1, d2, d3] }
  | _ => none }
def lockOrderRow : OpenClaim := { program := "ytbdmpeekhlmebaa", sum := "dc1cac90e0dfe8f7bb9d1d91bc41d7d0700964462cf5eb89e893f6dfa5dff089", func := "stele/stelelaw15.LockOrder", spec := "lockOrder", apart := false }
def LockOrderSaid : Prop := lockOrderRow.holds Try.pinned (OpenSpec.ofChange lockOrderSpec)

/-- ITS FALSE NEIGHBOUR: 'it returns false'. Refute it at one input. -/
def lockOrderWrong : ChangeSpec := { name := "lockOrder", fn := fun _ => fun
  | [d1, d2, d3] => { results := [.lit (.bool false)], args := [d1, d2, d3] }
  | _ => none }
def LockOrderWrongFalsely : Prop := lockOrderRow.holds Try.pinned (OpenSpec.ofChange lockOrderWrong)

/-- 'stelelaw15.LockDeletes': WHATEVER THE INPUT: true; the input reads as it did. -/
def lockDeletesSpec : ChangeSpec := { name := "lockDeletes", fn := fun _ => fun
  | [d1, d2, d3] => { results := [.lit (.bool true)], args := [d1, d2, d3] }
  | _ => none }
def lockDeletesRow : OpenClaim := { program := "ytbdmpeekhlmebaa", sum := "dc1cac90e0dfe8f7bb9d1d91bc41d7d0700964462cf5eb89e893f6dfa5dff089", func := "stele/stelelaw15.LockDeletes", spec := "lockDeletes", apart := false }
def LockDeletesSaid : Prop := lockDeletesRow.holds Try.pinned (OpenSpec.ofChange lockDeletesSpec)

/-- ITS FALSE NEIGHBOUR: 'it returns false'. Refute it at one input. -/
def lockDeletesWrong : ChangeSpec := { name := "lockDeletes", fn := fun _ => fun
  | [d1, d2, d3] => { results := [.lit (.bool false)], args := [d1, d2, d3] }
  | _ => none }
def LockDeletesWrongFalsely : Prop := lockDeletesRow.holds Try.pinned (OpenSpec.ofChange lockDeletesWrong)

/-- 'stelelaw15.LockStands': WHATEVER THE INPUT: true; the input reads as it did. -/
def lockStandsSpec : ChangeSpec := { name := "lockStands", fn := fun _ => fun
  | [d1, d2, d3] => { results := [.lit (.bool true)], args := [d1, d2, d3] }
  | _ => none }
def lockStandsRow : OpenClaim := { program := "ytbdmpeekhlmebaa", sum := "dc1cac90e0dfe8f7bb9d1d91bc41d7d0700964462cf5eb89e893f6dfa5dff089", func := "stele/stelelaw15.LockStands", spec := "lockStands", apart := false }
def LockStandsSaid : Prop := lockStandsRow.holds Try.pinned (OpenSpec.ofChange lockStandsSpec)

/-- ITS FALSE NEIGHBOUR: 'it returns false'. Refute it at one input. -/
def lockStandsWrong : ChangeSpec := { name := "lockStands", fn := fun _ => fun
  | [d1, d2, d3] => { results := [.lit (.bool false)], args := [d1, d2, d3] }
  | _ => none }
def LockStandsWrongFalsely : Prop := lockStandsRow.holds Try.pinned (OpenSpec.ofChange lockStandsWrong)

/-- 'stelelaw15.LockHolds': WHATEVER THE INPUT: true; the input reads as it did. -/
def lockHoldsSpec : ChangeSpec := { name := "lockHolds", fn := fun _ => fun
  | [d1, d2, d3] => { results := [.lit (.bool true)], args := [d1, d2, d3] }
  | _ => none }
def lockHoldsRow : OpenClaim := { program := "ytbdmpeekhlmebaa", sum := "dc1cac90e0dfe8f7bb9d1d91bc41d7d0700964462cf5eb89e893f6dfa5dff089", func := "stele/stelelaw15.LockHolds", spec := "lockHolds", apart := false }
def LockHoldsSaid : Prop := lockHoldsRow.holds Try.pinned (OpenSpec.ofChange lockHoldsSpec)

/-- ITS FALSE NEIGHBOUR: 'it returns false'. Refute it at one input. -/
def lockHoldsWrong : ChangeSpec := { name := "lockHolds", fn := fun _ => fun
  | [d1, d2, d3] => { results := [.lit (.bool false)], args := [d1, d2, d3] }
  | _ => none }
def LockHoldsWrongFalsely : Prop := lockHoldsRow.holds Try.pinned (OpenSpec.ofChange lockHoldsWrong)

/-- 'stelelaw15.LockDefaults': WHATEVER THE INPUT: true; the input reads as it did. -/
def lockDefaultsSpec : ChangeSpec := { name := "lockDefaults", fn := fun _ => fun
  | [d1, d2] => { results := [.lit (.bool true)], args := [d1, d2] }
  | _ => none }
def lockDefaultsRow : OpenClaim := { program := "ytbdmpeekhlmebaa", sum := "dc1cac90e0dfe8f7bb9d1d91bc41d7d0700964462cf5eb89e893f6dfa5dff089", func := "stele/stelelaw15.LockDefaults", spec := "lockDefaults", apart := false }
def LockDefaultsSaid : Prop := lockDefaultsRow.holds Try.pinned (OpenSpec.ofChange lockDefaultsSpec)

/-- ITS FALSE NEIGHBOUR: 'it returns false'. Refute it at one input. -/
def lockDefaultsWrong : ChangeSpec := { name := "lockDefaults", fn := fun _ => fun
  | [d1, d2] => { results := [.lit (.bool false)], args := [d1, d2] }
  | _ => none }
def LockDefaultsWrongFalsely : Prop := lockDefaultsRow.holds Try.pinned (OpenSpec.ofChange lockDefaultsWrong)

/- THE SECOND FORM. 'bulk': how many values and letters a reading holds, each counted each time it is reached (what is shared counts as often as it is met; a slice's spare places count too). A statement '..UptoSaid' is the law's where the arguments, and the package variables that the reading takes, are together of bulk at most 1048576: NARROWER than '..Said'. Prove '..Said' where nothing that the law and all that it calls make is longer than what came in: it says more and counts as full. Else prove '..UptoSaid'. A law counts once. -/
mutual
def uptoBulk {H : Type} : DataW H → Nat
  | .lit (.string bytes) => bytes.length + 1
  | .lit _ => 1
  | .nil => 1
  | .ptr d => uptoBulk d + 1
  | .slice elems spare => uptoBulkAll elems + uptoBulkAll spare + 1
  | .agg parts => uptoBulkAll parts + 1
  | .iface _ d => uptoBulk d + 1
  | .map entries => uptoBulkEntries entries + 1
  | .held _ => 1
def uptoBulkAll {H : Type} : List (DataW H) → Nat
  | [] => 0
  | d :: r => uptoBulk d + uptoBulkAll r
def uptoBulkEntries {H : Type} : List (Lit × DataW H) → Nat
  | [] => 0
  | x :: r => uptoBulkEntry x + uptoBulkEntries r
def uptoBulkEntry {H : Type} : Lit × DataW H → Nat
  | (.string bytes, d) => bytes.length + uptoBulk d + 1
  | (_, d) => uptoBulk d + 1
 end
def uptoSmall : (H : Type) → List (DataW H) → Bool := fun _ ds => decide (uptoBulkAll ds ≤ 1048576)
def OpenSpec.upto (s : _root_.Go.ChangeSpec) : _root_.Go.OpenSpec := { _root_.Go.OpenSpec.ofChange s with cond := some uptoSmall }

/-- 'stelelaw15.LockWords', WHERE WHAT IT READS IS OF BULK AT MOST 1048576: true; the input reads as it did. -/
def lockWordsUptoRow : OpenClaim := { program := "ytbdmpeekhlmebaa", sum := "dc1cac90e0dfe8f7bb9d1d91bc41d7d0700964462cf5eb89e893f6dfa5dff089", func := "stele/stelelaw15.LockWords", spec := "lockWords", apart := false, narrowed := true }
def LockWordsUptoSaid : Prop := lockWordsUptoRow.holds Try.pinned (OpenSpec.upto lockWordsSpec)

/-- 'stelelaw15.LockSets', WHERE WHAT IT READS IS OF BULK AT MOST 1048576: true; the input reads as it did. -/
def lockSetsUptoRow : OpenClaim := { program := "ytbdmpeekhlmebaa", sum := "dc1cac90e0dfe8f7bb9d1d91bc41d7d0700964462cf5eb89e893f6dfa5dff089", func := "stele/stelelaw15.LockSets", spec := "lockSets", apart := false, narrowed := true }
def LockSetsUptoSaid : Prop := lockSetsUptoRow.holds Try.pinned (OpenSpec.upto lockSetsSpec)

/-- 'stelelaw15.LockOrder', WHERE WHAT IT READS IS OF BULK AT MOST 1048576: true; the input reads as it did. -/
def lockOrderUptoRow : OpenClaim := { program := "ytbdmpeekhlmebaa", sum := "dc1cac90e0dfe8f7bb9d1d91bc41d7d0700964462cf5eb89e893f6dfa5dff089", func := "stele/stelelaw15.LockOrder", spec := "lockOrder", apart := false, narrowed := true }
def LockOrderUptoSaid : Prop := lockOrderUptoRow.holds Try.pinned (OpenSpec.upto lockOrderSpec)

/-- 'stelelaw15.LockDeletes', WHERE WHAT IT READS IS OF BULK AT MOST 1048576: true; the input reads as it did. -/
def lockDeletesUptoRow : OpenClaim := { program := "ytbdmpeekhlmebaa", sum := "dc1cac90e0dfe8f7bb9d1d91bc41d7d0700964462cf5eb89e893f6dfa5dff089", func := "stele/stelelaw15.LockDeletes", spec := "lockDeletes", apart := false, narrowed := true }
def LockDeletesUptoSaid : Prop := lockDeletesUptoRow.holds Try.pinned (OpenSpec.upto lockDeletesSpec)

/-- 'stelelaw15.LockStands', WHERE WHAT IT READS IS OF BULK AT MOST 1048576: true; the input reads as it did. -/
def lockStandsUptoRow : OpenClaim := { program := "ytbdmpeekhlmebaa", sum := "dc1cac90e0dfe8f7bb9d1d91bc41d7d0700964462cf5eb89e893f6dfa5dff089", func := "stele/stelelaw15.LockStands", spec := "lockStands", apart := false, narrowed := true }
def LockStandsUptoSaid : Prop := lockStandsUptoRow.holds Try.pinned (OpenSpec.upto lockStandsSpec)

/-- 'stelelaw15.LockHolds', WHERE WHAT IT READS IS OF BULK AT MOST 1048576: true; the input reads as it did. -/
def lockHoldsUptoRow : OpenClaim := { program := "ytbdmpeekhlmebaa", sum := "dc1cac90e0dfe8f7bb9d1d91bc41d7d0700964462cf5eb89e893f6dfa5dff089", func := "stele/stelelaw15.LockHolds", spec := "lockHolds", apart := false, narrowed := true }
def LockHoldsUptoSaid : Prop := lockHoldsUptoRow.holds Try.pinned (OpenSpec.upto lockHoldsSpec)

/-- 'stelelaw15.LockDefaults', WHERE WHAT IT READS IS OF BULK AT MOST 1048576: true; the input reads as it did. -/
def lockDefaultsUptoRow : OpenClaim := { program := "ytbdmpeekhlmebaa", sum := "dc1cac90e0dfe8f7bb9d1d91bc41d7d0700964462cf5eb89e893f6dfa5dff089", func := "stele/stelelaw15.LockDefaults", spec := "lockDefaults", apart := false, narrowed := true }
def LockDefaultsUptoSaid : Prop := lockDefaultsUptoRow.holds Try.pinned (OpenSpec.upto lockDefaultsSpec)

end Rows
end Go.Proofs.Ytbdmpeekhlmebaa
