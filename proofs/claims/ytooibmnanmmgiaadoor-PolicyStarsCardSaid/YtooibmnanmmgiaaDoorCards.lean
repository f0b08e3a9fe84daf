/-
  DERIVED. GIVEN WITH THE SEED: THE CARDS: each row of YtooibmnanmmgiaaDoorRows.lean that lists a variable, with what it lists TIED to the program's text (the seventh form; the later family's looks); each row that meets fmt, with fmt's text TOLD by the authors' own Lean function (tested against real Go, not proved from fmt's source: count such statements apart). THE CARD IS WHAT COUNTS. Prove the row's statement (the work); the ties are given (YtooibmnanmmgiaaDoorTie.lean); close each card by the builder's one call (the guide's Derived/Test/ToyasCard.lean, 'card_holds'). Laid BY PROGRAM, IN A SANDBOX (cutbox-door.mjs). By AI agents, Wed Nov 11 2026. No macro, syntax, notation, axiom, sorry.
-/
import Derived.Test.YtooibmnanmmgiaaDoorRows
import GoSem.ClaimSeven
namespace Go.Proofs.YtooibmnanmmgiaaDoor
namespace Rows

/-- THE TIED CARD OF 'stelelaw08.PolicyMatches'. -/
def policyMatchesCard : Claim7 := { stood := { row := policyMatchesRow, standIns := [], harness := (true, "c59f68be8d326e8d2e462dd67df76d27dab6217cf19d4305cdfaed0e5d08f5a9"), looks := false }, kinds := [], alts := [], laidByText := true, laidKinds := [.data, .pinned], laidTests := true, laidLooks := .later }
def PolicyMatchesCardSaid : Prop := Claim7.holds Tryd.pinned (.plain (OpenSpec.ofChange policyMatchesSpec)) policyMatchesCard

/-- THE TIED CARD OF 'stelelaw08.PolicyDecides'. -/
def policyDecidesCard : Claim7 := { stood := { row := policyDecidesRow, standIns := [], harness := (true, "c59f68be8d326e8d2e462dd67df76d27dab6217cf19d4305cdfaed0e5d08f5a9"), looks := false }, kinds := [], alts := [], laidByText := true, laidKinds := [.data, .pinned], laidTests := true, laidLooks := .later }
def PolicyDecidesCardSaid : Prop := Claim7.holds Tryd.pinned (.plain (OpenSpec.ofChange policyDecidesSpec)) policyDecidesCard

/-- THE TIED CARD OF 'stelelaw08.PolicyStars'. -/
def policyStarsCard : Claim7 := { stood := { row := policyStarsRow, standIns := [], harness := (true, "c59f68be8d326e8d2e462dd67df76d27dab6217cf19d4305cdfaed0e5d08f5a9"), looks := false }, kinds := [], alts := [], laidByText := true, laidKinds := [.data, .pinned], laidTests := true, laidLooks := .later }
def PolicyStarsCardSaid : Prop := Claim7.holds Tryd.pinned (.plain (OpenSpec.ofChange policyStarsSpec)) policyStarsCard

/-- THE TIED CARD OF 'stelelaw08.PolicyOrder'. -/
def policyOrderCard : Claim7 := { stood := { row := policyOrderRow, standIns := [], harness := (true, "c59f68be8d326e8d2e462dd67df76d27dab6217cf19d4305cdfaed0e5d08f5a9"), looks := false }, kinds := [], alts := [], laidByText := true, laidKinds := [.data, .pinned], laidTests := true, laidLooks := .later }
def PolicyOrderCardSaid : Prop := Claim7.holds Tryd.pinned (.plain (OpenSpec.ofChange policyOrderSpec)) policyOrderCard

/-- THE TIED CARD OF 'stelelaw08.PolicyBack'. -/
def policyBackCard : Claim7 := { stood := { row := policyBackRow, standIns := [], harness := (true, "c59f68be8d326e8d2e462dd67df76d27dab6217cf19d4305cdfaed0e5d08f5a9"), looks := false }, kinds := [], alts := [], laidByText := true, laidKinds := [.data, .pinned], laidTests := true, laidLooks := .later }
def PolicyBackCardSaid : Prop := Claim7.holds Tryd.pinned (.plain (OpenSpec.ofChange policyBackSpec)) policyBackCard

/-- THE TIED CARD OF 'stelelaw08.PolicyParses'. -/
def policyParsesCard : Claim7 := { stood := { row := policyParsesRow, standIns := [], harness := (true, "c59f68be8d326e8d2e462dd67df76d27dab6217cf19d4305cdfaed0e5d08f5a9"), looks := false }, kinds := [], alts := [], laidByText := true, laidKinds := [.data, .listed, .data, .pinned], laidTests := true, laidLooks := .later }
def PolicyParsesCardSaid : Prop := Claim7.holds Tryd.pinned (.plain (OpenSpec.ofChange policyParsesSpec)) policyParsesCard

/-- THE SECOND FORM's CARD OF 'stelelaw08.PolicyMatches'. -/
def policyMatchesUptoCard : Claim7 := { stood := { row := policyMatchesUptoRow, standIns := [], harness := (true, "c59f68be8d326e8d2e462dd67df76d27dab6217cf19d4305cdfaed0e5d08f5a9"), looks := false }, kinds := [], alts := [], laidByText := true, laidKinds := [.data, .pinned], laidTests := true, laidLooks := .later }
def PolicyMatchesUptoCardSaid : Prop := Claim7.holds Tryd.pinned (.plain (OpenSpec.upto policyMatchesSpec)) policyMatchesUptoCard

/-- THE SECOND FORM's CARD OF 'stelelaw08.PolicyDecides'. -/
def policyDecidesUptoCard : Claim7 := { stood := { row := policyDecidesUptoRow, standIns := [], harness := (true, "c59f68be8d326e8d2e462dd67df76d27dab6217cf19d4305cdfaed0e5d08f5a9"), looks := false }, kinds := [], alts := [], laidByText := true, laidKinds := [.data, .pinned], laidTests := true, laidLooks := .later }
def PolicyDecidesUptoCardSaid : Prop := Claim7.holds Tryd.pinned (.plain (OpenSpec.upto policyDecidesSpec)) policyDecidesUptoCard

/-- THE SECOND FORM's CARD OF 'stelelaw08.PolicyStars'. -/
def policyStarsUptoCard : Claim7 := { stood := { row := policyStarsUptoRow, standIns := [], harness := (true, "c59f68be8d326e8d2e462dd67df76d27dab6217cf19d4305cdfaed0e5d08f5a9"), looks := false }, kinds := [], alts := [], laidByText := true, laidKinds := [.data, .pinned], laidTests := true, laidLooks := .later }
def PolicyStarsUptoCardSaid : Prop := Claim7.holds Tryd.pinned (.plain (OpenSpec.upto policyStarsSpec)) policyStarsUptoCard

/-- THE SECOND FORM's CARD OF 'stelelaw08.PolicyOrder'. -/
def policyOrderUptoCard : Claim7 := { stood := { row := policyOrderUptoRow, standIns := [], harness := (true, "c59f68be8d326e8d2e462dd67df76d27dab6217cf19d4305cdfaed0e5d08f5a9"), looks := false }, kinds := [], alts := [], laidByText := true, laidKinds := [.data, .pinned], laidTests := true, laidLooks := .later }
def PolicyOrderUptoCardSaid : Prop := Claim7.holds Tryd.pinned (.plain (OpenSpec.upto policyOrderSpec)) policyOrderUptoCard

/-- THE SECOND FORM's CARD OF 'stelelaw08.PolicyBack'. -/
def policyBackUptoCard : Claim7 := { stood := { row := policyBackUptoRow, standIns := [], harness := (true, "c59f68be8d326e8d2e462dd67df76d27dab6217cf19d4305cdfaed0e5d08f5a9"), looks := false }, kinds := [], alts := [], laidByText := true, laidKinds := [.data, .pinned], laidTests := true, laidLooks := .later }
def PolicyBackUptoCardSaid : Prop := Claim7.holds Tryd.pinned (.plain (OpenSpec.upto policyBackSpec)) policyBackUptoCard

/-- THE SECOND FORM's CARD OF 'stelelaw08.PolicyParses'. -/
def policyParsesUptoCard : Claim7 := { stood := { row := policyParsesUptoRow, standIns := [], harness := (true, "c59f68be8d326e8d2e462dd67df76d27dab6217cf19d4305cdfaed0e5d08f5a9"), looks := false }, kinds := [], alts := [], laidByText := true, laidKinds := [.data, .listed, .data, .pinned], laidTests := true, laidLooks := .later }
def PolicyParsesUptoCardSaid : Prop := Claim7.holds Tryd.pinned (.plain (OpenSpec.upto policyParsesSpec)) policyParsesUptoCard
end Rows
end Go.Proofs.YtooibmnanmmgiaaDoor
