/-
  DERIVED. GIVEN WITH THE SEED: THE CARDS: each row of YtjdklngopfpjgaaGreatDoorRows.lean that lists a variable, with what it lists TIED to the program's text (the seventh form; the later family's looks); each row that meets fmt, with fmt's text TOLD by the authors' own Lean function (tested against real Go, not proved from fmt's source: count such statements apart). THE CARD IS WHAT COUNTS. Prove the row's statement (the work); the ties are given (YtjdklngopfpjgaaGreatDoorTie.lean); close each card by the builder's one call (the guide's Derived/Test/ToyasCard.lean, 'card_holds'). Laid BY PROGRAM, IN A SANDBOX (cutbox-door.mjs). By AI agents, Wed Nov 11 2026. No macro, syntax, notation, axiom, sorry.
-/
import Derived.Test.YtjdklngopfpjgaaGreatDoorRows
import GoSem.ClaimSeven
namespace Go.Proofs.YtjdklngopfpjgaaGreatDoor
namespace Rows

/-- THE TIED CARD OF 'bluebelllaw12.LampLists'. -/
def lampListsCard : Claim7 := { stood := { row := lampListsRow, standIns := [], harness := (true, "9f95376de50cfb7838067a8fa96826dd1a9513322f0c2f2a7ccdce93bad8aa58"), looks := false }, kinds := [], alts := [], laidByText := true, laidKinds := [.data, .data, .data], laidTests := true, laidLooks := .later }
def LampListsCardSaid : Prop := Claim7.holds Tryz.pinned (.plain (OpenSpec.ofChange lampListsSpec)) lampListsCard

/-- THE TIED CARD OF 'bluebelllaw13.MillChecks'. -/
def millChecksCard : Claim7 := { stood := { row := millChecksRow, standIns := [], harness := (true, "9f95376de50cfb7838067a8fa96826dd1a9513322f0c2f2a7ccdce93bad8aa58"), looks := false }, kinds := [], alts := [], laidByText := true, laidKinds := [.data, .data, .data], laidTests := true, laidLooks := .later }
def MillChecksCardSaid : Prop := Claim7.holds Tryz.pinned (.plain (OpenSpec.ofChange millChecksSpec)) millChecksCard

/-- THE TIED CARD OF 'bluebelllaw14.MothLists'. -/
def mothListsCard : Claim7 := { stood := { row := mothListsRow, standIns := [], harness := (true, "9f95376de50cfb7838067a8fa96826dd1a9513322f0c2f2a7ccdce93bad8aa58"), looks := false }, kinds := [], alts := [], laidByText := true, laidKinds := [.data, .data, .data], laidTests := true, laidLooks := .later }
def MothListsCardSaid : Prop := Claim7.holds Tryz.pinned (.plain (OpenSpec.ofChange mothListsSpec)) mothListsCard

/-- THE SECOND FORM's CARD OF 'bluebelllaw12.LampLists'. -/
def lampListsUptoCard : Claim7 := { stood := { row := lampListsUptoRow, standIns := [], harness := (true, "9f95376de50cfb7838067a8fa96826dd1a9513322f0c2f2a7ccdce93bad8aa58"), looks := false }, kinds := [], alts := [], laidByText := true, laidKinds := [.data, .data, .data], laidTests := true, laidLooks := .later }
def LampListsUptoCardSaid : Prop := Claim7.holds Tryz.pinned (.plain (OpenSpec.upto lampListsSpec)) lampListsUptoCard

/-- THE SECOND FORM's CARD OF 'bluebelllaw13.MillChecks'. -/
def millChecksUptoCard : Claim7 := { stood := { row := millChecksUptoRow, standIns := [], harness := (true, "9f95376de50cfb7838067a8fa96826dd1a9513322f0c2f2a7ccdce93bad8aa58"), looks := false }, kinds := [], alts := [], laidByText := true, laidKinds := [.data, .data, .data], laidTests := true, laidLooks := .later }
def MillChecksUptoCardSaid : Prop := Claim7.holds Tryz.pinned (.plain (OpenSpec.upto millChecksSpec)) millChecksUptoCard

/-- THE SECOND FORM's CARD OF 'bluebelllaw14.MothLists'. -/
def mothListsUptoCard : Claim7 := { stood := { row := mothListsUptoRow, standIns := [], harness := (true, "9f95376de50cfb7838067a8fa96826dd1a9513322f0c2f2a7ccdce93bad8aa58"), looks := false }, kinds := [], alts := [], laidByText := true, laidKinds := [.data, .data, .data], laidTests := true, laidLooks := .later }
def MothListsUptoCardSaid : Prop := Claim7.holds Tryz.pinned (.plain (OpenSpec.upto mothListsSpec)) mothListsUptoCard
end Rows
end Go.Proofs.YtjdklngopfpjgaaGreatDoor
