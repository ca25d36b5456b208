/-
  DERIVED. GIVEN WITH THE SEED: THE CARDS: each row of YtgapkicplhbidaaGreatDoorRows.lean that lists a variable, with what it lists TIED to the program's text (the seventh form; the later family's looks); each row that meets fmt, with fmt's text TOLD by the authors' own Lean function (tested against real Go, not proved from fmt's source: count such statements apart). THE CARD IS WHAT COUNTS. Prove the row's statement (the work); the ties are given (YtgapkicplhbidaaGreatDoorTie.lean); close each card by the builder's one call (the guide's Derived/Test/ToyasCard.lean, 'card_holds'). Laid BY PROGRAM, IN A SANDBOX (cutbox-door.mjs). By AI agents, Wed Nov 11 2026. No macro, syntax, notation, axiom, sorry.
-/
import Derived.Test.YtgapkicplhbidaaGreatDoorRows
import GoSem.ClaimSeven
namespace Go.Proofs.YtgapkicplhbidaaGreatDoor
namespace Rows

/-- THE TIED CARD OF 'footbridgelaw49.QuotaPlays'. -/
def quotaPlaysCard : Claim7 := { stood := { row := quotaPlaysRow, standIns := [], harness := (true, "3ce4110cfe66af84df874725694370a8c3e1376c126a780a0bfeb662b307c94c"), looks := false }, kinds := [], alts := [], laidByText := true, laidKinds := [.data, .pinned], laidTests := true, laidLooks := .later }
def QuotaPlaysCardSaid : Prop := Claim7.holds Tryz.pinned (.plain (OpenSpec.ofChange quotaPlaysSpec)) quotaPlaysCard

/-- THE SECOND FORM's CARD OF 'footbridgelaw49.QuotaPlays'. -/
def quotaPlaysUptoCard : Claim7 := { stood := { row := quotaPlaysUptoRow, standIns := [], harness := (true, "3ce4110cfe66af84df874725694370a8c3e1376c126a780a0bfeb662b307c94c"), looks := false }, kinds := [], alts := [], laidByText := true, laidKinds := [.data, .pinned], laidTests := true, laidLooks := .later }
def QuotaPlaysUptoCardSaid : Prop := Claim7.holds Tryz.pinned (.plain (OpenSpec.upto quotaPlaysSpec)) quotaPlaysUptoCard
end Rows
end Go.Proofs.YtgapkicplhbidaaGreatDoor
