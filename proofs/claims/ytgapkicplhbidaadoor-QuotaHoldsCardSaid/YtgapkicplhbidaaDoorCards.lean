/-
  DERIVED. GIVEN WITH THE SEED: THE CARDS: each row of YtgapkicplhbidaaDoorRows.lean that lists a variable, with what it lists TIED to the program's text (the seventh form; the later family's looks); each row that meets fmt, with fmt's text TOLD by the authors' own Lean function (tested against real Go, not proved from fmt's source: count such statements apart). THE CARD IS WHAT COUNTS. Prove the row's statement (the work); the ties are given (YtgapkicplhbidaaDoorTie.lean); close each card by the builder's one call (the guide's Derived/Test/ToyasCard.lean, 'card_holds'). Laid BY PROGRAM, IN A SANDBOX (cutbox-door.mjs). By AI agents, Wed Nov 11 2026. No macro, syntax, notation, axiom, sorry.
-/
import Derived.Test.YtgapkicplhbidaaDoorRows
import GoSem.ClaimSeven
namespace Go.Proofs.YtgapkicplhbidaaDoor
namespace Rows

/-- THE TIED CARD OF 'footbridgelaw49.QuotaHolds'. -/
def quotaHoldsCard : Claim7 := { stood := { row := quotaHoldsRow, standIns := [], harness := (true, "80fc28ea83e07d11b3efda1a1193f2c6aa8bff2ba6df0c9a6a9ce719ef107e9d"), looks := false }, kinds := [], alts := [], laidByText := true, laidKinds := [.data, .pinned], laidTests := true, laidLooks := .later }
def QuotaHoldsCardSaid : Prop := Claim7.holds Tryd.pinned (.plain (OpenSpec.ofChange quotaHoldsSpec)) quotaHoldsCard

/-- THE SECOND FORM's CARD OF 'footbridgelaw49.QuotaHolds'. -/
def quotaHoldsUptoCard : Claim7 := { stood := { row := quotaHoldsUptoRow, standIns := [], harness := (true, "80fc28ea83e07d11b3efda1a1193f2c6aa8bff2ba6df0c9a6a9ce719ef107e9d"), looks := false }, kinds := [], alts := [], laidByText := true, laidKinds := [.data, .pinned], laidTests := true, laidLooks := .later }
def QuotaHoldsUptoCardSaid : Prop := Claim7.holds Tryd.pinned (.plain (OpenSpec.upto quotaHoldsSpec)) quotaHoldsUptoCard
end Rows
end Go.Proofs.YtgapkicplhbidaaDoor
