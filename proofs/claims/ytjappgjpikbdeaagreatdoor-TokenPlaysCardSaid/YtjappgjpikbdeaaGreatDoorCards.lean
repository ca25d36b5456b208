/-
  DERIVED. GIVEN WITH THE SEED: THE CARDS: each row of YtjappgjpikbdeaaGreatDoorRows.lean that lists a variable, with what it lists TIED to the program's text (the seventh form; the later family's looks); each row that meets fmt, with fmt's text TOLD by the authors' own Lean function (tested against real Go, not proved from fmt's source: count such statements apart). THE CARD IS WHAT COUNTS. Prove the row's statement (the work); the ties are given (YtjappgjpikbdeaaGreatDoorTie.lean); close each card by the builder's one call (the guide's Derived/Test/ToyasCard.lean, 'card_holds'). Laid BY PROGRAM, IN A SANDBOX (cutbox-door.mjs). By AI agents, Wed Nov 11 2026. No macro, syntax, notation, axiom, sorry.
-/
import Derived.Test.YtjappgjpikbdeaaGreatDoorRows
import GoSem.ClaimSeven
namespace Go.Proofs.YtjappgjpikbdeaaGreatDoor
namespace Rows

/-- THE TIED CARD OF 'footbridgelaw23.TokenNone'. -/
def tokenNoneCard : Claim7 := { stood := { row := tokenNoneRow, standIns := [], harness := (true, "b42d6130f226e7c2845cb0e3fcb1f2aeb8b371c784dfebba8f5baf98644d7c99"), looks := false }, kinds := [], alts := [], laidByText := true, laidKinds := [.data, .pinned], laidTests := true, laidLooks := .later }
def TokenNoneCardSaid : Prop := Claim7.holds Tryz.pinned (.plain (OpenSpec.ofChange tokenNoneSpec)) tokenNoneCard

/-- THE TIED CARD OF 'footbridgelaw23.TokenPlays'. -/
def tokenPlaysCard : Claim7 := { stood := { row := tokenPlaysRow, standIns := [], harness := (true, "b42d6130f226e7c2845cb0e3fcb1f2aeb8b371c784dfebba8f5baf98644d7c99"), looks := false }, kinds := [], alts := [], laidByText := true, laidKinds := [.data, .pinned], laidTests := true, laidLooks := .later }
def TokenPlaysCardSaid : Prop := Claim7.holds Tryz.pinned (.plain (OpenSpec.ofChange tokenPlaysSpec)) tokenPlaysCard

/-- THE TIED CARD OF 'footbridgelaw23.TokenBack'. -/
def tokenBackCard : Claim7 := { stood := { row := tokenBackRow, standIns := [], harness := (true, "b42d6130f226e7c2845cb0e3fcb1f2aeb8b371c784dfebba8f5baf98644d7c99"), looks := false }, kinds := [], alts := [], laidByText := true, laidKinds := [.data, .pinned], laidTests := true, laidLooks := .later }
def TokenBackCardSaid : Prop := Claim7.holds Tryz.pinned (.plain (OpenSpec.ofChange tokenBackSpec)) tokenBackCard

/-- THE SECOND FORM's CARD OF 'footbridgelaw23.TokenNone'. -/
def tokenNoneUptoCard : Claim7 := { stood := { row := tokenNoneUptoRow, standIns := [], harness := (true, "b42d6130f226e7c2845cb0e3fcb1f2aeb8b371c784dfebba8f5baf98644d7c99"), looks := false }, kinds := [], alts := [], laidByText := true, laidKinds := [.data, .pinned], laidTests := true, laidLooks := .later }
def TokenNoneUptoCardSaid : Prop := Claim7.holds Tryz.pinned (.plain (OpenSpec.upto tokenNoneSpec)) tokenNoneUptoCard

/-- THE SECOND FORM's CARD OF 'footbridgelaw23.TokenPlays'. -/
def tokenPlaysUptoCard : Claim7 := { stood := { row := tokenPlaysUptoRow, standIns := [], harness := (true, "b42d6130f226e7c2845cb0e3fcb1f2aeb8b371c784dfebba8f5baf98644d7c99"), looks := false }, kinds := [], alts := [], laidByText := true, laidKinds := [.data, .pinned], laidTests := true, laidLooks := .later }
def TokenPlaysUptoCardSaid : Prop := Claim7.holds Tryz.pinned (.plain (OpenSpec.upto tokenPlaysSpec)) tokenPlaysUptoCard

/-- THE SECOND FORM's CARD OF 'footbridgelaw23.TokenBack'. -/
def tokenBackUptoCard : Claim7 := { stood := { row := tokenBackUptoRow, standIns := [], harness := (true, "b42d6130f226e7c2845cb0e3fcb1f2aeb8b371c784dfebba8f5baf98644d7c99"), looks := false }, kinds := [], alts := [], laidByText := true, laidKinds := [.data, .pinned], laidTests := true, laidLooks := .later }
def TokenBackUptoCardSaid : Prop := Claim7.holds Tryz.pinned (.plain (OpenSpec.upto tokenBackSpec)) tokenBackUptoCard
end Rows
end Go.Proofs.YtjappgjpikbdeaaGreatDoor
