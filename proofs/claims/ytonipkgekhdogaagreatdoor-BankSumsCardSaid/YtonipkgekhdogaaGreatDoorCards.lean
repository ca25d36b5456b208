/-
  DERIVED. GIVEN WITH THE SEED: THE CARDS: each row of YtonipkgekhdogaaGreatDoorRows.lean that lists a variable, with what it lists TIED to the program's text (the seventh form; the later family's looks); each row that meets fmt, with fmt's text TOLD by the authors' own Lean function (tested against real Go, not proved from fmt's source: count such statements apart). THE CARD IS WHAT COUNTS. Prove the row's statement (the work); the ties are given (YtonipkgekhdogaaGreatDoorTie.lean); close each card by the builder's one call (the guide's Derived/Test/ToyasCard.lean, 'card_holds'). Laid BY PROGRAM, IN A SANDBOX (cutbox-door.mjs). By AI agents, Wed Nov 11 2026. No macro, syntax, notation, axiom, sorry.
-/
import Derived.Test.YtonipkgekhdogaaGreatDoorRows
import GoSem.ClaimSeven
namespace Go.Proofs.YtonipkgekhdogaaGreatDoor
namespace Rows

/-- THE TIED CARD OF 'footbridgelaw47.BankSums'. -/
def bankSumsCard : Claim7 := { stood := { row := bankSumsRow, standIns := [], harness := (true, "ced14a9300a2fdefeb4438d5a95f9cd528221aeae4f0252783ec9d7bcab17234"), looks := false }, kinds := [], alts := [], laidByText := true, laidKinds := [.data, .pinned], laidTests := true, laidLooks := .later }
def BankSumsCardSaid : Prop := Claim7.holds Tryz.pinned (.plain (OpenSpec.ofChange bankSumsSpec)) bankSumsCard

/-- THE TIED CARD OF 'footbridgelaw34.RulesPlays'. -/
def rulesPlaysCard : Claim7 := { stood := { row := rulesPlaysRow, standIns := [], harness := (true, "ced14a9300a2fdefeb4438d5a95f9cd528221aeae4f0252783ec9d7bcab17234"), looks := false }, kinds := [], alts := [], laidByText := true, laidKinds := [.data, .pinned], laidTests := true, laidLooks := .later }
def RulesPlaysCardSaid : Prop := Claim7.holds Tryz.pinned (.plain (OpenSpec.ofChange rulesPlaysSpec)) rulesPlaysCard

/-- THE TIED CARD OF 'footbridgelaw47.BankPlays'. -/
def bankPlaysCard : Claim7 := { stood := { row := bankPlaysRow, standIns := [], harness := (true, "ced14a9300a2fdefeb4438d5a95f9cd528221aeae4f0252783ec9d7bcab17234"), looks := false }, kinds := [], alts := [], laidByText := true, laidKinds := [.data, .pinned], laidTests := true, laidLooks := .later }
def BankPlaysCardSaid : Prop := Claim7.holds Tryz.pinned (.plain (OpenSpec.ofChange bankPlaysSpec)) bankPlaysCard

/-- THE SECOND FORM's CARD OF 'footbridgelaw47.BankSums'. -/
def bankSumsUptoCard : Claim7 := { stood := { row := bankSumsUptoRow, standIns := [], harness := (true, "ced14a9300a2fdefeb4438d5a95f9cd528221aeae4f0252783ec9d7bcab17234"), looks := false }, kinds := [], alts := [], laidByText := true, laidKinds := [.data, .pinned], laidTests := true, laidLooks := .later }
def BankSumsUptoCardSaid : Prop := Claim7.holds Tryz.pinned (.plain (OpenSpec.upto bankSumsSpec)) bankSumsUptoCard

/-- THE SECOND FORM's CARD OF 'footbridgelaw34.RulesPlays'. -/
def rulesPlaysUptoCard : Claim7 := { stood := { row := rulesPlaysUptoRow, standIns := [], harness := (true, "ced14a9300a2fdefeb4438d5a95f9cd528221aeae4f0252783ec9d7bcab17234"), looks := false }, kinds := [], alts := [], laidByText := true, laidKinds := [.data, .pinned], laidTests := true, laidLooks := .later }
def RulesPlaysUptoCardSaid : Prop := Claim7.holds Tryz.pinned (.plain (OpenSpec.upto rulesPlaysSpec)) rulesPlaysUptoCard

/-- THE SECOND FORM's CARD OF 'footbridgelaw47.BankPlays'. -/
def bankPlaysUptoCard : Claim7 := { stood := { row := bankPlaysUptoRow, standIns := [], harness := (true, "ced14a9300a2fdefeb4438d5a95f9cd528221aeae4f0252783ec9d7bcab17234"), looks := false }, kinds := [], alts := [], laidByText := true, laidKinds := [.data, .pinned], laidTests := true, laidLooks := .later }
def BankPlaysUptoCardSaid : Prop := Claim7.holds Tryz.pinned (.plain (OpenSpec.upto bankPlaysSpec)) bankPlaysUptoCard
end Rows
end Go.Proofs.YtonipkgekhdogaaGreatDoor
