/-
  DERIVED. GIVEN WITH THE SEED: THE CARDS: each row of YtcgmododeiocpaaDoorRows.lean that lists a variable, with what it lists TIED to the program's text (the seventh form; the later family's looks); each row that meets fmt, with fmt's text TOLD by the authors' own Lean function (tested against real Go, not proved from fmt's source: count such statements apart). THE CARD IS WHAT COUNTS. Prove the row's statement (the work); the ties are given (YtcgmododeiocpaaDoorTie.lean); close each card by the builder's one call (the guide's Derived/Test/ToyasCard.lean, 'card_holds'). Laid BY PROGRAM, IN A SANDBOX (cutbox-door.mjs). By AI agents, Wed Nov 11 2026. No macro, syntax, notation, axiom, sorry.
-/
import Derived.Test.YtcgmododeiocpaaDoorRows
import GoSem.ClaimSeven
namespace Go.Proofs.YtcgmododeiocpaaDoor
namespace Rows

/-- THE TIED CARD OF 'footbridgelaw08.PathJoins'. -/
def pathJoinsCard : Claim7 := { stood := { row := pathJoinsRow, standIns := [], harness := (true, "4277156e487e263896da06c899bfd85d35ef2d54ea79a2259e5738bd8f6a2238"), looks := false }, kinds := [], alts := [], laidByText := true, laidKinds := [.data, .pinned], laidTests := true, laidLooks := .later }
def PathJoinsCardSaid : Prop := Claim7.holds Tryd.pinned (.plain (OpenSpec.ofChange pathJoinsSpec)) pathJoinsCard

/-- THE TIED CARD OF 'footbridgelaw08.PathBack'. -/
def pathBackCard : Claim7 := { stood := { row := pathBackRow, standIns := [], harness := (true, "4277156e487e263896da06c899bfd85d35ef2d54ea79a2259e5738bd8f6a2238"), looks := false }, kinds := [], alts := [], laidByText := true, laidKinds := [.data, .pinned], laidTests := true, laidLooks := .later }
def PathBackCardSaid : Prop := Claim7.holds Tryd.pinned (.plain (OpenSpec.ofChange pathBackSpec)) pathBackCard

/-- THE TIED CARD OF 'footbridgelaw08.PathRises'. -/
def pathRisesCard : Claim7 := { stood := { row := pathRisesRow, standIns := [], harness := (true, "4277156e487e263896da06c899bfd85d35ef2d54ea79a2259e5738bd8f6a2238"), looks := false }, kinds := [], alts := [], laidByText := true, laidKinds := [.data, .pinned], laidTests := true, laidLooks := .later }
def PathRisesCardSaid : Prop := Claim7.holds Tryd.pinned (.plain (OpenSpec.ofChange pathRisesSpec)) pathRisesCard

/-- THE TIED CARD OF 'footbridgelaw26.TraceTexts'. -/
def traceTextsCard : Claim7 := { stood := { row := traceTextsRow, standIns := [], harness := (true, "4277156e487e263896da06c899bfd85d35ef2d54ea79a2259e5738bd8f6a2238"), looks := false }, kinds := [], alts := [], laidByText := true, laidKinds := [.data, .pinned], laidTests := true, laidLooks := .later }
def TraceTextsCardSaid : Prop := Claim7.holds Tryd.pinned (.plain (OpenSpec.ofChange traceTextsSpec)) traceTextsCard

/-- THE TIED CARD OF 'footbridgelaw26.TraceHops'. -/
def traceHopsCard : Claim7 := { stood := { row := traceHopsRow, standIns := [], harness := (true, "4277156e487e263896da06c899bfd85d35ef2d54ea79a2259e5738bd8f6a2238"), looks := false }, kinds := [], alts := [], laidByText := true, laidKinds := [.data, .pinned], laidTests := true, laidLooks := .later }
def TraceHopsCardSaid : Prop := Claim7.holds Tryd.pinned (.plain (OpenSpec.ofChange traceHopsSpec)) traceHopsCard

/-- THE TIED CARD OF 'footbridgelaw26.TraceBack'. -/
def traceBackCard : Claim7 := { stood := { row := traceBackRow, standIns := [], harness := (true, "4277156e487e263896da06c899bfd85d35ef2d54ea79a2259e5738bd8f6a2238"), looks := false }, kinds := [], alts := [], laidByText := true, laidKinds := [.data, .pinned], laidTests := true, laidLooks := .later }
def TraceBackCardSaid : Prop := Claim7.holds Tryd.pinned (.plain (OpenSpec.ofChange traceBackSpec)) traceBackCard

/-- THE TIED CARD OF 'footbridgelaw17.PacketBytes'. -/
def packetBytesCard : Claim7 := { stood := { row := packetBytesRow, standIns := [], harness := (true, "4277156e487e263896da06c899bfd85d35ef2d54ea79a2259e5738bd8f6a2238"), looks := false }, kinds := [], alts := [], laidByText := true, laidKinds := [.data, .pinned], laidTests := true, laidLooks := .later }
def PacketBytesCardSaid : Prop := Claim7.holds Tryd.pinned (.plain (OpenSpec.ofChange packetBytesSpec)) packetBytesCard

/-- THE TIED CARD OF 'footbridgelaw17.PacketSums'. -/
def packetSumsCard : Claim7 := { stood := { row := packetSumsRow, standIns := [], harness := (true, "4277156e487e263896da06c899bfd85d35ef2d54ea79a2259e5738bd8f6a2238"), looks := false }, kinds := [], alts := [], laidByText := true, laidKinds := [.data, .pinned], laidTests := true, laidLooks := .later }
def PacketSumsCardSaid : Prop := Claim7.holds Tryd.pinned (.plain (OpenSpec.ofChange packetSumsSpec)) packetSumsCard

/-- THE TIED CARD OF 'footbridgelaw17.PacketApart'. -/
def packetApartCard : Claim7 := { stood := { row := packetApartRow, standIns := [], harness := (true, "4277156e487e263896da06c899bfd85d35ef2d54ea79a2259e5738bd8f6a2238"), looks := false }, kinds := [], alts := [], laidByText := true, laidKinds := [.data, .pinned], laidTests := true, laidLooks := .later }
def PacketApartCardSaid : Prop := Claim7.holds Tryd.pinned (.plain (OpenSpec.ofChange packetApartSpec)) packetApartCard

/-- THE TIED CARD OF 'footbridgelaw28.BatchBack'. -/
def batchBackCard : Claim7 := { stood := { row := batchBackRow, standIns := [], harness := (true, "4277156e487e263896da06c899bfd85d35ef2d54ea79a2259e5738bd8f6a2238"), looks := false }, kinds := [], alts := [], laidByText := true, laidKinds := [.data, .pinned], laidTests := true, laidLooks := .later }
def BatchBackCardSaid : Prop := Claim7.holds Tryd.pinned (.plain (OpenSpec.ofChange batchBackSpec)) batchBackCard

/-- THE SECOND FORM's CARD OF 'footbridgelaw08.PathJoins'. -/
def pathJoinsUptoCard : Claim7 := { stood := { row := pathJoinsUptoRow, standIns := [], harness := (true, "4277156e487e263896da06c899bfd85d35ef2d54ea79a2259e5738bd8f6a2238"), looks := false }, kinds := [], alts := [], laidByText := true, laidKinds := [.data, .pinned], laidTests := true, laidLooks := .later }
def PathJoinsUptoCardSaid : Prop := Claim7.holds Tryd.pinned (.plain (OpenSpec.upto pathJoinsSpec)) pathJoinsUptoCard

/-- THE SECOND FORM's CARD OF 'footbridgelaw08.PathBack'. -/
def pathBackUptoCard : Claim7 := { stood := { row := pathBackUptoRow, standIns := [], harness := (true, "4277156e487e263896da06c899bfd85d35ef2d54ea79a2259e5738bd8f6a2238"), looks := false }, kinds := [], alts := [], laidByText := true, laidKinds := [.data, .pinned], laidTests := true, laidLooks := .later }
def PathBackUptoCardSaid : Prop := Claim7.holds Tryd.pinned (.plain (OpenSpec.upto pathBackSpec)) pathBackUptoCard

/-- THE SECOND FORM's CARD OF 'footbridgelaw08.PathRises'. -/
def pathRisesUptoCard : Claim7 := { stood := { row := pathRisesUptoRow, standIns := [], harness := (true, "4277156e487e263896da06c899bfd85d35ef2d54ea79a2259e5738bd8f6a2238"), looks := false }, kinds := [], alts := [], laidByText := true, laidKinds := [.data, .pinned], laidTests := true, laidLooks := .later }
def PathRisesUptoCardSaid : Prop := Claim7.holds Tryd.pinned (.plain (OpenSpec.upto pathRisesSpec)) pathRisesUptoCard

/-- THE SECOND FORM's CARD OF 'footbridgelaw26.TraceTexts'. -/
def traceTextsUptoCard : Claim7 := { stood := { row := traceTextsUptoRow, standIns := [], harness := (true, "4277156e487e263896da06c899bfd85d35ef2d54ea79a2259e5738bd8f6a2238"), looks := false }, kinds := [], alts := [], laidByText := true, laidKinds := [.data, .pinned], laidTests := true, laidLooks := .later }
def TraceTextsUptoCardSaid : Prop := Claim7.holds Tryd.pinned (.plain (OpenSpec.upto traceTextsSpec)) traceTextsUptoCard

/-- THE SECOND FORM's CARD OF 'footbridgelaw26.TraceHops'. -/
def traceHopsUptoCard : Claim7 := { stood := { row := traceHopsUptoRow, standIns := [], harness := (true, "4277156e487e263896da06c899bfd85d35ef2d54ea79a2259e5738bd8f6a2238"), looks := false }, kinds := [], alts := [], laidByText := true, laidKinds := [.data, .pinned], laidTests := true, laidLooks := .later }
def TraceHopsUptoCardSaid : Prop := Claim7.holds Tryd.pinned (.plain (OpenSpec.upto traceHopsSpec)) traceHopsUptoCard

/-- THE SECOND FORM's CARD OF 'footbridgelaw26.TraceBack'. -/
def traceBackUptoCard : Claim7 := { stood := { row := traceBackUptoRow, standIns := [], harness := (true, "4277156e487e263896da06c899bfd85d35ef2d54ea79a2259e5738bd8f6a2238"), looks := false }, kinds := [], alts := [], laidByText := true, laidKinds := [.data, .pinned], laidTests := true, laidLooks := .later }
def TraceBackUptoCardSaid : Prop := Claim7.holds Tryd.pinned (.plain (OpenSpec.upto traceBackSpec)) traceBackUptoCard

/-- THE SECOND FORM's CARD OF 'footbridgelaw17.PacketBytes'. -/
def packetBytesUptoCard : Claim7 := { stood := { row := packetBytesUptoRow, standIns := [], harness := (true, "4277156e487e263896da06c899bfd85d35ef2d54ea79a2259e5738bd8f6a2238"), looks := false }, kinds := [], alts := [], laidByText := true, laidKinds := [.data, .pinned], laidTests := true, laidLooks := .later }
def PacketBytesUptoCardSaid : Prop := Claim7.holds Tryd.pinned (.plain (OpenSpec.upto packetBytesSpec)) packetBytesUptoCard

/-- THE SECOND FORM's CARD OF 'footbridgelaw17.PacketSums'. -/
def packetSumsUptoCard : Claim7 := { stood := { row := packetSumsUptoRow, standIns := [], harness := (true, "4277156e487e263896da06c899bfd85d35ef2d54ea79a2259e5738bd8f6a2238"), looks := false }, kinds := [], alts := [], laidByText := true, laidKinds := [.data, .pinned], laidTests := true, laidLooks := .later }
def PacketSumsUptoCardSaid : Prop := Claim7.holds Tryd.pinned (.plain (OpenSpec.upto packetSumsSpec)) packetSumsUptoCard

/-- THE SECOND FORM's CARD OF 'footbridgelaw17.PacketApart'. -/
def packetApartUptoCard : Claim7 := { stood := { row := packetApartUptoRow, standIns := [], harness := (true, "4277156e487e263896da06c899bfd85d35ef2d54ea79a2259e5738bd8f6a2238"), looks := false }, kinds := [], alts := [], laidByText := true, laidKinds := [.data, .pinned], laidTests := true, laidLooks := .later }
def PacketApartUptoCardSaid : Prop := Claim7.holds Tryd.pinned (.plain (OpenSpec.upto packetApartSpec)) packetApartUptoCard

/-- THE SECOND FORM's CARD OF 'footbridgelaw28.BatchBack'. -/
def batchBackUptoCard : Claim7 := { stood := { row := batchBackUptoRow, standIns := [], harness := (true, "4277156e487e263896da06c899bfd85d35ef2d54ea79a2259e5738bd8f6a2238"), looks := false }, kinds := [], alts := [], laidByText := true, laidKinds := [.data, .pinned], laidTests := true, laidLooks := .later }
def BatchBackUptoCardSaid : Prop := Claim7.holds Tryd.pinned (.plain (OpenSpec.upto batchBackSpec)) batchBackUptoCard
end Rows
end Go.Proofs.YtcgmododeiocpaaDoor
