/-
  DERIVED. GIVEN WITH THE SEED: THE CARDS: each row of YtcbaojkfffodiaaDoorRows.lean that lists a variable, with what it lists TIED to the program's text (the seventh form; the later family's looks); each row that meets fmt, with fmt's text TOLD by the authors' own Lean function (tested against real Go, not proved from fmt's source: count such statements apart). THE CARD IS WHAT COUNTS. Prove the row's statement (the work); the ties are given (YtcbaojkfffodiaaDoorTie.lean); close each card by the builder's one call (the guide's Derived/Test/ToyasCard.lean, 'card_holds'). Laid BY PROGRAM, IN A SANDBOX (cutbox-door.mjs). By AI agents, Wed Nov 11 2026. No macro, syntax, notation, axiom, sorry.
-/
import Derived.Test.YtcbaojkfffodiaaDoorRows
import GoSem.ClaimSeven
namespace Go.Proofs.YtcbaojkfffodiaaDoor
namespace Rows

/-- THE TIED CARD OF 'footbridgelaw22.ClassNone'. -/
def classNoneCard : Claim7 := { stood := { row := classNoneRow, standIns := [], harness := (true, "3331865ae23cc98c814ffd3e055865c32365e8a3fc3aa5406c5575a69829f930"), looks := false }, kinds := [], alts := [], laidByText := true, laidKinds := [.data, .pinned], laidTests := true, laidLooks := .later }
def ClassNoneCardSaid : Prop := Claim7.holds Tryd.pinned (.plain (OpenSpec.ofChange classNoneSpec)) classNoneCard

/-- THE TIED CARD OF 'footbridgelaw22.ClassPlays'. -/
def classPlaysCard : Claim7 := { stood := { row := classPlaysRow, standIns := [], harness := (true, "3331865ae23cc98c814ffd3e055865c32365e8a3fc3aa5406c5575a69829f930"), looks := false }, kinds := [], alts := [], laidByText := true, laidKinds := [.data, .pinned], laidTests := true, laidLooks := .later }
def ClassPlaysCardSaid : Prop := Claim7.holds Tryd.pinned (.plain (OpenSpec.ofChange classPlaysSpec)) classPlaysCard

/-- THE TIED CARD OF 'footbridgelaw49.QuotaHolds'. -/
def quotaHoldsCard : Claim7 := { stood := { row := quotaHoldsRow, standIns := [], harness := (true, "3331865ae23cc98c814ffd3e055865c32365e8a3fc3aa5406c5575a69829f930"), looks := false }, kinds := [], alts := [], laidByText := true, laidKinds := [.data, .pinned], laidTests := true, laidLooks := .later }
def QuotaHoldsCardSaid : Prop := Claim7.holds Tryd.pinned (.plain (OpenSpec.ofChange quotaHoldsSpec)) quotaHoldsCard

/-- THE TIED CARD OF 'footbridgelaw34.RulesNone'. -/
def rulesNoneCard : Claim7 := { stood := { row := rulesNoneRow, standIns := [], harness := (true, "3331865ae23cc98c814ffd3e055865c32365e8a3fc3aa5406c5575a69829f930"), looks := false }, kinds := [], alts := [], laidByText := true, laidKinds := [.data, .pinned], laidTests := true, laidLooks := .later }
def RulesNoneCardSaid : Prop := Claim7.holds Tryd.pinned (.plain (OpenSpec.ofChange rulesNoneSpec)) rulesNoneCard

/-- THE TIED CARD OF 'footbridgelaw47.BankNone'. -/
def bankNoneCard : Claim7 := { stood := { row := bankNoneRow, standIns := [], harness := (true, "3331865ae23cc98c814ffd3e055865c32365e8a3fc3aa5406c5575a69829f930"), looks := false }, kinds := [], alts := [], laidByText := true, laidKinds := [.data, .pinned], laidTests := true, laidLooks := .later }
def BankNoneCardSaid : Prop := Claim7.holds Tryd.pinned (.plain (OpenSpec.ofChange bankNoneSpec)) bankNoneCard

/-- THE TIED CARD OF 'footbridgelaw27.VoucherApart'. -/
def voucherApartCard : Claim7 := { stood := { row := voucherApartRow, standIns := [], harness := (true, "3331865ae23cc98c814ffd3e055865c32365e8a3fc3aa5406c5575a69829f930"), looks := false }, kinds := [], alts := [], laidByText := true, laidKinds := [.data, .pinned], laidTests := true, laidLooks := .later }
def VoucherApartCardSaid : Prop := Claim7.holds Tryd.pinned (.plain (OpenSpec.ofChange voucherApartSpec)) voucherApartCard

/-- THE TIED CARD OF 'footbridgelaw27.VoucherBack'. -/
def voucherBackCard : Claim7 := { stood := { row := voucherBackRow, standIns := [], harness := (true, "3331865ae23cc98c814ffd3e055865c32365e8a3fc3aa5406c5575a69829f930"), looks := false }, kinds := [], alts := [], laidByText := true, laidKinds := [.data, .pinned], laidTests := true, laidLooks := .later }
def VoucherBackCardSaid : Prop := Claim7.holds Tryd.pinned (.plain (OpenSpec.ofChange voucherBackSpec)) voucherBackCard

/-- THE TIED CARD OF 'footbridgelaw27.VoucherNone'. -/
def voucherNoneCard : Claim7 := { stood := { row := voucherNoneRow, standIns := [], harness := (true, "3331865ae23cc98c814ffd3e055865c32365e8a3fc3aa5406c5575a69829f930"), looks := false }, kinds := [], alts := [], laidByText := true, laidKinds := [.data, .pinned], laidTests := true, laidLooks := .later }
def VoucherNoneCardSaid : Prop := Claim7.holds Tryd.pinned (.plain (OpenSpec.ofChange voucherNoneSpec)) voucherNoneCard

/-- THE SECOND FORM's CARD OF 'footbridgelaw22.ClassNone'. -/
def classNoneUptoCard : Claim7 := { stood := { row := classNoneUptoRow, standIns := [], harness := (true, "3331865ae23cc98c814ffd3e055865c32365e8a3fc3aa5406c5575a69829f930"), looks := false }, kinds := [], alts := [], laidByText := true, laidKinds := [.data, .pinned], laidTests := true, laidLooks := .later }
def ClassNoneUptoCardSaid : Prop := Claim7.holds Tryd.pinned (.plain (OpenSpec.upto classNoneSpec)) classNoneUptoCard

/-- THE SECOND FORM's CARD OF 'footbridgelaw22.ClassPlays'. -/
def classPlaysUptoCard : Claim7 := { stood := { row := classPlaysUptoRow, standIns := [], harness := (true, "3331865ae23cc98c814ffd3e055865c32365e8a3fc3aa5406c5575a69829f930"), looks := false }, kinds := [], alts := [], laidByText := true, laidKinds := [.data, .pinned], laidTests := true, laidLooks := .later }
def ClassPlaysUptoCardSaid : Prop := Claim7.holds Tryd.pinned (.plain (OpenSpec.upto classPlaysSpec)) classPlaysUptoCard

/-- THE SECOND FORM's CARD OF 'footbridgelaw49.QuotaHolds'. -/
def quotaHoldsUptoCard : Claim7 := { stood := { row := quotaHoldsUptoRow, standIns := [], harness := (true, "3331865ae23cc98c814ffd3e055865c32365e8a3fc3aa5406c5575a69829f930"), looks := false }, kinds := [], alts := [], laidByText := true, laidKinds := [.data, .pinned], laidTests := true, laidLooks := .later }
def QuotaHoldsUptoCardSaid : Prop := Claim7.holds Tryd.pinned (.plain (OpenSpec.upto quotaHoldsSpec)) quotaHoldsUptoCard

/-- THE SECOND FORM's CARD OF 'footbridgelaw34.RulesNone'. -/
def rulesNoneUptoCard : Claim7 := { stood := { row := rulesNoneUptoRow, standIns := [], harness := (true, "3331865ae23cc98c814ffd3e055865c32365e8a3fc3aa5406c5575a69829f930"), looks := false }, kinds := [], alts := [], laidByText := true, laidKinds := [.data, .pinned], laidTests := true, laidLooks := .later }
def RulesNoneUptoCardSaid : Prop := Claim7.holds Tryd.pinned (.plain (OpenSpec.upto rulesNoneSpec)) rulesNoneUptoCard

/-- THE SECOND FORM's CARD OF 'footbridgelaw47.BankNone'. -/
def bankNoneUptoCard : Claim7 := { stood := { row := bankNoneUptoRow, standIns := [], harness := (true, "3331865ae23cc98c814ffd3e055865c32365e8a3fc3aa5406c5575a69829f930"), looks := false }, kinds := [], alts := [], laidByText := true, laidKinds := [.data, .pinned], laidTests := true, laidLooks := .later }
def BankNoneUptoCardSaid : Prop := Claim7.holds Tryd.pinned (.plain (OpenSpec.upto bankNoneSpec)) bankNoneUptoCard

/-- THE SECOND FORM's CARD OF 'footbridgelaw27.VoucherApart'. -/
def voucherApartUptoCard : Claim7 := { stood := { row := voucherApartUptoRow, standIns := [], harness := (true, "3331865ae23cc98c814ffd3e055865c32365e8a3fc3aa5406c5575a69829f930"), looks := false }, kinds := [], alts := [], laidByText := true, laidKinds := [.data, .pinned], laidTests := true, laidLooks := .later }
def VoucherApartUptoCardSaid : Prop := Claim7.holds Tryd.pinned (.plain (OpenSpec.upto voucherApartSpec)) voucherApartUptoCard

/-- THE SECOND FORM's CARD OF 'footbridgelaw27.VoucherBack'. -/
def voucherBackUptoCard : Claim7 := { stood := { row := voucherBackUptoRow, standIns := [], harness := (true, "3331865ae23cc98c814ffd3e055865c32365e8a3fc3aa5406c5575a69829f930"), looks := false }, kinds := [], alts := [], laidByText := true, laidKinds := [.data, .pinned], laidTests := true, laidLooks := .later }
def VoucherBackUptoCardSaid : Prop := Claim7.holds Tryd.pinned (.plain (OpenSpec.upto voucherBackSpec)) voucherBackUptoCard

/-- THE SECOND FORM's CARD OF 'footbridgelaw27.VoucherNone'. -/
def voucherNoneUptoCard : Claim7 := { stood := { row := voucherNoneUptoRow, standIns := [], harness := (true, "3331865ae23cc98c814ffd3e055865c32365e8a3fc3aa5406c5575a69829f930"), looks := false }, kinds := [], alts := [], laidByText := true, laidKinds := [.data, .pinned], laidTests := true, laidLooks := .later }
def VoucherNoneUptoCardSaid : Prop := Claim7.holds Tryd.pinned (.plain (OpenSpec.upto voucherNoneSpec)) voucherNoneUptoCard
end Rows
end Go.Proofs.YtcbaojkfffodiaaDoor
