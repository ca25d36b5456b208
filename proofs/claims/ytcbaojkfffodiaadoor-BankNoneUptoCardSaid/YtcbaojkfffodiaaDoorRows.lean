/-
  NARROWER THAN 'FOR EVERY INPUT', by the rows' own cells (each row's printed sentence says how): ClassNone: laid · ClassPlays: laid · QuotaHolds: laid · RulesNone: laid · BankNone: laid · VoucherApart: laid · VoucherBack: laid · VoucherNone: laid.
  DERIVED. THE GIVEN ROWS OF THIS SEAT. 8 by the template 'for every input the law returns true; each argument reads behind the call as it read before'; 0 by the template 'total and deterministic' (their statements: YtcbaojkfffodiaaDoorTotals.lean).
  GIVEN WITH THE SEED: the statements are not yours to turn. If you find one false, say at which input.
  Laid BY PROGRAM, IN A SANDBOX (cutbox-rows.mjs): the forced cells as the released guide's own fill.sh prints them over the translation e76df73e2f0328a0… (all of the seat's roots in one cut). By AI agents, Wed Nov 11 2026. No macro, syntax, notation, axiom, sorry.
-/
import Derived.Test.YtcbaojkfffodiaaDoorChecked
import GoSem.PinnedTables
import GoSem.Claim
import GoSem.ClaimJoined
import GoSem.ClaimMapViews
import Derived.JoinedTies
import Derived.KernelRfl
namespace Go.Proofs.YtcbaojkfffodiaaDoor
/- THE CELL 'sum', in the pinned program and in every row, IS THE sha256 OF THE DUMP (.gsa) THAT YtcbaojkfffodiaaDoorProg.lean LOADS. Nothing in Lean hashes anything: it is a label: what it is worth is what the hold of that sum in a sandbox is worth. -/
noncomputable def Tryd.pinned : Pinned := { name := "ytcbaojkfffodiaadoor", sum := "e76df73e2f0328a00ff2ed9dd5a95d4c5514285fbbdc51d7d2d4dd07e882ee0a", checked := Tryd.checked }
namespace Rows
def none {H : Type} : Left H := { results := [], args := [] }

/- WHAT THE LISTED PACKAGE-LEVEL VARIABLES READ AS WHEN THE CALL BEGINS. Each datum BY PROGRAM (the guide's laid-datum.mjs) off the statement by which the dump's own 'gosem.cut.vars' lays the variable. In a bare row this is a premise. The card (YtcbaojkfffodiaaDoorCards.lean) ties it to the program's text. -/
def laid_unicode_utf8_acceptRanges {H : Type} : DataW H := .agg [.agg [.lit (.int .u8 128), .lit (.int .u8 191)], .agg [.lit (.int .u8 160), .lit (.int .u8 191)], .agg [.lit (.int .u8 128), .lit (.int .u8 159)], .agg [.lit (.int .u8 144), .lit (.int .u8 191)], .agg [.lit (.int .u8 128), .lit (.int .u8 143)], .agg [.lit (.int .u8 0), .lit (.int .u8 0)], .agg [.lit (.int .u8 0), .lit (.int .u8 0)], .agg [.lit (.int .u8 0), .lit (.int .u8 0)], .agg [.lit (.int .u8 0), .lit (.int .u8 0)], .agg [.lit (.int .u8 0), .lit (.int .u8 0)], .agg [.lit (.int .u8 0), .lit (.int .u8 0)], .agg [.lit (.int .u8 0), .lit (.int .u8 0)], .agg [.lit (.int .u8 0), .lit (.int .u8 0)], .agg [.lit (.int .u8 0), .lit (.int .u8 0)], .agg [.lit (.int .u8 0), .lit (.int .u8 0)], .agg [.lit (.int .u8 0), .lit (.int .u8 0)]]
/-- One of Go's own tables, pinned by name: the form's constant. -/
def laid_unicode_utf8_first : DataW Unit := Go.Pinned.utf8First

/-- 'footbridgelaw22.ClassNone': WHATEVER THE INPUT: true; the input reads as it did. -/
def classNoneSpec : ChangeSpec := { name := "classNone", fn := fun _ => fun
  | [d] => { results := [.lit (.bool true)], args := [d] }
  | _ => none }
def classNoneRow : OpenClaim := { program := "ytcbaojkfffodiaadoor", sum := "e76df73e2f0328a00ff2ed9dd5a95d4c5514285fbbdc51d7d2d4dd07e882ee0a", func := "footbridge/footbridgelaw22.ClassNone", spec := "classNone", inPlace := ["internal/bytealg.CountString", "internal/bytealg.IndexByteString", "internal/bytealg.IndexString", "internal/abi.NoEscape", "internal/bytealg.MakeNoZero", "internal/bytealg.abigen_runtime_cmpstring", "slices.overlaps[footbridge/api.Pair]"], unfollowed := true, recurses := true, named := ["internal/bytealg.MaxLen", "unicode/utf8.first", "unicode/utf8.acceptRanges"], apart := false, laid := [("unicode/utf8.acceptRanges", laid_unicode_utf8_acceptRanges), ("unicode/utf8.first", laid_unicode_utf8_first)] }
def ClassNoneSaid : Prop := classNoneRow.holds Tryd.pinned (OpenSpec.ofChange classNoneSpec)

/-- ITS FALSE NEIGHBOUR: 'it returns false'. Refute it at one input. -/
def classNoneWrong : ChangeSpec := { name := "classNone", fn := fun _ => fun
  | [d] => { results := [.lit (.bool false)], args := [d] }
  | _ => none }
def ClassNoneWrongFalsely : Prop := classNoneRow.holds Tryd.pinned (OpenSpec.ofChange classNoneWrong)

/-- 'footbridgelaw22.ClassPlays': WHATEVER THE INPUT: true; the input reads as it did. -/
def classPlaysSpec : ChangeSpec := { name := "classPlays", fn := fun _ => fun
  | [d] => { results := [.lit (.bool true)], args := [d] }
  | _ => none }
def classPlaysRow : OpenClaim := { program := "ytcbaojkfffodiaadoor", sum := "e76df73e2f0328a00ff2ed9dd5a95d4c5514285fbbdc51d7d2d4dd07e882ee0a", func := "footbridge/footbridgelaw22.ClassPlays", spec := "classPlays", inPlace := ["internal/bytealg.CountString", "internal/bytealg.IndexByteString", "internal/bytealg.IndexString", "internal/abi.NoEscape", "internal/bytealg.MakeNoZero", "internal/bytealg.abigen_runtime_cmpstring", "slices.overlaps[footbridge/api.Pair]"], unfollowed := true, recurses := true, named := ["internal/bytealg.MaxLen", "unicode/utf8.first", "unicode/utf8.acceptRanges"], apart := false, laid := [("unicode/utf8.acceptRanges", laid_unicode_utf8_acceptRanges), ("unicode/utf8.first", laid_unicode_utf8_first)] }
def ClassPlaysSaid : Prop := classPlaysRow.holds Tryd.pinned (OpenSpec.ofChange classPlaysSpec)

/-- ITS FALSE NEIGHBOUR: 'it returns false'. Refute it at one input. -/
def classPlaysWrong : ChangeSpec := { name := "classPlays", fn := fun _ => fun
  | [d] => { results := [.lit (.bool false)], args := [d] }
  | _ => none }
def ClassPlaysWrongFalsely : Prop := classPlaysRow.holds Tryd.pinned (OpenSpec.ofChange classPlaysWrong)

/-- 'footbridgelaw49.QuotaHolds': WHATEVER THE INPUT: true; the input reads as it did. -/
def quotaHoldsSpec : ChangeSpec := { name := "quotaHolds", fn := fun _ => fun
  | [d1, d2, d3] => { results := [.lit (.bool true)], args := [d1, d2, d3] }
  | _ => none }
def quotaHoldsRow : OpenClaim := { program := "ytcbaojkfffodiaadoor", sum := "e76df73e2f0328a00ff2ed9dd5a95d4c5514285fbbdc51d7d2d4dd07e882ee0a", func := "footbridge/footbridgelaw49.QuotaHolds", spec := "quotaHolds", inPlace := ["internal/bytealg.CountString", "internal/bytealg.IndexByteString", "internal/bytealg.IndexString", "internal/abi.NoEscape", "internal/bytealg.MakeNoZero", "internal/bytealg.abigen_runtime_cmpstring", "slices.overlaps[footbridge/api.Pair]"], unfollowed := true, recurses := true, named := ["internal/bytealg.MaxLen", "unicode/utf8.first", "unicode/utf8.acceptRanges"], apart := false, laid := [("unicode/utf8.acceptRanges", laid_unicode_utf8_acceptRanges), ("unicode/utf8.first", laid_unicode_utf8_first)] }
def QuotaHoldsSaid : Prop := quotaHoldsRow.holds Tryd.pinned (OpenSpec.ofChange quotaHoldsSpec)

/-- ITS FALSE NEIGHBOUR: 'it returns false'. Refute it at one input. -/
def quotaHoldsWrong : ChangeSpec := { name := "quotaHolds", fn := fun _ => fun
  | [d1, d2, d3] => { results := [.lit (.bool false)], args := [d1, d2, d3] }
  | _ => none }
def QuotaHoldsWrongFalsely : Prop := quotaHoldsRow.holds Tryd.pinned (OpenSpec.ofChange quotaHoldsWrong)

/-- 'footbridgelaw34.RulesNone': WHATEVER THE INPUT: true; the input reads as it did. -/
def rulesNoneSpec : ChangeSpec := { name := "rulesNone", fn := fun _ => fun
  | [d] => { results := [.lit (.bool true)], args := [d] }
  | _ => none }
def rulesNoneRow : OpenClaim := { program := "ytcbaojkfffodiaadoor", sum := "e76df73e2f0328a00ff2ed9dd5a95d4c5514285fbbdc51d7d2d4dd07e882ee0a", func := "footbridge/footbridgelaw34.RulesNone", spec := "rulesNone", inPlace := ["internal/bytealg.CountString", "internal/bytealg.IndexByteString", "internal/bytealg.IndexString", "internal/abi.NoEscape", "internal/bytealg.MakeNoZero", "internal/bytealg.abigen_runtime_cmpstring", "slices.overlaps[footbridge/api.Pair]"], unfollowed := true, recurses := true, named := ["internal/bytealg.MaxLen", "unicode/utf8.first", "unicode/utf8.acceptRanges"], apart := false, laid := [("unicode/utf8.acceptRanges", laid_unicode_utf8_acceptRanges), ("unicode/utf8.first", laid_unicode_utf8_first)] }
def RulesNoneSaid : Prop := rulesNoneRow.holds Tryd.pinned (OpenSpec.ofChange rulesNoneSpec)

/-- ITS FALSE NEIGHBOUR: 'it returns false'. Refute it at one input. -/
def rulesNoneWrong : ChangeSpec := { name := "rulesNone", fn := fun _ => fun
  | [d] => { results := [.lit (.bool false)], args := [d] }
  | _ => none }
def RulesNoneWrongFalsely : Prop := rulesNoneRow.holds Tryd.pinned (OpenSpec.ofChange rulesNoneWrong)

/-- 'footbridgelaw47.BankNone': WHATEVER THE INPUT: true; the input reads as it did. -/
def bankNoneSpec : ChangeSpec := { name := "bankNone", fn := fun _ => fun
  | [d] => { results := [.lit (.bool true)], args := [d] }
  | _ => none }
def bankNoneRow : OpenClaim := { program := "ytcbaojkfffodiaadoor", sum := "e76df73e2f0328a00ff2ed9dd5a95d4c5514285fbbdc51d7d2d4dd07e882ee0a", func := "footbridge/footbridgelaw47.BankNone", spec := "bankNone", inPlace := ["internal/bytealg.CountString", "internal/bytealg.IndexByteString", "internal/bytealg.IndexString", "internal/abi.NoEscape", "internal/bytealg.MakeNoZero", "internal/bytealg.abigen_runtime_cmpstring", "slices.overlaps[footbridge/api.Pair]"], unfollowed := true, recurses := true, named := ["internal/bytealg.MaxLen", "unicode/utf8.first", "unicode/utf8.acceptRanges"], apart := false, laid := [("unicode/utf8.acceptRanges", laid_unicode_utf8_acceptRanges), ("unicode/utf8.first", laid_unicode_utf8_first)] }
def BankNoneSaid : Prop := bankNoneRow.holds Tryd.pinned (OpenSpec.ofChange bankNoneSpec)

/-- ITS FALSE NEIGHBOUR: 'it returns false'. Refute it at one input. -/
def bankNoneWrong : ChangeSpec := { name := "bankNone", fn := fun _ => fun
  | [d] => { results := [.lit (.bool false)], args := [d] }
  | _ => none }
def BankNoneWrongFalsely : Prop := bankNoneRow.holds Tryd.pinned (OpenSpec.ofChange bankNoneWrong)

/-- 'footbridgelaw27.VoucherApart': WHATEVER THE INPUT: true; the input reads as it did. -/
def voucherApartSpec : ChangeSpec := { name := "voucherApart", fn := fun _ => fun
  | [d1, d2] => { results := [.lit (.bool true)], args := [d1, d2] }
  | _ => none }
def voucherApartRow : OpenClaim := { program := "ytcbaojkfffodiaadoor", sum := "e76df73e2f0328a00ff2ed9dd5a95d4c5514285fbbdc51d7d2d4dd07e882ee0a", func := "footbridge/footbridgelaw27.VoucherApart", spec := "voucherApart", inPlace := ["internal/bytealg.CountString", "internal/bytealg.IndexByteString", "internal/bytealg.IndexString", "internal/abi.NoEscape", "internal/bytealg.MakeNoZero", "internal/bytealg.abigen_runtime_cmpstring", "slices.overlaps[footbridge/api.Pair]"], unfollowed := true, recurses := true, named := ["unicode/utf8.first", "unicode/utf8.acceptRanges", "internal/bytealg.MaxLen"], apart := false, laid := [("unicode/utf8.acceptRanges", laid_unicode_utf8_acceptRanges), ("unicode/utf8.first", laid_unicode_utf8_first)] }
def VoucherApartSaid : Prop := voucherApartRow.holds Tryd.pinned (OpenSpec.ofChange voucherApartSpec)

/-- ITS FALSE NEIGHBOUR: 'it returns false'. Refute it at one input. -/
def voucherApartWrong : ChangeSpec := { name := "voucherApart", fn := fun _ => fun
  | [d1, d2] => { results := [.lit (.bool false)], args := [d1, d2] }
  | _ => none }
def VoucherApartWrongFalsely : Prop := voucherApartRow.holds Tryd.pinned (OpenSpec.ofChange voucherApartWrong)

/-- 'footbridgelaw27.VoucherBack': WHATEVER THE INPUT: true; the input reads as it did. -/
def voucherBackSpec : ChangeSpec := { name := "voucherBack", fn := fun _ => fun
  | [d1, d2] => { results := [.lit (.bool true)], args := [d1, d2] }
  | _ => none }
def voucherBackRow : OpenClaim := { program := "ytcbaojkfffodiaadoor", sum := "e76df73e2f0328a00ff2ed9dd5a95d4c5514285fbbdc51d7d2d4dd07e882ee0a", func := "footbridge/footbridgelaw27.VoucherBack", spec := "voucherBack", inPlace := ["internal/bytealg.CountString", "internal/bytealg.IndexByteString", "internal/bytealg.IndexString", "internal/abi.NoEscape", "internal/bytealg.MakeNoZero", "internal/bytealg.abigen_runtime_cmpstring", "slices.overlaps[footbridge/api.Pair]"], unfollowed := true, recurses := true, named := ["unicode/utf8.first", "unicode/utf8.acceptRanges", "internal/bytealg.MaxLen"], apart := false, laid := [("unicode/utf8.acceptRanges", laid_unicode_utf8_acceptRanges), ("unicode/utf8.first", laid_unicode_utf8_first)] }
def VoucherBackSaid : Prop := voucherBackRow.holds Tryd.pinned (OpenSpec.ofChange voucherBackSpec)

/-- ITS FALSE NEIGHBOUR: 'it returns false'. Refute it at one input. -/
def voucherBackWrong : ChangeSpec := { name := "voucherBack", fn := fun _ => fun
  | [d1, d2] => { results := [.lit (.bool false)], args := [d1, d2] }
  | _ => none }
def VoucherBackWrongFalsely : Prop := voucherBackRow.holds Tryd.pinned (OpenSpec.ofChange voucherBackWrong)

/-- 'footbridgelaw27.VoucherNone': WHATEVER THE INPUT: true; the input reads as it did. -/
def voucherNoneSpec : ChangeSpec := { name := "voucherNone", fn := fun _ => fun
  | [d] => { results := [.lit (.bool true)], args := [d] }
  | _ => none }
def voucherNoneRow : OpenClaim := { program := "ytcbaojkfffodiaadoor", sum := "e76df73e2f0328a00ff2ed9dd5a95d4c5514285fbbdc51d7d2d4dd07e882ee0a", func := "footbridge/footbridgelaw27.VoucherNone", spec := "voucherNone", inPlace := ["internal/bytealg.CountString", "internal/bytealg.IndexByteString", "internal/bytealg.IndexString", "internal/abi.NoEscape", "internal/bytealg.MakeNoZero", "internal/bytealg.abigen_runtime_cmpstring", "slices.overlaps[footbridge/api.Pair]"], unfollowed := true, recurses := true, named := ["unicode/utf8.first", "unicode/utf8.acceptRanges", "internal/bytealg.MaxLen"], apart := false, laid := [("unicode/utf8.acceptRanges", laid_unicode_utf8_acceptRanges), ("unicode/utf8.first", laid_unicode_utf8_first)] }
def VoucherNoneSaid : Prop := voucherNoneRow.holds Tryd.pinned (OpenSpec.ofChange voucherNoneSpec)

/-- ITS FALSE NEIGHBOUR: 'it returns false'. Refute it at one input. -/
def voucherNoneWrong : ChangeSpec := { name := "voucherNone", fn := fun _ => fun
  | [d] => { results := [.lit (.bool false)], args := [d] }
  | _ => none }
def VoucherNoneWrongFalsely : Prop := voucherNoneRow.holds Tryd.pinned (OpenSpec.ofChange voucherNoneWrong)

/- THE SECOND FORM. 'bulk': how many values and letters a reading holds, each counted each time it is reached (what is shared counts as often as it is met; a slice's spare places count too). A statement '..UptoSaid' is the law's where the arguments, and the package variables that the reading takes, are together of bulk at most 1048576: NARROWER than '..Said'. Prove '..Said' where nothing that the law and all that it calls make is longer than what came in: it says more and counts as full. Else prove '..UptoSaid'. A law counts once. -/
mutual
def uptoBulk {H : Type} : DataW H → Nat
  | .lit (.string bytes) => bytes.length + 1
  | .lit _ => 1
  | .nil => 1
  | .ptr d => uptoBulk d + 1
  | .slice elems spare => uptoBulkAll elems + uptoBulkAll spare + 1
  | .agg parts => uptoBulkAll parts + 1
  | .iface _ d => uptoBulk d + 1
  | .map entries => uptoBulkEntries entries + 1
  | .held _ => 1
def uptoBulkAll {H : Type} : List (DataW H) → Nat
  | [] => 0
  | d :: r => uptoBulk d + uptoBulkAll r
def uptoBulkEntries {H : Type} : List (Lit × DataW H) → Nat
  | [] => 0
  | x :: r => uptoBulkEntry x + uptoBulkEntries r
def uptoBulkEntry {H : Type} : Lit × DataW H → Nat
  | (.string bytes, d) => bytes.length + uptoBulk d + 1
  | (_, d) => uptoBulk d + 1
 end
def uptoSmall : (H : Type) → List (DataW H) → Bool := fun _ ds => decide (uptoBulkAll ds ≤ 1048576)
def OpenSpec.upto (s : _root_.Go.ChangeSpec) : _root_.Go.OpenSpec := { _root_.Go.OpenSpec.ofChange s with cond := some uptoSmall }

/-- 'footbridgelaw22.ClassNone', WHERE WHAT IT READS IS OF BULK AT MOST 1048576: true; the input reads as it did. -/
def classNoneUptoRow : OpenClaim := { program := "ytcbaojkfffodiaadoor", sum := "e76df73e2f0328a00ff2ed9dd5a95d4c5514285fbbdc51d7d2d4dd07e882ee0a", func := "footbridge/footbridgelaw22.ClassNone", spec := "classNone", inPlace := ["internal/bytealg.CountString", "internal/bytealg.IndexByteString", "internal/bytealg.IndexString", "internal/abi.NoEscape", "internal/bytealg.MakeNoZero", "internal/bytealg.abigen_runtime_cmpstring", "slices.overlaps[footbridge/api.Pair]"], unfollowed := true, recurses := true, named := ["internal/bytealg.MaxLen", "unicode/utf8.first", "unicode/utf8.acceptRanges"], apart := false, laid := [("unicode/utf8.acceptRanges", laid_unicode_utf8_acceptRanges), ("unicode/utf8.first", laid_unicode_utf8_first)], narrowed := true }
def ClassNoneUptoSaid : Prop := classNoneUptoRow.holds Tryd.pinned (OpenSpec.upto classNoneSpec)

/-- 'footbridgelaw22.ClassPlays', WHERE WHAT IT READS IS OF BULK AT MOST 1048576: true; the input reads as it did. -/
def classPlaysUptoRow : OpenClaim := { program := "ytcbaojkfffodiaadoor", sum := "e76df73e2f0328a00ff2ed9dd5a95d4c5514285fbbdc51d7d2d4dd07e882ee0a", func := "footbridge/footbridgelaw22.ClassPlays", spec := "classPlays", inPlace := ["internal/bytealg.CountString", "internal/bytealg.IndexByteString", "internal/bytealg.IndexString", "internal/abi.NoEscape", "internal/bytealg.MakeNoZero", "internal/bytealg.abigen_runtime_cmpstring", "slices.overlaps[footbridge/api.Pair]"], unfollowed := true, recurses := true, named := ["internal/bytealg.MaxLen", "unicode/utf8.first", "unicode/utf8.acceptRanges"], apart := false, laid := [("unicode/utf8.acceptRanges", laid_unicode_utf8_acceptRanges), ("unicode/utf8.first", laid_unicode_utf8_first)], narrowed := true }
def ClassPlaysUptoSaid : Prop := classPlaysUptoRow.holds Tryd.pinned (OpenSpec.upto classPlaysSpec)

/-- 'footbridgelaw49.QuotaHolds', WHERE WHAT IT READS IS OF BULK AT MOST 1048576: true; the input reads as it did. -/
def quotaHoldsUptoRow : OpenClaim := { program := "ytcbaojkfffodiaadoor", sum := "e76df73e2f0328a00ff2ed9dd5a95d4c5514285fbbdc51d7d2d4dd07e882ee0a", func := "footbridge/footbridgelaw49.QuotaHolds", spec := "quotaHolds", inPlace := ["internal/bytealg.CountString", "internal/bytealg.IndexByteString", "internal/bytealg.IndexString", "internal/abi.NoEscape", "internal/bytealg.MakeNoZero", "internal/bytealg.abigen_runtime_cmpstring", "slices.overlaps[footbridge/api.Pair]"], unfollowed := true, recurses := true, named := ["internal/bytealg.MaxLen", "unicode/utf8.first", "unicode/utf8.acceptRanges"], apart := false, laid := [("unicode/utf8.acceptRanges", laid_unicode_utf8_acceptRanges), ("unicode/utf8.first", laid_unicode_utf8_first)], narrowed := true }
def QuotaHoldsUptoSaid : Prop := quotaHoldsUptoRow.holds Tryd.pinned (OpenSpec.upto quotaHoldsSpec)

/-- 'footbridgelaw34.RulesNone', WHERE WHAT IT READS IS OF BULK AT MOST 1048576: true; the input reads as it did. -/
def rulesNoneUptoRow : OpenClaim := { program := "ytcbaojkfffodiaadoor", sum := "e76df73e2f0328a00ff2ed9dd5a95d4c5514285fbbdc51d7d2d4dd07e882ee0a", func := "footbridge/footbridgelaw34.RulesNone", spec := "rulesNone", inPlace := ["internal/bytealg.CountString", "internal/bytealg.IndexByteString", "internal/bytealg.IndexString", "internal/abi.NoEscape", "internal/bytealg.MakeNoZero", "internal/bytealg.abigen_runtime_cmpstring", "slices.overlaps[footbridge/api.Pair]"], unfollowed := true, recurses := true, named := ["internal/bytealg.MaxLen", "unicode/utf8.first", "unicode/utf8.acceptRanges"], apart := false, laid := [("unicode/utf8.acceptRanges", laid_unicode_utf8_acceptRanges), ("unicode/utf8.first", laid_unicode_utf8_first)], narrowed := true }
def RulesNoneUptoSaid : Prop := rulesNoneUptoRow.holds Tryd.pinned (OpenSpec.upto rulesNoneSpec)

/-- 'footbridgelaw47.BankNone', WHERE WHAT IT READS IS OF BULK AT MOST 1048576: true; the input reads as it did. -/
def bankNoneUptoRow : OpenClaim := { program := "ytcbaojkfffodiaadoor", sum := "e76df73e2f0328a00ff2ed9dd5a95d4c5514285fbbdc51d7d2d4dd07e882ee0a", func := "footbridge/footbridgelaw47.BankNone", spec := "bankNone", inPlace := ["internal/bytealg.CountString", "internal/bytealg.IndexByteString", "internal/bytealg.IndexString", "internal/abi.NoEscape", "internal/bytealg.MakeNoZero", "internal/bytealg.abigen_runtime_cmpstring", "slices.overlaps[footbridge/api.Pair]"], unfollowed := true, recurses := true, named := ["internal/bytealg.MaxLen", "unicode/utf8.first", "unicode/utf8.acceptRanges"], apart := false, laid := [("unicode/utf8.acceptRanges", laid_unicode_utf8_acceptRanges), ("unicode/utf8.first", laid_unicode_utf8_first)], narrowed := true }
def BankNoneUptoSaid : Prop := bankNoneUptoRow.holds Tryd.pinned (OpenSpec.upto bankNoneSpec)

/-- 'footbridgelaw27.VoucherApart', WHERE WHAT IT READS IS OF BULK AT MOST 1048576: true; the input reads as it did. -/
def voucherApartUptoRow : OpenClaim := { program := "ytcbaojkfffodiaadoor", sum := "e76df73e2f0328a00ff2ed9dd5a95d4c5514285fbbdc51d7d2d4dd07e882ee0a", func := "footbridge/footbridgelaw27.VoucherApart", spec := "voucherApart", inPlace := ["internal/bytealg.CountString", "internal/bytealg.IndexByteString", "internal/bytealg.IndexString", "internal/abi.NoEscape", "internal/bytealg.MakeNoZero", "internal/bytealg.abigen_runtime_cmpstring", "slices.overlaps[footbridge/api.Pair]"], unfollowed := true, recurses := true, named := ["unicode/utf8.first", "unicode/utf8.acceptRanges", "internal/bytealg.MaxLen"], apart := false, laid := [("unicode/utf8.acceptRanges", laid_unicode_utf8_acceptRanges), ("unicode/utf8.first", laid_unicode_utf8_first)], narrowed := true }
def VoucherApartUptoSaid : Prop := voucherApartUptoRow.holds Tryd.pinned (OpenSpec.upto voucherApartSpec)

/-- 'footbridgelaw27.VoucherBack', WHERE WHAT IT READS IS OF BULK AT MOST 1048576: true; the input reads as it did. -/
def voucherBackUptoRow : OpenClaim := { program := "ytcbaojkfffodiaadoor", sum := "e76df73e2f0328a00ff2ed9dd5a95d4c5514285fbbdc51d7d2d4dd07e882ee0a", func := "footbridge/footbridgelaw27.VoucherBack", spec := "voucherBack", inPlace := ["internal/bytealg.CountString", "internal/bytealg.IndexByteString", "internal/bytealg.IndexString", "internal/abi.NoEscape", "internal/bytealg.MakeNoZero", "internal/bytealg.abigen_runtime_cmpstring", "slices.overlaps[footbridge/api.Pair]"], unfollowed := true, recurses := true, named := ["unicode/utf8.first", "unicode/utf8.acceptRanges", "internal/bytealg.MaxLen"], apart := false, laid := [("unicode/utf8.acceptRanges", laid_unicode_utf8_acceptRanges), ("unicode/utf8.first", laid_unicode_utf8_first)], narrowed := true }
def VoucherBackUptoSaid : Prop := voucherBackUptoRow.holds Tryd.pinned (OpenSpec.upto voucherBackSpec)

/-- 'footbridgelaw27.VoucherNone', WHERE WHAT IT READS IS OF BULK AT MOST 1048576: true; the input reads as it did. -/
def voucherNoneUptoRow : OpenClaim := { program := "ytcbaojkfffodiaadoor", sum := "e76df73e2f0328a00ff2ed9dd5a95d4c5514285fbbdc51d7d2d4dd07e882ee0a", func := "footbridge/footbridgelaw27.VoucherNone", spec := "voucherNone", inPlace := ["internal/bytealg.CountString", "internal/bytealg.IndexByteString", "internal/bytealg.IndexString", "internal/abi.NoEscape", "internal/bytealg.MakeNoZero", "internal/bytealg.abigen_runtime_cmpstring", "slices.overlaps[footbridge/api.Pair]"], unfollowed := true, recurses := true, named := ["unicode/utf8.first", "unicode/utf8.acceptRanges", "internal/bytealg.MaxLen"], apart := false, laid := [("unicode/utf8.acceptRanges", laid_unicode_utf8_acceptRanges), ("unicode/utf8.first", laid_unicode_utf8_first)], narrowed := true }
def VoucherNoneUptoSaid : Prop := voucherNoneUptoRow.holds Tryd.pinned (OpenSpec.upto voucherNoneSpec)

end Rows
end Go.Proofs.YtcbaojkfffodiaaDoor
