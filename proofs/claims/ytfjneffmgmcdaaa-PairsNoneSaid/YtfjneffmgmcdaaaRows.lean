/-
  No cell of these rows narrows 'for every input' (looked for: loops, veiled, ifaces, maps, wideKeys, modest, calm, conditions, laid).
  DERIVED. THE GIVEN ROWS OF THIS SEAT. 12 by the template 'for every input the law returns true; each argument reads behind the call as it read before'; 0 by the template 'total and deterministic' (their statements: YtfjneffmgmcdaaaTotals.lean).
  GIVEN WITH THE SEED: the statements are not yours to turn. If you find one false, say at which input.
  Laid BY PROGRAM, IN A SANDBOX (cutbox-rows.mjs): the forced cells as the released guide's own fill.sh prints them over the translation b1dfafc6b1d5e2f0… (all of the seat's roots in one cut). By AI agents, Wed Nov 11 2026. No macro, syntax, notation, axiom, sorry.
-/
import Derived.Test.YtfjneffmgmcdaaaChecked
import GoSem.Claim
import GoSem.ClaimJoined
import GoSem.ClaimMapViews
import Derived.JoinedTies
import Derived.KernelRfl
namespace Go.Proofs.Ytfjneffmgmcdaaa
/- THE CELL 'sum', in the pinned program and in every row, IS THE sha256 OF THE DUMP (.gsa) THAT YtfjneffmgmcdaaaProg.lean LOADS. Nothing in Lean hashes anything: it is a label: what it is worth is what the hold of that sum in a sandbox is worth. -/
noncomputable def Try.pinned : Pinned := { name := "ytfjneffmgmcdaaa", sum := "b1dfafc6b1d5e2f00eaa2d4cd48f5ce8b978ec2da9b29f5257d1feff85aebd15", checked := Try.checked }
namespace Rows
def none {H : Type} : Left H := { results := [], args := [] }

/-- 'footbridgelaw02.HexaPuts': WHATEVER THE INPUT: true; the input reads as it did. -/
def hexaPutsSpec : ChangeSpec := { name := "hexaPuts", fn := fun _ => fun
  | [d1, d2] => { results := [.lit (.bool true)], args := [d1, d2] }
  | _ => none }
def hexaPutsRow : OpenClaim := { program := "ytfjneffmgmcdaaa", sum := "b1dfafc6b1d5e2f00eaa2d4cd48f5ce8b978ec2da9b29f5257d1feff85aebd15", func := "footbridge/footbridgelaw02.HexaPuts", spec := "hexaPuts", apart := false }
def HexaPutsSaid : Prop := hexaPutsRow.holds Try.pinned (OpenSpec.ofChange hexaPutsSpec)

/-- ITS FALSE NEIGHBOUR: 'it returns false'. Refute it at one input. -/
def hexaPutsWrong : ChangeSpec := { name := "hexaPuts", fn := fun _ => fun
  | [d1, d2] => { results := [.lit (.bool false)], args := [d1, d2] }
  | _ => none }
def HexaPutsWrongFalsely : Prop := hexaPutsRow.holds Try.pinned (OpenSpec.ofChange hexaPutsWrong)

/-- 'footbridgelaw02.HexaBack': WHATEVER THE INPUT: true; the input reads as it did. -/
def hexaBackSpec : ChangeSpec := { name := "hexaBack", fn := fun _ => fun
  | [d1, d2] => { results := [.lit (.bool true)], args := [d1, d2] }
  | _ => none }
def hexaBackRow : OpenClaim := { program := "ytfjneffmgmcdaaa", sum := "b1dfafc6b1d5e2f00eaa2d4cd48f5ce8b978ec2da9b29f5257d1feff85aebd15", func := "footbridge/footbridgelaw02.HexaBack", spec := "hexaBack", apart := false }
def HexaBackSaid : Prop := hexaBackRow.holds Try.pinned (OpenSpec.ofChange hexaBackSpec)

/-- ITS FALSE NEIGHBOUR: 'it returns false'. Refute it at one input. -/
def hexaBackWrong : ChangeSpec := { name := "hexaBack", fn := fun _ => fun
  | [d1, d2] => { results := [.lit (.bool false)], args := [d1, d2] }
  | _ => none }
def HexaBackWrongFalsely : Prop := hexaBackRow.holds Try.pinned (OpenSpec.ofChange hexaBackWrong)

/-- 'footbridgelaw03.NamesChecks': WHATEVER THE INPUT: true; the input reads as it did. -/
def namesChecksSpec : ChangeSpec := { name := "namesChecks", fn := fun _ => fun
  | [d1, d2] => { results := [.lit (.bool true)], args := [d1, d2] }
  | _ => none }
def namesChecksRow : OpenClaim := { program := "ytfjneffmgmcdaaa", sum := "b1dfafc6b1d5e2f00eaa2d4cd48f5ce8b978ec2da9b29f5257d1feff85aebd15", func := "footbridge/footbridgelaw03.NamesChecks", spec := "namesChecks", recurses := true, apart := false }
def NamesChecksSaid : Prop := namesChecksRow.holds Try.pinned (OpenSpec.ofChange namesChecksSpec)

/-- ITS FALSE NEIGHBOUR: 'it returns false'. Refute it at one input. -/
def namesChecksWrong : ChangeSpec := { name := "namesChecks", fn := fun _ => fun
  | [d1, d2] => { results := [.lit (.bool false)], args := [d1, d2] }
  | _ => none }
def NamesChecksWrongFalsely : Prop := namesChecksRow.holds Try.pinned (OpenSpec.ofChange namesChecksWrong)

/-- 'footbridgelaw03.NamesMake': WHATEVER THE INPUT: true; the input reads as it did. -/
def namesMakeSpec : ChangeSpec := { name := "namesMake", fn := fun _ => fun
  | [d1, d2] => { results := [.lit (.bool true)], args := [d1, d2] }
  | _ => none }
def namesMakeRow : OpenClaim := { program := "ytfjneffmgmcdaaa", sum := "b1dfafc6b1d5e2f00eaa2d4cd48f5ce8b978ec2da9b29f5257d1feff85aebd15", func := "footbridge/footbridgelaw03.NamesMake", spec := "namesMake", recurses := true, apart := false }
def NamesMakeSaid : Prop := namesMakeRow.holds Try.pinned (OpenSpec.ofChange namesMakeSpec)

/-- ITS FALSE NEIGHBOUR: 'it returns false'. Refute it at one input. -/
def namesMakeWrong : ChangeSpec := { name := "namesMake", fn := fun _ => fun
  | [d1, d2] => { results := [.lit (.bool false)], args := [d1, d2] }
  | _ => none }
def NamesMakeWrongFalsely : Prop := namesMakeRow.holds Try.pinned (OpenSpec.ofChange namesMakeWrong)

/-- 'footbridgelaw03.NamesNoSlash': WHATEVER THE INPUT: true; the input reads as it did. -/
def namesNoSlashSpec : ChangeSpec := { name := "namesNoSlash", fn := fun _ => fun
  | [d1, d2] => { results := [.lit (.bool true)], args := [d1, d2] }
  | _ => none }
def namesNoSlashRow : OpenClaim := { program := "ytfjneffmgmcdaaa", sum := "b1dfafc6b1d5e2f00eaa2d4cd48f5ce8b978ec2da9b29f5257d1feff85aebd15", func := "footbridge/footbridgelaw03.NamesNoSlash", spec := "namesNoSlash", recurses := true, apart := false }
def NamesNoSlashSaid : Prop := namesNoSlashRow.holds Try.pinned (OpenSpec.ofChange namesNoSlashSpec)

/-- ITS FALSE NEIGHBOUR: 'it returns false'. Refute it at one input. -/
def namesNoSlashWrong : ChangeSpec := { name := "namesNoSlash", fn := fun _ => fun
  | [d1, d2] => { results := [.lit (.bool false)], args := [d1, d2] }
  | _ => none }
def NamesNoSlashWrongFalsely : Prop := namesNoSlashRow.holds Try.pinned (OpenSpec.ofChange namesNoSlashWrong)

/-- 'footbridgelaw06.QuotePuts': WHATEVER THE INPUT: true; the input reads as it did. -/
def quotePutsSpec : ChangeSpec := { name := "quotePuts", fn := fun _ => fun
  | [d1, d2] => { results := [.lit (.bool true)], args := [d1, d2] }
  | _ => none }
def quotePutsRow : OpenClaim := { program := "ytfjneffmgmcdaaa", sum := "b1dfafc6b1d5e2f00eaa2d4cd48f5ce8b978ec2da9b29f5257d1feff85aebd15", func := "footbridge/footbridgelaw06.QuotePuts", spec := "quotePuts", inPlace := ["internal/abi.NoEscape", "internal/bytealg.IndexByteString", "internal/bytealg.IndexString"], named := ["internal/bytealg.MaxLen"], apart := false }
def QuotePutsSaid : Prop := quotePutsRow.holds Try.pinned (OpenSpec.ofChange quotePutsSpec)

/-- ITS FALSE NEIGHBOUR: 'it returns false'. Refute it at one input. -/
def quotePutsWrong : ChangeSpec := { name := "quotePuts", fn := fun _ => fun
  | [d1, d2] => { results := [.lit (.bool false)], args := [d1, d2] }
  | _ => none }
def QuotePutsWrongFalsely : Prop := quotePutsRow.holds Try.pinned (OpenSpec.ofChange quotePutsWrong)

/-- 'footbridgelaw06.QuoteBack': WHATEVER THE INPUT: true; the input reads as it did. -/
def quoteBackSpec : ChangeSpec := { name := "quoteBack", fn := fun _ => fun
  | [d1, d2] => { results := [.lit (.bool true)], args := [d1, d2] }
  | _ => none }
def quoteBackRow : OpenClaim := { program := "ytfjneffmgmcdaaa", sum := "b1dfafc6b1d5e2f00eaa2d4cd48f5ce8b978ec2da9b29f5257d1feff85aebd15", func := "footbridge/footbridgelaw06.QuoteBack", spec := "quoteBack", inPlace := ["internal/abi.NoEscape", "internal/bytealg.IndexByteString", "internal/bytealg.IndexString"], named := ["internal/bytealg.MaxLen"], apart := false }
def QuoteBackSaid : Prop := quoteBackRow.holds Try.pinned (OpenSpec.ofChange quoteBackSpec)

/-- ITS FALSE NEIGHBOUR: 'it returns false'. Refute it at one input. -/
def quoteBackWrong : ChangeSpec := { name := "quoteBack", fn := fun _ => fun
  | [d1, d2] => { results := [.lit (.bool false)], args := [d1, d2] }
  | _ => none }
def QuoteBackWrongFalsely : Prop := quoteBackRow.holds Try.pinned (OpenSpec.ofChange quoteBackWrong)

/-- 'footbridgelaw33.RoyaltyReads': WHATEVER THE INPUT: true; the input reads as it did. -/
def royaltyReadsSpec : ChangeSpec := { name := "royaltyReads", fn := fun _ => fun
  | [d1, d2, d3] => { results := [.lit (.bool true)], args := [d1, d2, d3] }
  | _ => none }
def royaltyReadsRow : OpenClaim := { program := "ytfjneffmgmcdaaa", sum := "b1dfafc6b1d5e2f00eaa2d4cd48f5ce8b978ec2da9b29f5257d1feff85aebd15", func := "footbridge/footbridgelaw33.RoyaltyReads", spec := "royaltyReads", inPlace := ["internal/bytealg.IndexByteString", "internal/bytealg.IndexString"], recurses := true, named := ["internal/bytealg.MaxLen"], apart := false }
def RoyaltyReadsSaid : Prop := royaltyReadsRow.holds Try.pinned (OpenSpec.ofChange royaltyReadsSpec)

/-- ITS FALSE NEIGHBOUR: 'it returns false'. Refute it at one input. -/
def royaltyReadsWrong : ChangeSpec := { name := "royaltyReads", fn := fun _ => fun
  | [d1, d2, d3] => { results := [.lit (.bool false)], args := [d1, d2, d3] }
  | _ => none }
def RoyaltyReadsWrongFalsely : Prop := royaltyReadsRow.holds Try.pinned (OpenSpec.ofChange royaltyReadsWrong)

/-- 'footbridgelaw33.RoyaltyBack': WHATEVER THE INPUT: true; the input reads as it did. -/
def royaltyBackSpec : ChangeSpec := { name := "royaltyBack", fn := fun _ => fun
  | [d1, d2, d3] => { results := [.lit (.bool true)], args := [d1, d2, d3] }
  | _ => none }
def royaltyBackRow : OpenClaim := { program := "ytfjneffmgmcdaaa", sum := "b1dfafc6b1d5e2f00eaa2d4cd48f5ce8b978ec2da9b29f5257d1feff85aebd15", func := "footbridge/footbridgelaw33.RoyaltyBack", spec := "royaltyBack", inPlace := ["internal/bytealg.IndexByteString", "internal/bytealg.IndexString"], recurses := true, named := ["internal/bytealg.MaxLen"], apart := false }
def RoyaltyBackSaid : Prop := royaltyBackRow.holds Try.pinned (OpenSpec.ofChange royaltyBackSpec)

/-- ITS FALSE NEIGHBOUR: 'it returns false'. Refute it at one input. -/
def royaltyBackWrong : ChangeSpec := { name := "royaltyBack", fn := fun _ => fun
  | [d1, d2, d3] => { results := [.lit (.bool false)], args := [d1, d2, d3] }
  | _ => none }
def RoyaltyBackWrongFalsely : Prop := royaltyBackRow.holds Try.pinned (OpenSpec.ofChange royaltyBackWrong)

/-- 'footbridgelaw09.PairsPlays': WHATEVER THE INPUT: true; the input reads as it did. -/
def pairsPlaysSpec : ChangeSpec := { name := "pairsPlays", fn := fun _ => fun
  | [d] => { results := [.lit (.bool true)], args := [d] }
  | _ => none }
def pairsPlaysRow : OpenClaim := { program := "ytfjneffmgmcdaaa", sum := "b1dfafc6b1d5e2f00eaa2d4cd48f5ce8b978ec2da9b29f5257d1feff85aebd15", func := "footbridge/footbridgelaw09.PairsPlays", spec := "pairsPlays", inPlace := ["internal/bytealg.abigen_runtime_cmpstring", "slices.overlaps[footbridge/api.Pair]"], unfollowed := true, recurses := true, apart := false }
def PairsPlaysSaid : Prop := pairsPlaysRow.holds Try.pinned (OpenSpec.ofChange pairsPlaysSpec)

/-- ITS FALSE NEIGHBOUR: 'it returns false'. Refute it at one input. -/
def pairsPlaysWrong : ChangeSpec := { name := "pairsPlays", fn := fun _ => fun
  | [d] => { results := [.lit (.bool false)], args := [d] }
  | _ => none }
def PairsPlaysWrongFalsely : Prop := pairsPlaysRow.holds Try.pinned (OpenSpec.ofChange pairsPlaysWrong)

/-- 'footbridgelaw09.PairsCopies': WHATEVER THE INPUT: true; the input reads as it did. -/
def pairsCopiesSpec : ChangeSpec := { name := "pairsCopies", fn := fun _ => fun
  | [d1, d2] => { results := [.lit (.bool true)], args := [d1, d2] }
  | _ => none }
def pairsCopiesRow : OpenClaim := { program := "ytfjneffmgmcdaaa", sum := "b1dfafc6b1d5e2f00eaa2d4cd48f5ce8b978ec2da9b29f5257d1feff85aebd15", func := "footbridge/footbridgelaw09.PairsCopies", spec := "pairsCopies", inPlace := ["internal/bytealg.abigen_runtime_cmpstring", "slices.overlaps[footbridge/api.Pair]"], unfollowed := true, recurses := true, apart := false }
def PairsCopiesSaid : Prop := pairsCopiesRow.holds Try.pinned (OpenSpec.ofChange pairsCopiesSpec)

/-- ITS FALSE NEIGHBOUR: 'it returns false'. Refute it at one input. -/
def pairsCopiesWrong : ChangeSpec := { name := "pairsCopies", fn := fun _ => fun
  | [d1, d2] => { results := [.lit (.bool false)], args := [d1, d2] }
  | _ => none }
def PairsCopiesWrongFalsely : Prop := pairsCopiesRow.holds Try.pinned (OpenSpec.ofChange pairsCopiesWrong)

/-- 'footbridgelaw09.PairsNone': WHATEVER THE INPUT: true; the input reads as it did. -/
def pairsNoneSpec : ChangeSpec := { name := "pairsNone", fn := fun _ => fun
  | [d] => { results := [.lit (.bool true)], args := [d] }
  | _ => none }
def pairsNoneRow : OpenClaim := { program := "ytfjneffmgmcdaaa", sum := "b1dfafc6b1d5e2f00eaa2d4cd48f5ce8b978ec2da9b29f5257d1feff85aebd15", func := "footbridge/footbridgelaw09.PairsNone", spec := "pairsNone", inPlace := ["internal/bytealg.abigen_runtime_cmpstring", "slices.overlaps[footbridge/api.Pair]"], unfollowed := true, recurses := true, apart := false }
def PairsNoneSaid : Prop := pairsNoneRow.holds Try.pinned (OpenSpec.ofChange pairsNoneSpec)

/-- ITS FALSE NEIGHBOUR: 'it returns false'. Refute it at one input. -/
def pairsNoneWrong : ChangeSpec := { name := "pairsNone", fn := fun _ => fun
  | [d] => { results := [.lit (.bool false)], args := [d] }
  | _ => none }
def PairsNoneWrongFalsely : Prop := pairsNoneRow.holds Try.pinned (OpenSpec.ofChange pairsNoneWrong)

/- THE SECOND FORM. 'bulk': how many values and letters a reading holds, each counted each time it is reached (what is shared counts as often as it is met; a slice's spare places count too). A statement '..UptoSaid' is the law's where the arguments, and the package variables that the reading takes, are together of bulk at most 1048576: NARROWER than '..Said'. Prove '..Said' where nothing that the law and all that it calls make is longer than what came in: it says more and counts as full. Else prove '..UptoSaid'. A law counts once. -/
mutual
def uptoBulk {H : Type} : DataW H → Nat
  | .lit (.string bytes) => bytes.length + 1
  | .lit _ => 1
  | .nil => 1
  | .ptr d => uptoBulk d + 1
  | .slice elems spare => uptoBulkAll elems + uptoBulkAll spare + 1
  | .agg parts => uptoBulkAll parts + 1
  | .iface _ d => uptoBulk d + 1
  | .map entries => uptoBulkEntries entries + 1
  | .held _ => 1
def uptoBulkAll {H : Type} : List (DataW H) → Nat
  | [] => 0
  | d :: r => uptoBulk d + uptoBulkAll r
def uptoBulkEntries {H : Type} : List (Lit × DataW H) → Nat
  | [] => 0
  | x :: r => uptoBulkEntry x + uptoBulkEntries r
def uptoBulkEntry {H : Type} : Lit × DataW H → Nat
  | (.string bytes, d) => bytes.length + uptoBulk d + 1
  | (_, d) => uptoBulk d + 1
 end
def uptoSmall : (H : Type) → List (DataW H) → Bool := fun _ ds => decide (uptoBulkAll ds ≤ 1048576)
def OpenSpec.upto (s : _root_.Go.ChangeSpec) : _root_.Go.OpenSpec := { _root_.Go.OpenSpec.ofChange s with cond := some uptoSmall }

/-- 'footbridgelaw02.HexaPuts', WHERE WHAT IT READS IS OF BULK AT MOST 1048576: true; the input reads as it did. -/
def hexaPutsUptoRow : OpenClaim := { program := "ytfjneffmgmcdaaa", sum := "b1dfafc6b1d5e2f00eaa2d4cd48f5ce8b978ec2da9b29f5257d1feff85aebd15", func := "footbridge/footbridgelaw02.HexaPuts", spec := "hexaPuts", apart := false, narrowed := true }
def HexaPutsUptoSaid : Prop := hexaPutsUptoRow.holds Try.pinned (OpenSpec.upto hexaPutsSpec)

/-- 'footbridgelaw02.HexaBack', WHERE WHAT IT READS IS OF BULK AT MOST 1048576: true; the input reads as it did. -/
def hexaBackUptoRow : OpenClaim := { program := "ytfjneffmgmcdaaa", sum := "b1dfafc6b1d5e2f00eaa2d4cd48f5ce8b978ec2da9b29f5257d1feff85aebd15", func := "footbridge/footbridgelaw02.HexaBack", spec := "hexaBack", apart := false, narrowed := true }
def HexaBackUptoSaid : Prop := hexaBackUptoRow.holds Try.pinned (OpenSpec.upto hexaBackSpec)

/-- 'footbridgelaw03.NamesChecks', WHERE WHAT IT READS IS OF BULK AT MOST 1048576: true; the input reads as it did. -/
def namesChecksUptoRow : OpenClaim := { program := "ytfjneffmgmcdaaa", sum := "b1dfafc6b1d5e2f00eaa2d4cd48f5ce8b978ec2da9b29f5257d1feff85aebd15", func := "footbridge/footbridgelaw03.NamesChecks", spec := "namesChecks", recurses := true, apart := false, narrowed := true }
def NamesChecksUptoSaid : Prop := namesChecksUptoRow.holds Try.pinned (OpenSpec.upto namesChecksSpec)

/-- 'footbridgelaw03.NamesMake', WHERE WHAT IT READS IS OF BULK AT MOST 1048576: true; the input reads as it did. -/
def namesMakeUptoRow : OpenClaim := { program := "ytfjneffmgmcdaaa", sum := "b1dfafc6b1d5e2f00eaa2d4cd48f5ce8b978ec2da9b29f5257d1feff85aebd15", func := "footbridge/footbridgelaw03.NamesMake", spec := "namesMake", recurses := true, apart := false, narrowed := true }
def NamesMakeUptoSaid : Prop := namesMakeUptoRow.holds Try.pinned (OpenSpec.upto namesMakeSpec)

/-- 'footbridgelaw03.NamesNoSlash', WHERE WHAT IT READS IS OF BULK AT MOST 1048576: true; the input reads as it did. -/
def namesNoSlashUptoRow : OpenClaim := { program := "ytfjneffmgmcdaaa", sum := "b1dfafc6b1d5e2f00eaa2d4cd48f5ce8b978ec2da9b29f5257d1feff85aebd15", func := "footbridge/footbridgelaw03.NamesNoSlash", spec := "namesNoSlash", recurses := true, apart := false, narrowed := true }
def NamesNoSlashUptoSaid : Prop := namesNoSlashUptoRow.holds Try.pinned (OpenSpec.upto namesNoSlashSpec)

/-- 'footbridgelaw06.QuotePuts', WHERE WHAT IT READS IS OF BULK AT MOST 1048576: true; the input reads as it did. -/
def quotePutsUptoRow : OpenClaim := { program := "ytfjneffmgmcdaaa", sum := "b1dfafc6b1d5e2f00eaa2d4cd48f5ce8b978ec2da9b29f5257d1feff85aebd15", func := "footbridge/footbridgelaw06.QuotePuts", spec := "quotePuts", inPlace := ["internal/abi.NoEscape", "internal/bytealg.IndexByteString", "internal/bytealg.IndexString"], named := ["internal/bytealg.MaxLen"], apart := false, narrowed := true }
def QuotePutsUptoSaid : Prop := quotePutsUptoRow.holds Try.pinned (OpenSpec.upto quotePutsSpec)

/-- 'footbridgelaw06.QuoteBack', WHERE WHAT IT READS IS OF BULK AT MOST 1048576: true; the input reads as it did. -/
def quoteBackUptoRow : OpenClaim := { program := "ytfjneffmgmcdaaa", sum := "b1dfafc6b1d5e2f00eaa2d4cd48f5ce8b978ec2da9b29f5257d1feff85aebd15", func := "footbridge/footbridgelaw06.QuoteBack", spec := "quoteBack", inPlace := ["internal/abi.NoEscape", "internal/bytealg.IndexByteString", "internal/bytealg.IndexString"], named := ["internal/bytealg.MaxLen"], apart := false, narrowed := true }
def QuoteBackUptoSaid : Prop := quoteBackUptoRow.holds Try.pinned (OpenSpec.upto quoteBackSpec)

/-- 'footbridgelaw33.RoyaltyReads', WHERE WHAT IT READS IS OF BULK AT MOST 1048576: true; the input reads as it did. -/
def royaltyReadsUptoRow : OpenClaim := { program := "ytfjneffmgmcdaaa", sum := "b1dfafc6b1d5e2f00eaa2d4cd48f5ce8b978ec2da9b29f5257d1feff85aebd15", func := "footbridge/footbridgelaw33.RoyaltyReads", spec := "royaltyReads", inPlace := ["internal/bytealg.IndexByteString", "internal/bytealg.IndexString"], recurses := true, named := ["internal/bytealg.MaxLen"], apart := false, narrowed := true }
def RoyaltyReadsUptoSaid : Prop := royaltyReadsUptoRow.holds Try.pinned (OpenSpec.upto royaltyReadsSpec)

/-- 'footbridgelaw33.RoyaltyBack', WHERE WHAT IT READS IS OF BULK AT MOST 1048576: true; the input reads as it did. -/
def royaltyBackUptoRow : OpenClaim := { program := "ytfjneffmgmcdaaa", sum := "b1dfafc6b1d5e2f00eaa2d4cd48f5ce8b978ec2da9b29f5257d1feff85aebd15", func := "footbridge/footbridgelaw33.RoyaltyBack", spec := "royaltyBack", inPlace := ["internal/bytealg.IndexByteString", "internal/bytealg.IndexString"], recurses := true, named := ["internal/bytealg.MaxLen"], apart := false, narrowed := true }
def RoyaltyBackUptoSaid : Prop := royaltyBackUptoRow.holds Try.pinned (OpenSpec.upto royaltyBackSpec)

/-- 'footbridgelaw09.PairsPlays', WHERE WHAT IT READS IS OF BULK AT MOST 1048576: true; the input reads as it did. -/
def pairsPlaysUptoRow : OpenClaim := { program := "ytfjneffmgmcdaaa", sum := "b1dfafc6b1d5e2f00eaa2d4cd48f5ce8b978ec2da9b29f5257d1feff85aebd15", func := "footbridge/footbridgelaw09.PairsPlays", spec := "pairsPlays", inPlace := ["internal/bytealg.abigen_runtime_cmpstring", "slices.overlaps[footbridge/api.Pair]"], unfollowed := true, recurses := true, apart := false, narrowed := true }
def PairsPlaysUptoSaid : Prop := pairsPlaysUptoRow.holds Try.pinned (OpenSpec.upto pairsPlaysSpec)

/-- 'footbridgelaw09.PairsCopies', WHERE WHAT IT READS IS OF BULK AT MOST 1048576: true; the input reads as it did. -/
def pairsCopiesUptoRow : OpenClaim := { program := "ytfjneffmgmcdaaa", sum := "b1dfafc6b1d5e2f00eaa2d4cd48f5ce8b978ec2da9b29f5257d1feff85aebd15", func := "footbridge/footbridgelaw09.PairsCopies", spec := "pairsCopies", inPlace := ["internal/bytealg.abigen_runtime_cmpstring", "slices.overlaps[footbridge/api.Pair]"], unfollowed := true, recurses := true, apart := false, narrowed := true }
def PairsCopiesUptoSaid : Prop := pairsCopiesUptoRow.holds Try.pinned (OpenSpec.upto pairsCopiesSpec)

/-- 'footbridgelaw09.PairsNone', WHERE WHAT IT READS IS OF BULK AT MOST 1048576: true; the input reads as it did. -/
def pairsNoneUptoRow : OpenClaim := { program := "ytfjneffmgmcdaaa", sum := "b1dfafc6b1d5e2f00eaa2d4cd48f5ce8b978ec2da9b29f5257d1feff85aebd15", func := "footbridge/footbridgelaw09.PairsNone", spec := "pairsNone", inPlace := ["internal/bytealg.abigen_runtime_cmpstring", "slices.overlaps[footbridge/api.Pair]"], unfollowed := true, recurses := true, apart := false, narrowed := true }
def PairsNoneUptoSaid : Prop := pairsNoneUptoRow.holds Try.pinned (OpenSpec.upto pairsNoneSpec)

end Rows
end Go.Proofs.Ytfjneffmgmcdaaa
