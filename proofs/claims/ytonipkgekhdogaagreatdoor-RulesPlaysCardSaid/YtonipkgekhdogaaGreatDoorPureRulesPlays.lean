/- RulesPlays, in plain terms. No condition beyond those stated. -/
import Derived.Test.YtonipkgekhdogaaGreatDoorPRupx39
import Derived.Test.YtonipkgekhdogaaGreatDoorPRupo
namespace Go.Proofs.YtonipkgekhdogaaGreatDoor.Pure
open Go.RowKit Go.Proofs.YtonipkgekhdogaaGreatDoor.PRup Go.Proofs.YtonipkgekhdogaaGreatDoorW.PrintWords Go.Proofs.YtonipkgekhdogaaGreatDoorW.PrintLast
set_option linter.unusedVariables false
theorem RulesPlays (x0 : List (S41)) (x1 : ByteArray) (x2 : Int) (h0 : (x0.length ≤ 9223372036854775807 ∧ ∀ y_ ∈ x0, ok41 y_)) (h1 : x1.size ≤ 140737488351232) (h2 : (Lit.int .i64 x2).wf = true) : footbridgelaw34_RulesPlays.f x0 x1 x2 = some true := rfl
end Go.Proofs.YtonipkgekhdogaaGreatDoor.Pure
