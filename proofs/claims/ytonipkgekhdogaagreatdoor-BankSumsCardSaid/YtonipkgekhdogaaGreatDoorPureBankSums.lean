/- BankSums, in plain terms. No condition beyond those stated. -/
import Derived.Test.YtonipkgekhdogaaGreatDoorPBasx42
import Derived.Test.YtonipkgekhdogaaGreatDoorPBaso
namespace Go.Proofs.YtonipkgekhdogaaGreatDoor.Pure
open Go.RowKit Go.Proofs.YtonipkgekhdogaaGreatDoor.PBas Go.Proofs.YtonipkgekhdogaaGreatDoorW.PrintWords Go.Proofs.YtonipkgekhdogaaGreatDoorW.PrintLast
set_option linter.unusedVariables false
theorem BankSums (x0 : List (S30)) (h0 : (x0.length ≤ 9223372036854775807 ∧ ∀ y_ ∈ x0, ok30 y_)) : footbridgelaw47_BankSums.f x0 = some true := rfl
end Go.Proofs.YtonipkgekhdogaaGreatDoor.Pure
