/- BankPlays, in plain terms. No condition beyond those stated. -/
import Derived.Test.YtonipkgekhdogaaGreatDoorPBapx42
import Derived.Test.YtonipkgekhdogaaGreatDoorPBapo
namespace Go.Proofs.YtonipkgekhdogaaGreatDoor.Pure
open Go.RowKit Go.Proofs.YtonipkgekhdogaaGreatDoor.PBap Go.Proofs.YtonipkgekhdogaaGreatDoorW.PrintWords Go.Proofs.YtonipkgekhdogaaGreatDoorW.PrintLast
set_option linter.unusedVariables false
theorem BankPlays (x0 : List (S30)) (h0 : (x0.length ≤ 9223372036854775807 ∧ ∀ y_ ∈ x0, ok30 y_)) : footbridgelaw47_BankPlays.f x0 = some true := rfl
end Go.Proofs.YtonipkgekhdogaaGreatDoor.Pure
