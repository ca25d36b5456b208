/- ClassPlays, in plain terms. No condition beyond those stated. -/
import Derived.Test.YtcbaojkfffodiaaDoorPClax29
import Derived.Test.YtcbaojkfffodiaaDoorPClao
namespace Go.Proofs.YtcbaojkfffodiaaDoor.Pure
open Go.RowKit Go.Proofs.YtcbaojkfffodiaaDoor.PCla Go.Proofs.YtcbaojkfffodiaaDoorW.PrintWords Go.Proofs.YtcbaojkfffodiaaDoorW.PrintLast
set_option linter.unusedVariables false
theorem ClassPlays (x0 : List (S23)) (h0 : (x0.length ≤ 9223372036854775807 ∧ ∀ y_ ∈ x0, ok23 y_)) : footbridgelaw22_ClassPlays.f x0 = some true := rfl
end Go.Proofs.YtcbaojkfffodiaaDoor.Pure
