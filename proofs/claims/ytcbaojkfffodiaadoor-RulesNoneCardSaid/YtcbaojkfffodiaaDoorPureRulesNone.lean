/- RulesNone, in plain terms. No condition beyond those stated. -/
import Derived.Test.YtcbaojkfffodiaaDoorPRulx23
import Derived.Test.YtcbaojkfffodiaaDoorPRulo
namespace Go.Proofs.YtcbaojkfffodiaaDoor.Pure
open Go.RowKit Go.Proofs.YtcbaojkfffodiaaDoor.PRul Go.Proofs.YtcbaojkfffodiaaDoorW.PrintWords Go.Proofs.YtcbaojkfffodiaaDoorW.PrintLast
set_option linter.unusedVariables false
theorem RulesNone (x0 : S52) (h0 : ok52 x0) : footbridgelaw34_RulesNone.f x0.f0 x0.f1.f0 x0.f1.f1 x0.f2 x0.f3 x0.f4 = some true := rfl
end Go.Proofs.YtcbaojkfffodiaaDoor.Pure
