import Derived.Test.YtcbaojkfffodiaaPJoux18
import Derived.Test.YtcbaojkfffodiaaPJouo
namespace Go.Proofs.Ytcbaojkfffodiaa.Pure
open Go.RowKit Go.Proofs.Ytcbaojkfffodiaa.PJou Go.Proofs.YtcbaojkfffodiaaW.PrintWords Go.Proofs.YtcbaojkfffodiaaW.PrintLast
set_option linter.unusedVariables false
theorem JournalNone (x0 : S33) (h0 : ok33 x0) : footbridgelaw10_JournalNone.f x0.f0 x0.f1 x0.f2 = some true := rfl
end Go.Proofs.Ytcbaojkfffodiaa.Pure
