/- TokenNone, in plain terms. No condition beyond those stated. -/
import Derived.Test.YtjappgjpikbdeaaGreatDoorPTknx34
import Derived.Test.YtjappgjpikbdeaaGreatDoorPTkno
namespace Go.Proofs.YtjappgjpikbdeaaGreatDoor.Pure
open Go.RowKit Go.Proofs.YtjappgjpikbdeaaGreatDoor.PTkn Go.Proofs.YtjappgjpikbdeaaGreatDoorW.PrintWords Go.Proofs.YtjappgjpikbdeaaGreatDoorW.PrintLast
set_option linter.unusedVariables false
theorem TokenNone (x0 : S23) (h0 : ok23 x0) : footbridgelaw23_TokenNone.f x0.f0 x0.f1 x0.f2 x0.f3 x0.f4 = some true := rfl
end Go.Proofs.YtjappgjpikbdeaaGreatDoor.Pure
