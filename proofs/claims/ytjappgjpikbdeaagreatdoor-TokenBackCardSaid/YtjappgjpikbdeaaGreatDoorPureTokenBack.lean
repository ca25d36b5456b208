/- TokenBack, in plain terms. No condition beyond those stated. -/
import Derived.Test.YtjappgjpikbdeaaGreatDoorPTkkx36
import Derived.Test.YtjappgjpikbdeaaGreatDoorPTkko
namespace Go.Proofs.YtjappgjpikbdeaaGreatDoor.Pure
open Go.RowKit Go.Proofs.YtjappgjpikbdeaaGreatDoor.PTkk Go.Proofs.YtjappgjpikbdeaaGreatDoorW.PrintWords Go.Proofs.YtjappgjpikbdeaaGreatDoorW.PrintLast
set_option linter.unusedVariables false
theorem TokenBack (x0 : S23) (x1 : ByteArray) (h0 : ok23 x0) (h1 : x1.size ≤ 140737488351232) : footbridgelaw23_TokenBack.f x0.f0 x0.f1 x0.f2 x0.f3 x0.f4 x1 = some true := rfl
end Go.Proofs.YtjappgjpikbdeaaGreatDoor.Pure
