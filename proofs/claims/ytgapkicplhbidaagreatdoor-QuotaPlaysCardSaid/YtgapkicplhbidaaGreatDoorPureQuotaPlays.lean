/- QuotaPlays, in plain terms. No condition beyond those stated. -/
import Derived.Test.YtgapkicplhbidaaGreatDoorPQupx0
import Derived.Test.YtgapkicplhbidaaGreatDoorPQupx1
import Derived.Test.YtgapkicplhbidaaGreatDoorPQupx2
import Derived.Test.YtgapkicplhbidaaGreatDoorPQupx3
import Derived.Test.YtgapkicplhbidaaGreatDoorPQupx4
import Derived.Test.YtgapkicplhbidaaGreatDoorPQupx5
import Derived.Test.YtgapkicplhbidaaGreatDoorPQupx6
import Derived.Test.YtgapkicplhbidaaGreatDoorPQupx7
import Derived.Test.YtgapkicplhbidaaGreatDoorPQupo
namespace Go.Proofs.YtgapkicplhbidaaGreatDoor.Pure
open Go.RowKit Go.Proofs.YtgapkicplhbidaaGreatDoor.PQup Go.Proofs.YtgapkicplhbidaaGreatDoorW.PrintWords Go.Proofs.YtgapkicplhbidaaGreatDoorW.PrintLast
theorem QuotaPlays (x0 : List (S29)) (x1 : Int) (h0 : (x0.length ≤ 9223372036854775807 ∧ ∀ y_ ∈ x0, ok29 y_)) (h1 : (Lit.int .i64 x1).wf = true) : footbridgelaw49_QuotaPlays.f x0 x1 = some true := rfl
end Go.Proofs.YtgapkicplhbidaaGreatDoor.Pure
