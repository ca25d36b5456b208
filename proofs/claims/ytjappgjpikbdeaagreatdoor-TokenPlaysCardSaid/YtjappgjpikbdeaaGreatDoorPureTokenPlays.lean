/- TokenPlays, in plain terms. No condition beyond those stated. -/
import Derived.Test.YtjappgjpikbdeaaGreatDoorPTkpx0
import Derived.Test.YtjappgjpikbdeaaGreatDoorPTkpx1
import Derived.Test.YtjappgjpikbdeaaGreatDoorPTkpx2
import Derived.Test.YtjappgjpikbdeaaGreatDoorPTkpx3
import Derived.Test.YtjappgjpikbdeaaGreatDoorPTkpx4
import Derived.Test.YtjappgjpikbdeaaGreatDoorPTkpx5
import Derived.Test.YtjappgjpikbdeaaGreatDoorPTkpx6
import Derived.Test.YtjappgjpikbdeaaGreatDoorPTkpx7
import Derived.Test.YtjappgjpikbdeaaGreatDoorPTkpx8
import Derived.Test.YtjappgjpikbdeaaGreatDoorPTkpx9
import Derived.Test.YtjappgjpikbdeaaGreatDoorPTkpx10
import Derived.Test.YtjappgjpikbdeaaGreatDoorPTkpx11
import Derived.Test.YtjappgjpikbdeaaGreatDoorPTkpo
namespace Go.Proofs.YtjappgjpikbdeaaGreatDoor.Pure
open Go.RowKit Go.Proofs.YtjappgjpikbdeaaGreatDoor.PTkp Go.Proofs.YtjappgjpikbdeaaGreatDoorW.PrintWords Go.Proofs.YtjappgjpikbdeaaGreatDoorW.PrintLast
set_option linter.unusedVariables false
theorem TokenPlays (x0 : List ByteArray) (x1 : List (S41)) (h0 : (x0.length ≤ 9223372036854775807 ∧ ∀ y_ ∈ x0, y_.size ≤ 9223372036854775807)) (h1 : (x1.length ≤ 9223372036854775807 ∧ ∀ y_ ∈ x1, ok41 y_)) : footbridgelaw23_TokenPlays.f x0 x1 = some true := rfl
end Go.Proofs.YtjappgjpikbdeaaGreatDoor.Pure
