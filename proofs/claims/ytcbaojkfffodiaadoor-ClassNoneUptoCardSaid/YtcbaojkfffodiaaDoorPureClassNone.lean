/- ClassNone, in plain terms. No condition beyond those stated. -/
import Derived.Test.YtcbaojkfffodiaaDoorPClnx17
import Derived.Test.YtcbaojkfffodiaaDoorPClno
namespace Go.Proofs.YtcbaojkfffodiaaDoor.Pure
open Go.RowKit Go.Proofs.YtcbaojkfffodiaaDoor.PCln Go.Proofs.YtcbaojkfffodiaaDoorW.PrintWords Go.Proofs.YtcbaojkfffodiaaDoorW.PrintLast
theorem ClassNone (x0 : S23) (h0 : okb23 1048576 x0) : footbridgelaw22_ClassNone.f x0.f0 x0.f1 x0.f2 x0.f3 = some true := if_pos (Nat.le_trans h0.1 (by decide))
end Go.Proofs.YtcbaojkfffodiaaDoor.Pure
