/- BankNone, in plain terms. No condition beyond those stated. -/
import Derived.Test.YtcbaojkfffodiaaDoorPBanx24
import Derived.Test.YtcbaojkfffodiaaDoorPBano
namespace Go.Proofs.YtcbaojkfffodiaaDoor.Pure
open Go.RowKit Go.Proofs.YtcbaojkfffodiaaDoor.PBan Go.Proofs.YtcbaojkfffodiaaDoorW.PrintWords Go.Proofs.YtcbaojkfffodiaaDoorW.PrintLast
theorem BankNone (x0 : S60) (h0 : okb60 1048576 x0) : footbridgelaw47_BankNone.f x0.f0 x0.f1 x0.f2 x0.f3 = some true := if_pos (Nat.le_trans h0.2.1 (by decide))
end Go.Proofs.YtcbaojkfffodiaaDoor.Pure
