import Derived.Test.YtfjneffmgmcdaaaPParx12
import Derived.Test.YtfjneffmgmcdaaaPParo
namespace Go.Proofs.Ytfjneffmgmcdaaa.Pure
open Go.RowKit Go.Proofs.Ytfjneffmgmcdaaa.PPar Go.Proofs.YtfjneffmgmcdaaaW.PrintWords Go.Proofs.YtfjneffmgmcdaaaW.PrintLast
set_option linter.unusedVariables false
theorem PairsNone (x0 : S67) (h0 : ok67 x0) : footbridgelaw09_PairsNone.f x0.f0 x0.f1 x0.f2 x0.f3 = some true := rfl
end Go.Proofs.Ytfjneffmgmcdaaa.Pure
