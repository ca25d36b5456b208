import Derived.Test.YtfjneffmgmcdaaaPParx11
import Derived.Test.YtfjneffmgmcdaaaPParo
namespace Go.Proofs.Ytfjneffmgmcdaaa.Pure
open Go.RowKit Go.Proofs.Ytfjneffmgmcdaaa.PPar Go.Proofs.YtfjneffmgmcdaaaW.PrintWords Go.Proofs.YtfjneffmgmcdaaaW.PrintLast
theorem PairsPlays (x0 : List (S67)) (h0 : (x0.length ≤ 9223372036854775807 ∧ ∀ y_ ∈ x0, ok67 y_)) : footbridgelaw09_PairsPlays.f x0 = some true := rfl
end Go.Proofs.Ytfjneffmgmcdaaa.Pure
