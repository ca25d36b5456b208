import Derived.Test.YtfjneffmgmcdaaaPParx11
import Derived.Test.YtfjneffmgmcdaaaPParo
namespace Go.Proofs.Ytfjneffmgmcdaaa.Pure
open Go.RowKit Go.Proofs.Ytfjneffmgmcdaaa.PPar Go.Proofs.YtfjneffmgmcdaaaW.PrintWords Go.Proofs.YtfjneffmgmcdaaaW.PrintLast
set_option linter.unusedVariables false
theorem PairsCopies (x0 : List (S67)) (x1 : List (S67)) (h0 : (x0.length ≤ 9223372036854775807 ∧ ∀ y_ ∈ x0, ok67 y_)) (h1 : (x1.length ≤ 9223372036854775807 ∧ ∀ y_ ∈ x1, ok67 y_)) : footbridgelaw09_PairsCopies.f x0 x1 = some true := rfl
end Go.Proofs.Ytfjneffmgmcdaaa.Pure
