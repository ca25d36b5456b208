import Derived.Test.YtcbaojkfffodiaaPJoux22
import Derived.Test.YtcbaojkfffodiaaPJouo
namespace Go.Proofs.Ytcbaojkfffodiaa.Pure
open Go.RowKit Go.Proofs.Ytcbaojkfffodiaa.PJou Go.Proofs.YtcbaojkfffodiaaW.PrintWords Go.Proofs.YtcbaojkfffodiaaW.PrintLast
set_option linter.unusedVariables false
theorem JournalCopies (x0 : List (S51)) (x1 : List (S33)) (x2 : List (S33)) (h0 : (x0.length ≤ 9223372036854775807 ∧ ∀ y_ ∈ x0, ok51 y_)) (h1 : (x1.length ≤ 9223372036854775807 ∧ ∀ y_ ∈ x1, ok33 y_)) (h2 : (x2.length ≤ 9223372036854775807 ∧ ∀ y_ ∈ x2, ok33 y_)) : footbridgelaw10_JournalCopies.f x0 x1 x2 = some true := rfl
end Go.Proofs.Ytcbaojkfffodiaa.Pure
