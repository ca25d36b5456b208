/- QuotaHolds, in plain terms. No condition beyond those stated. -/
import Derived.Test.YtgapkicplhbidaaDoorPQuhx0
import Derived.Test.YtgapkicplhbidaaDoorPQuhx1
import Derived.Test.YtgapkicplhbidaaDoorPQuhx2
import Derived.Test.YtgapkicplhbidaaDoorPQuhx3
import Derived.Test.YtgapkicplhbidaaDoorPQuhx4
import Derived.Test.YtgapkicplhbidaaDoorPQuho
namespace Go.Proofs.YtgapkicplhbidaaDoor.Pure
open Go.RowKit Go.Proofs.YtgapkicplhbidaaDoor.PQuh Go.Proofs.YtgapkicplhbidaaDoorW.PrintWords Go.Proofs.YtgapkicplhbidaaDoorW.PrintLast
set_option linter.unusedVariables false
theorem u16_rng {x : Int} (h : (Lit.int .u16 x).wf = true) : 0 ≤ x ∧ x ≤ 65535 := by
  have e1 : IntKind.u16.min = 0 := by decide
  have e2 : IntKind.u16.max = 65535 := by decide
  simp [Lit.wf] at h
  rw [e1, e2] at h
  exact h
theorem QuotaHolds (x0 : Int) (x1 : Int) (x2 : List (S29)) (h0 : (Lit.int .u16 x0).wf = true) (h1 : (Lit.int .u16 x1).wf = true) (h2 : (x2.length ≤ 9223372036854775807 ∧ ∀ y_ ∈ x2, ok29 y_)) : footbridgelaw49_QuotaHolds.f x0 x1 x2 = some true := by
  unfold footbridgelaw49_QuotaHolds.f
  exact if_pos ⟨u16_rng h0, u16_rng h1, fun y hy => ⟨u16_rng (h2.2 y hy).1, u16_rng (h2.2 y hy).2⟩⟩
end Go.Proofs.YtgapkicplhbidaaDoor.Pure
