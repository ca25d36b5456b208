/- PathRises, in plain terms. No condition beyond those stated. -/
import Derived.Test.YtcgmododeiocpaaDoorPatLib3
namespace Go.Proofs.YtcgmododeiocpaaDoor.Pure
open Go.RowKit Go.Proofs.YtcgmododeiocpaaDoor.PPat Go.Proofs.YtcgmododeiocpaaDoor.PurePat Go.Proofs.YtcgmododeiocpaaDoorW.PrintWords Go.Proofs.YtcgmododeiocpaaDoorW.PrintLast
set_option linter.unusedVariables false
set_option linter.unusedSimpArgs false
theorem PathRises (x0 : Int) (x1 : Int) (h0 : (Lit.int .u32 x0).wf = true) (h1 : (Lit.int .u32 x1).wf = true) : ∃ k, footbridgelaw08_PathRises.f k x0 x1 = some true := by
  have b0 : 0 ≤ x0 ∧ x0 ≤ 4294967295 := by simpa [Lit.wf, IntKind.min, IntKind.max, IntKind.signed, IntKind.bits] using h0
  have b1 : 0 ≤ x1 ∧ x1 ≤ 4294967295 := by simpa [Lit.wf, IntKind.min, IntKind.max, IntKind.signed, IntKind.bits] using h1
  obtain ⟨K, e⟩ := awake_ev
  refine ⟨K, ?_⟩
  have e : footbridgelaw08_awake.f K = _ := e K (Nat.le_refl _)
  have c0 : cl x0 = x0.toNat := by unfold cl; rw [if_neg (by omega), if_neg (by omega)]
  have c1 : cl x1 = x1.toNat := by unfold cl; rw [if_neg (by omega), if_neg (by omega)]
  have hl : decide (x0 < x1) = Op.bytesLess (numB 14 (cl x0)) (numB 14 (cl x1)) := by
    rw [numB_less 14 _ _ (by rw [c0]; omega) (by rw [c1]; omega), decide_eq_decide, c0, c1]; omega
  unfold footbridgelaw08_PathRises.f
  rw [w64 (by omega) (by omega), w64 (by omega) (by omega), number_is, number_is, Option.bind_some, Option.bind_some, strOfNums_size, strOfNums_size, numL_len, numL_len, numB_is, numB_is, if_pos (by rfl), if_pos (by rfl), if_pos (by rw [← hl]; exact beq_self_eq_true _), e]
  rfl
end Go.Proofs.YtcgmododeiocpaaDoor.Pure
