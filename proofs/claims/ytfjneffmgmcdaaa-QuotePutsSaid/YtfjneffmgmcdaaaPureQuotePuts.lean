/- For any two texts the program's Put and Read answer as the reference's do. No condition. -/
import Derived.Test.YtfjneffmgmcdaaaQuoLib
namespace Go.Proofs.Ytfjneffmgmcdaaa.Pure
open Go.RowKit Go.Proofs.Ytfjneffmgmcdaaa.PQuo Go.Proofs.Ytfjneffmgmcdaaa.PureQuo Go.Proofs.YtfjneffmgmcdaaaW.PrintWords Go.Proofs.YtfjneffmgmcdaaaW.PrintLast
set_option linter.unusedVariables false
theorem QuotePuts : footbridgelaw06_QuotePuts.Pure := by
  intro s t _ _
  obtain ⟨K, hK⟩ := awake06_ev
  have out : ∀ b, b = true → footbridgelaw06_QuotePuts.j0 (K + 1) s t b = some true := by
    intro b hb
    subst hb
    simp only [footbridgelaw06_QuotePuts.j0]
    rw [if_pos trivial, hK K (Nat.le_refl _)]; rfl
  by_cases h1 : (s.size : Int) > 500
  · exact ⟨K + 1, by unfold footbridgelaw06_QuotePuts.f; rw [if_pos h1, out _ rfl]⟩
  · by_cases h2 : (t.size : Int) > 500
    · exact ⟨K + 1, by unfold footbridgelaw06_QuotePuts.f; rw [if_neg h1, out _ (decide_eq_true h2)]⟩
    · refine ⟨K + 5000 + 1, ?_⟩
      have e0 := hK (K + 5000) (by omega)
      unfold footbridgelaw06_QuotePuts.f
      rw [if_neg h1, decide_eq_false h2]
      simp only [footbridgelaw06_QuotePuts.j0]
      rw [if_neg (by simp), read_is t (by omega) _ (by omega), Option.bind_some, readRef_is t (by omega) _ (by omega), Option.bind_some, put_is s (by omega), Option.bind_some, putRef_is s (by omega) _ (by omega), Option.bind_some, if_pos rfl, if_pos rfl, if_pos rfl, if_pos rfl, e0]
      rfl
end Go.Proofs.Ytfjneffmgmcdaaa.Pure
