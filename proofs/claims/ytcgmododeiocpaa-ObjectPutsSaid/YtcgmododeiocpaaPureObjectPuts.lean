/- The program's Put and Get of fields answer as the reference's do. No condition. -/
import Derived.Test.YtcgmododeiocpaaObjLib5
import Derived.Test.YtcgmododeiocpaaPObjx9
import Derived.Test.YtcgmododeiocpaaPObjo
namespace Go.Proofs.Ytcgmododeiocpaa.Pure
open Go.RowKit Go.Proofs.Ytcgmododeiocpaa.PObj Go.Proofs.Ytcgmododeiocpaa.PureObj Go.Proofs.YtcgmododeiocpaaW.PrintWords Go.Proofs.YtcgmododeiocpaaW.PrintLast
set_option linter.unusedVariables false
theorem ObjectPuts (x0 : List (S42)) (x1 : ByteArray) (h0 : (x0.length ≤ 9223372036854775807 ∧ ∀ y_ ∈ x0, ok42 y_)) (h1 : x1.size ≤ 140737488351232) : ∃ k, footbridgelaw07_ObjectPuts.f k x0 x1 = some true := by
  have out : ∀ b, b = true → footbridgelaw07_ObjectPuts.j0 200001 x0 x1 b = some true := by
    intro b hb
    subst hb
    simp only [footbridgelaw07_ObjectPuts.j0]
    rw [if_pos trivial, awake_is _ (by omega)]; rfl
  refine ⟨200001, ?_⟩
  unfold footbridgelaw07_ObjectPuts.f
  rcases few_is x0 200001 (by omega) with h | ⟨h, hl, hs⟩
  · rw [h, Option.bind_some, if_neg (by simp)]; exact out true rfl
  · rw [h, Option.bind_some, if_pos rfl]
    by_cases hk : (x1.size : Int) > 100
    · rw [decide_eq_true hk]; exact out true rfl
    · rw [decide_eq_false hk]
      simp only [footbridgelaw07_ObjectPuts.j0]
      obtain ⟨⟨g0, g1, g2, g3, g4⟩, e1, e2, e3⟩ := get_same x0 x1 (by omega) (fun a ha => by have := (hs a ha).2.2.1; omega) 200000 (by omega)
      rw [if_neg (by simp), objPut_is x0 (by omega) (few_okB hs) _ (by omega), Option.bind_some, refPut_is x0 (by omega) (few_okB hs) _ (by omega), Option.bind_some, e1, Option.bind_some, e2, Option.bind_some, if_pos rfl, if_pos rfl, one_same _ _ _ _ (by have e3 : g2.length ≤ 1000 := e3; show g2.length ≤ 1000000; omega) _ (by have e3 : g2.length ≤ 1000 := e3; show g2.length + 1 ≤ 200000; omega), Option.bind_some, if_pos rfl, if_pos (by simp), awake_is _ (by omega)]
      rfl
end Go.Proofs.Ytcgmododeiocpaa.Pure
