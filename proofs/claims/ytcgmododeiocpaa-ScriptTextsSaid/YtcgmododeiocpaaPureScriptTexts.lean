/- For any steps and any text the program's Put and Read of scripts answer as the reference's do. No condition beyond the inputs' own sizes. -/
import Derived.Test.YtcgmododeiocpaaScrLib5
import Derived.Test.YtcgmododeiocpaaPScro
namespace Go.Proofs.Ytcgmododeiocpaa.Pure
open Go.RowKit Go.Proofs.Ytcgmododeiocpaa.PScr Go.Proofs.Ytcgmododeiocpaa.PureScr Go.Proofs.YtcgmododeiocpaaW.PrintWords Go.Proofs.YtcgmododeiocpaaW.PrintLast
set_option linter.unusedVariables false
theorem ScriptTexts (x0 : List (S54)) (x1 : ByteArray) (h0 : (x0.length ≤ 9223372036854775807 ∧ ∀ y_ ∈ x0, ok54 y_)) (h1 : x1.size ≤ 140737488351232) : ∃ k, footbridgelaw45_ScriptTexts.f k x0 x1 = some true := by
  obtain ⟨K, hK⟩ := awake45_ev
  obtain ⟨b, ⟨KF, eF⟩, hb⟩ := few_ev x0
  have out : ∀ m, K ≤ m → footbridgelaw45_ScriptTexts.j0 (m + 1) x0 x1 true = some true := by
    intro m hm
    have hK : footbridgelaw45_awake.f m = _ := hK m hm
    simp only [footbridgelaw45_ScriptTexts.j0]
    rw [if_pos trivial, hK]; rfl
  by_cases c1 : b = true
  · by_cases c2 : (x1.size : Int) > 5000
    · refine ⟨KF + K + 1, ?_⟩
      have eF : footbridgelaw45_few.f (KF + K + 1) x0 = _ := eF _ (by omega)
      unfold footbridgelaw45_ScriptTexts.f
      rw [eF, Option.bind_some, if_pos c1, decide_eq_true c2, out _ (by omega)]
    · have lx : x1.toList.length ≤ 1000000 := by rw [← ba_size]; omega
      obtain ⟨K1, e1⟩ := put_ev x0
      obtain ⟨K2, e2⟩ := putRef_ev' x0
      obtain ⟨r, ⟨K3, e3⟩, hr⟩ := read_ev' x1.toList lx
      obtain ⟨K4, e4⟩ := rread_ev x1.toList lx r hr
      rw [ofL_of] at e3 e4
      have hrl : r.1.length ≤ 1000000 := by
        rcases hr with ⟨l, ⟨_, v2, _⟩, rfl⟩ | ⟨_, rfl⟩
        · simp only; omega
        · simp
      obtain ⟨K5, e5⟩ := same_ev r.1 hrl
      refine ⟨KF + K + K1 + K2 + K3 + K4 + K5 + 1, ?_⟩
      have eF : footbridgelaw45_few.f (KF + K + K1 + K2 + K3 + K4 + K5 + 1) x0 = _ := eF _ (by omega)
      have e0 : footbridgelaw45_awake.f (KF + K + K1 + K2 + K3 + K4 + K5) = _ := hK _ (by omega)
      have e1 : script_Put.f (KF + K + K1 + K2 + K3 + K4 + K5) x0 = _ := e1 _ (by omega)
      have e2 : footbridgeref45_Put.f (KF + K + K1 + K2 + K3 + K4 + K5) x0 = _ := e2 _ (by omega)
      have e3 : script_Read.f (KF + K + K1 + K2 + K3 + K4 + K5) x1 = _ := e3 _ (by omega)
      have e4 : footbridgeref45_Read.f (KF + K + K1 + K2 + K3 + K4 + K5) x1 = _ := e4 _ (by omega)
      have e5 : footbridgeref45_Same.f (KF + K + K1 + K2 + K3 + K4 + K5) r.1 r.1 = _ := e5 _ (by omega)
      unfold footbridgelaw45_ScriptTexts.f
      rw [eF, Option.bind_some, if_pos c1, decide_eq_false c2]
      simp only [footbridgelaw45_ScriptTexts.j0]
      rw [if_neg (by simp), e1, Option.bind_some, e2, Option.bind_some, e3, Option.bind_some, e4, Option.bind_some, if_pos rfl, if_pos rfl, e5, Option.bind_some, if_pos rfl, if_pos rfl, e0]
      rfl
  · refine ⟨KF + K + 1, ?_⟩
    have eF : footbridgelaw45_few.f (KF + K + 1) x0 = _ := eF _ (by omega)
    unfold footbridgelaw45_ScriptTexts.f
    rw [eF, Option.bind_some, if_neg c1, out _ (by omega)]
end Go.Proofs.Ytcgmododeiocpaa.Pure
