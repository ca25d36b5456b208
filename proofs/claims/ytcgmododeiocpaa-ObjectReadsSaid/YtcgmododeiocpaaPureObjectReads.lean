/- The program's Read of an object answers as the reference's does, for any text. No condition. -/
import Derived.Test.YtcgmododeiocpaaObjLib5
import Derived.Test.YtcgmododeiocpaaPObjx11
namespace Go.Proofs.Ytcgmododeiocpaa.Pure
open Go.RowKit Go.Proofs.Ytcgmododeiocpaa.PObj Go.Proofs.Ytcgmododeiocpaa.PureObj Go.Proofs.YtcgmododeiocpaaW.PrintWords Go.Proofs.YtcgmododeiocpaaW.PrintLast
set_option linter.unusedVariables false
theorem ObjectReads : footbridgelaw07_ObjectReads.Pure := by
  intro s _
  refine ⟨4000000, ?_⟩
  unfold footbridgelaw07_ObjectReads.f
  by_cases h1 : (s.size : Int) > 400
  · rw [if_pos h1, awake_is _ (by omega)]; rfl
  · rw [if_neg h1]
    rcases objRead_cases 4000000 (by omega) s (by omega) with h | ⟨l, h, h2, h3, h4, h5⟩
    · rw [h, Option.bind_some]
      rcases refRead_total s (by omega) 4000000 (by omega) with g | ⟨l, g, g2, g3, g4, g5⟩
      · rw [g]
        unfold failO
        rw [Option.bind_some, same_same [] (by simp) (by simp) _ (by omega), Option.bind_some, if_pos rfl, if_pos rfl, awake_is _ (by omega)]; rfl
      · exfalso
        have hl := objRead_complete 4000000 (by omega) l g3 g4 (fun a ha => (g5 a ha).2.2.1) (by rw [← g2, ← ba_size]; omega)
        rw [← g2, ofL_of, h] at hl
        exact absurd hl (by simp)
    · have hsz : (objT l).length ≤ 400 := by rw [← h2, ← ba_size]; omega
      have hB : ∀ a ∈ l, okB a := fun a ha => by
        obtain ⟨b1, b2, b3⟩ := h5 a ha
        have e1 := rowT_mem fieldT l 0 a ha
        unfold objT at hsz
        rw [List.length_cons, List.length_append] at hsz
        have e2 := key_len a
        have e3 : (valT a).length ≤ (fieldT a).length := by unfold fieldT; rw [List.length_append, List.length_cons]; omega
        refine ⟨by omega, ?_, b1, ?_⟩
        · cases hf : a.f3 with
          | true => rw [b2 hf]; exact Nat.zero_le _
          | false =>
            unfold valT at e3
            rw [hf, if_neg (by simp)] at e3
            have := txt_len a.f1
            omega
        · intro t ht
          cases hf : a.f3 with
          | false => rw [b3 hf] at ht; exact absurd ht (by simp)
          | true =>
            unfold valT at e3
            rw [hf, if_pos rfl, List.length_cons, List.length_append] at e3
            have e4 := rowT_mem txt a.f2 0 t ht
            have := txt_len t
            omega
      rw [h, Option.bind_some, refRead_complete s l (by omega) ⟨h2, h3, h4, hB⟩ _ (by omega), Option.bind_some, same_same l (by omega) (fun a ha => by have := (h5 a ha).1; omega) _ (by omega), Option.bind_some, if_pos rfl, if_pos rfl, awake_is _ (by omega)]; rfl
end Go.Proofs.Ytcgmododeiocpaa.Pure
