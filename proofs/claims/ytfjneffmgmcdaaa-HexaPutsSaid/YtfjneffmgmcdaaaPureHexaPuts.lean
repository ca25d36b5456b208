/- For any two texts the program's Put and Read answer as the reference's do. No condition. -/
import Derived.Test.YtfjneffmgmcdaaaHexaLib
namespace Go.Proofs.Ytfjneffmgmcdaaa.Pure
open Go.RowKit Go.Proofs.Ytfjneffmgmcdaaa.PHexa Go.Proofs.YtfjneffmgmcdaaaW.PrintWords Go.Proofs.YtfjneffmgmcdaaaW.PrintLast
set_option linter.unusedVariables false
theorem HexaPuts : footbridgelaw02_HexaPuts.Pure := by
  intro s t _ _
  obtain ⟨K, hK⟩ := awake02_ev
  have out : ∀ b, b = true → footbridgelaw02_HexaPuts.j0 (K + 1) s t b = some true := by
    intro b hb
    subst hb
    simp only [footbridgelaw02_HexaPuts.j0]
    rw [if_pos trivial, hK K (Nat.le_refl _)]; rfl
  by_cases h1 : (s.size : Int) > 3000
  · exact ⟨K + 1, by unfold footbridgelaw02_HexaPuts.f; rw [if_pos h1, out _ rfl]⟩
  · by_cases h2 : (t.size : Int) > 3000
    · exact ⟨K + 1, by unfold footbridgelaw02_HexaPuts.f; rw [if_neg h1, out _ (decide_eq_true h2)]⟩
    · obtain ⟨K1, e1⟩ := read_ev t (by omega)
      obtain ⟨K2, e2⟩ := readRef_ev t (by omega)
      obtain ⟨K3, e3⟩ := putRef_ev s (by omega)
      refine ⟨max (max K K1) (max K2 K3) + 1, ?_⟩
      have e0 := hK (max (max K K1) (max K2 K3)) (by omega)
      have e1 : hexa_Read.f (max (max K K1) (max K2 K3)) t = _ := e1 _ (by omega)
      have e2 : footbridgeref02_Read.f (max (max K K1) (max K2 K3)) t = _ := e2 _ (by omega)
      have e3 : footbridgeref02_Put.f (max (max K K1) (max K2 K3)) s = _ := e3 _ (by omega)
      unfold footbridgelaw02_HexaPuts.f
      rw [if_neg h1, decide_eq_false h2]
      simp only [footbridgelaw02_HexaPuts.j0]
      rw [if_neg (by simp), e1, Option.bind_some, e2, Option.bind_some, put_is s (by omega), Option.bind_some, e3, Option.bind_some, if_pos rfl, if_pos rfl, if_pos rfl, e0]
      rfl
end Go.Proofs.Ytfjneffmgmcdaaa.Pure
