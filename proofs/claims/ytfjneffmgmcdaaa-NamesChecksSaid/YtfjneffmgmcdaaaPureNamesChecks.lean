/- For every kind and every text the program's Number and Check answer as the reference's do. No condition. -/
import Derived.Test.YtfjneffmgmcdaaaNamesLib3
namespace Go.Proofs.Ytfjneffmgmcdaaa.Pure
open Go.RowKit Go.Proofs.Ytfjneffmgmcdaaa.PNames Go.Proofs.YtfjneffmgmcdaaaW.PrintWords Go.Proofs.YtfjneffmgmcdaaaW.PrintLast
set_option linter.unusedVariables false
set_option linter.unusedSimpArgs false
theorem NamesChecks : footbridgelaw03_NamesChecks.Pure := by
  intro a s _ hs
  obtain ⟨K, hK⟩ := awake03_ev
  by_cases h : (s.size : Int) > 300
  · refine ⟨K, ?_⟩
    unfold footbridgelaw03_NamesChecks.f
    rw [if_pos h, hK K (Nat.le_refl _)]; rfl
  · obtain ⟨K1, h1⟩ := numberRef_ev a s hs
    obtain ⟨K2, h2⟩ := check_ev a s hs
    obtain ⟨K3, h3⟩ := checkRef_ev a s hs
    refine ⟨max (max K K1) (max K2 K3), ?_⟩
    have e0 := hK (max (max K K1) (max K2 K3)) (by omega)
    have e1 : footbridgeref03_Number.f (max (max K K1) (max K2 K3)) a s = _ := h1 _ (by omega)
    have e2 : names_Check.f (max (max K K1) (max K2 K3)) a s = _ := h2 _ (by omega)
    have e3 : footbridgeref03_Check.f (max (max K K1) (max K2 K3)) a s = _ := h3 _ (by omega)
    unfold footbridgelaw03_NamesChecks.f
    rw [if_neg h, number_is a s hs, Option.bind_some, e1, Option.bind_some, e2, Option.bind_some, e3, Option.bind_some, if_pos rfl, if_pos rfl, if_pos rfl, e0]
    rfl
end Go.Proofs.Ytfjneffmgmcdaaa.Pure
