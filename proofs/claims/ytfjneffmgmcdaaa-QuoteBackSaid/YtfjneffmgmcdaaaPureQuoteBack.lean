/- Read gives back what Put was given, and what stood behind it; no byte within marks is below 32. No condition. -/
import Derived.Test.YtfjneffmgmcdaaaQuoLib
namespace Go.Proofs.Ytfjneffmgmcdaaa.Pure
open Go.RowKit Go.Proofs.Ytfjneffmgmcdaaa.PQuo Go.Proofs.Ytfjneffmgmcdaaa.PureQuo Go.Proofs.YtfjneffmgmcdaaaW.PrintWords Go.Proofs.YtfjneffmgmcdaaaW.PrintLast
set_option linter.unusedVariables false
theorem QuoteBack : footbridgelaw06_QuoteBack.Pure := by
  intro s t _ _
  obtain ⟨K, hK⟩ := awake06_ev
  have out : ∀ b, b = true → footbridgelaw06_QuoteBack.j0 (K + 1) s t b = some true := by
    intro b hb
    subst hb
    simp only [footbridgelaw06_QuoteBack.j0]
    rw [if_pos trivial, hK K (Nat.le_refl _)]; rfl
  by_cases h1 : (s.size : Int) > 2000
  · exact ⟨K + 1, by unfold footbridgelaw06_QuoteBack.f; rw [if_pos h1, out _ rfl]⟩
  · by_cases h2 : (t.size : Int) > 500
    · exact ⟨K + 1, by unfold footbridgelaw06_QuoteBack.f; rw [if_neg h1, out _ (decide_eq_true h2)]⟩
    · have hps := put_size s
      have loop : ∀ (d i : Nat), d + i = (putS s).size → ∀ k, K + 50000 + d + 1 ≤ k → footbridgelaw06_QuoteBack.l0 k s t (putS s) (i : Int) = some true := by
        intro d
        induction d with
        | zero =>
          intro i hi k hk
          obtain ⟨k, rfl⟩ : ∃ m, k = m + 1 := ⟨k - 1, by omega⟩
          simp only [footbridgelaw06_QuoteBack.l0]
          rw [if_neg (by omega), if_pos (by omega), read_is _ (by rw [ByteArray.size_append]; omega) _ (by rw [ByteArray.size_append]; omega), Option.bind_some, read_put, if_pos rfl, if_pos rfl, if_pos rfl, hK k (by omega)]
          rfl
        | succ d ih =>
          intro i hi k hk
          obtain ⟨k, rfl⟩ : ∃ m, k = m + 1 := ⟨k - 1, by omega⟩
          have e1 : wrap64 ((i : Int) + 1) = ((i + 1 : Nat) : Int) := by rw [w64 (by omega) (by omega)]; omega
          have hil : i < (putS s).toList.length := by rw [← ba_size]; omega
          have hlow := put_low s _ (List.getElem_mem hil)
          simp only [footbridgelaw06_QuoteBack.l0]
          rw [if_pos (by omega), if_pos (by omega), bt_get _ i hil, if_neg (by omega), e1]
          exact ih (i + 1) (by omega) k (by omega)
      refine ⟨K + 50000 + (putS s).size + 2, ?_⟩
      unfold footbridgelaw06_QuoteBack.f
      rw [if_neg h1, decide_eq_false h2]
      simp only [footbridgelaw06_QuoteBack.j0]
      rw [if_neg (by simp), put_is s (by omega), Option.bind_some]
      exact loop (putS s).size 0 (by omega) _ (by omega)
end Go.Proofs.Ytfjneffmgmcdaaa.Pure
