/- For any two texts Read gives back what Put was given, and Put what Read was given. No condition. -/
import Derived.Test.YtfjneffmgmcdaaaHexaLib
namespace Go.Proofs.Ytfjneffmgmcdaaa.Pure
open Go.RowKit Go.Proofs.Ytfjneffmgmcdaaa.PHexa Go.Proofs.YtfjneffmgmcdaaaW.PrintWords Go.Proofs.YtfjneffmgmcdaaaW.PrintLast
set_option linter.unusedVariables false
theorem HexaBack : footbridgelaw02_HexaBack.Pure := by
  intro s t _ _
  obtain ⟨K, hK⟩ := awake02_ev
  have out : ∀ b, b = true → footbridgelaw02_HexaBack.j0 (K + 1) s t b = some true := by
    intro b hb
    subst hb
    simp only [footbridgelaw02_HexaBack.j0]
    rw [if_pos trivial, hK K (Nat.le_refl _)]; rfl
  by_cases h1 : (s.size : Int) > 3000
  · exact ⟨K + 1, by unfold footbridgelaw02_HexaBack.f; rw [if_pos h1, out _ rfl]⟩
  · by_cases h2 : (t.size : Int) > 3000
    · exact ⟨K + 1, by unfold footbridgelaw02_HexaBack.f; rw [if_neg h1, out _ (decide_eq_true h2)]⟩
    · have hb := hexP_byte _ (bytesOf_byte s)
      have hsz : (strOfNums (hexP (bytesOf s))).size = 2 * s.size := by
        rw [← bytesOf_length, bytesOf_str _ hb, hexP_len, bytesOf_length]
      obtain ⟨K1, e1⟩ := read_ev t (by omega)
      obtain ⟨K2, e2⟩ := read_ev (strOfNums (hexP (bytesOf s))) (by omega)
      refine ⟨max (max K K1) K2 + 1, ?_⟩
      have e0 := hK (max (max K K1) K2) (by omega)
      have e1 : hexa_Read.f (max (max K K1) K2) t = _ := e1 _ (by omega)
      have e2 : hexa_Read.f (max (max K K1) K2) (strOfNums (hexP (bytesOf s))) = _ := e2 _ (by omega)
      have r2 : rdSpec (strOfNums (hexP (bytesOf s))) = (s, 0) := by
        unfold rdSpec
        rw [if_neg (by rw [hsz]; omega), bytesOf_str _ hb, dec2_hexP _ (bytesOf_byte s)]
        show (strOfNums (bytesOf s), (0 : Int)) = _
        rw [str_bytesOf]
      unfold footbridgelaw02_HexaBack.f
      rw [if_neg h1, decide_eq_false h2]
      simp only [footbridgelaw02_HexaBack.j0]
      rw [if_neg (by simp), put_is s (by omega), Option.bind_some, e2, Option.bind_some, e1, Option.bind_some, r2, if_pos rfl, if_pos rfl]
      by_cases h3 : (rdSpec t).2 = 0
      · rw [if_pos h3]
        unfold rdSpec at h3 ⊢
        by_cases h4 : (t.size : Int) % 2 = 1
        · rw [if_pos h4] at h3; simp at h3
        · rw [if_neg h4] at h3 ⊢
          cases hd : dec2 (bytesOf t) with
          | none => rw [hd] at h3; simp at h3
          | some l =>
            have hl := hexP_dec2 _ _ hd
            have hlen : (strOfNums l).size ≤ 1000000 := by
              rw [← bytesOf_length, bytesOf_str _ hl.2]
              have := hexP_len l
              rw [hl.1, bytesOf_length] at this
              omega
            show (hexa_Put.f (strOfNums l)).bind _ = _
            rw [put_is _ hlen, Option.bind_some, bytesOf_str _ hl.2, hl.1, str_bytesOf, if_pos rfl, e0]
            rfl
      · rw [if_neg h3, e0]; rfl
end Go.Proofs.Ytfjneffmgmcdaaa.Pure
