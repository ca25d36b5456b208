/- The program's Read gives back what Put was given, and Put what Read read. No condition. -/
import Derived.Test.YtcgmododeiocpaaObjLib5
import Derived.Test.YtcgmododeiocpaaPObjx12
import Derived.Test.YtcgmododeiocpaaPObjo
namespace Go.Proofs.Ytcgmododeiocpaa.Pure
open Go.RowKit Go.Proofs.Ytcgmododeiocpaa.PObj Go.Proofs.Ytcgmododeiocpaa.PureObj Go.Proofs.YtcgmododeiocpaaW.PrintWords Go.Proofs.YtcgmododeiocpaaW.PrintLast
set_option linter.unusedVariables false
theorem ObjectBack (x0 : List (S42)) (x1 : ByteArray) (h0 : (x0.length ≤ 9223372036854775807 ∧ ∀ y_ ∈ x0, ok42 y_)) (h1 : x1.size ≤ 140737488351232) : ∃ k, footbridgelaw07_ObjectBack.f k x0 x1 = some true := by
  have out : ∀ b, b = true → footbridgelaw07_ObjectBack.j0 3000001 x0 x1 b = some true := by
    intro b hb
    subst hb
    simp only [footbridgelaw07_ObjectBack.j0]
    rw [if_pos trivial, awake_is _ (by omega)]; rfl
  refine ⟨3000001, ?_⟩
  unfold footbridgelaw07_ObjectBack.f
  rcases few_is x0 3000001 (by omega) with h | ⟨h, hl, hs⟩
  · rw [h, Option.bind_some, if_neg (by simp)]; exact out true rfl
  · rw [h, Option.bind_some, if_pos rfl]
    by_cases hk : (x1.size : Int) > 1000
    · rw [decide_eq_true hk]; exact out true rfl
    · rw [decide_eq_false hk]
      -- how long the text is
      have hB := few_okB hs
      have hlen : (objT x0).length ≤ 1000000 := by
        have b1 := rowT_len fieldT 20000 x0 0 (fun a ha => by
          obtain ⟨s0, s1, s2, s3⟩ := hs a ha
          have c0 := txt_le a.f0
          have c1 := txt_le a.f1
          have c2 := rowT_len txt 602 a.f2 0 (fun t ht => by have := txt_le t; have := s3 t ht; omega)
          have c3 : a.f2.length * (602 + 1) ≤ 12060 := Nat.mul_le_mul_right 603 s2
          unfold fieldT valT
          rw [List.length_append, List.length_cons]
          split
          · rw [List.length_cons, List.length_append, List.length_singleton]; omega
          · omega)
        have b2 : x0.length * (20000 + 1) ≤ 240012 := Nat.mul_le_mul_right 20001 hl
        unfold objT
        rw [List.length_cons, List.length_append, List.length_singleton]; omega
      -- what was read is put again
      have back : ∃ c g d h, object_Read.f 3000000 x1 = some (c, g) ∧ object_Put.f 3000000 c = some (d, h) ∧ (g = 0 → d.toList = x1.toList ∧ h = 0) := by
        rcases objRead_cases 3000000 (by omega) x1 (by omega) with e | ⟨l, e, e2, e3, e4, e5⟩
        · exact ⟨_, _, _, _, e, objPut_is [] (by simp) (by simp) _ (by omega), fun z => absurd z (by decide)⟩
        · have hsz : (objT l).length ≤ 1000 := by rw [← e2, ← ba_size]; omega
          have hB2 : ∀ a ∈ l, okB a := fun a ha => by
            obtain ⟨b1, b2, b3⟩ := e5 a ha
            have e1 := rowT_mem fieldT l 0 a ha
            unfold objT at hsz
            rw [List.length_cons, List.length_append] at hsz
            have e2 := key_len a
            have e3 : (valT a).length ≤ (fieldT a).length := by unfold fieldT; rw [List.length_append, List.length_cons]; omega
            refine ⟨by omega, ?_, b1, ?_⟩
            · cases hf : a.f3 with
              | true => rw [b2 hf]; exact Nat.zero_le _
              | false =>
                unfold valT at e3
                rw [hf, if_neg (by simp)] at e3
                have := txt_len a.f1
                omega
            · intro t ht
              cases hf : a.f3 with
              | false => rw [b3 hf] at ht; exact absurd ht (by simp)
              | true =>
                unfold valT at e3
                rw [hf, if_pos rfl, List.length_cons, List.length_append] at e3
                have e4 := rowT_mem txt a.f2 0 t ht
                have := txt_len t
                omega
          have hp := objPut_is l e4 hB2 3000000 (by omega)
          rw [if_pos e3] at hp
          exact ⟨_, _, _, _, e, hp, fun _ => ⟨by rw [ofL_toList, e2], rfl⟩⟩
      obtain ⟨c, g, d, h2, e1, e2, e3⟩ := back
      have tail : (if g = 0 then (if d.toList = x1.toList then (if h2 = 0 then ((footbridgelaw07_awake.f 3000000).bind fun t => some t) else none) else none) else ((footbridgelaw07_awake.f 3000000).bind fun t => some t)) = some true := by
        by_cases hg : g = 0
        · obtain ⟨z1, z2⟩ := e3 hg
          rw [if_pos hg, if_pos z1, if_pos z2, awake_is _ (by omega)]; rfl
        · rw [if_neg hg, awake_is _ (by omega)]; rfl
      simp only [footbridgelaw07_ObjectBack.j0]
      rw [if_neg (by simp), objPut_is x0 (by omega) hB _ (by omega), Option.bind_some]
      cases hf : fineL [] x0 with
      | true =>
        rw [if_pos rfl]
        dsimp only
        rw [objRead_complete _ (by omega) x0 hf (by omega) (fun a ha => (hB a ha).2.2.1) hlen, Option.bind_some, e1, Option.bind_some]
        dsimp only
        rw [e2, Option.bind_some, if_pos rfl, same_same x0 (by omega) (fun a ha => by have := (hB a ha).2.2.1; omega) _ (by omega), Option.bind_some, if_pos rfl, if_pos rfl]
        exact tail
      | false =>
        rw [if_neg (by simp)]
        dsimp only
        rcases objRead_cases 3000000 (by omega) (ofL []) (by rw [ofL_size]; simp) with e | ⟨l, e, _⟩
        · rw [e, Option.bind_some, e1, Option.bind_some]
          dsimp only
          rw [e2, Option.bind_some, if_neg (by decide)]
          exact tail
        · rw [e, Option.bind_some, e1, Option.bind_some]
          dsimp only
          rw [e2, Option.bind_some, if_neg (by decide)]
          exact tail
end Go.Proofs.Ytcgmododeiocpaa.Pure
