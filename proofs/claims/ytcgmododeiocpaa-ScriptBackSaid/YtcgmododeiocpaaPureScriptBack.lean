/- Steps come back from their text, and texts from their steps. No condition beyond the inputs' own sizes. -/
import Derived.Test.YtcgmododeiocpaaScrLib5
import Derived.Test.YtcgmododeiocpaaPScro
namespace Go.Proofs.Ytcgmododeiocpaa.Pure
open Go.RowKit Go.Proofs.Ytcgmododeiocpaa.PScr Go.Proofs.Ytcgmododeiocpaa.PureScr Go.Proofs.YtcgmododeiocpaaW.PrintWords Go.Proofs.YtcgmododeiocpaaW.PrintLast
set_option linter.unusedVariables false
theorem flat_len (l : List S54) (h : ∀ a ∈ l, okA a ∧ (a.f2.size : Int) ≤ 1000) : (flat l).length ≤ l.length * 3000 := by
  induction l with
  | nil => simp [flat]
  | cons a l ih =>
    obtain ⟨h1, h2⟩ := h a (by simp)
    have h3 := bodyL_len a h1
    have h4 := ih (fun b hb => h b (by simp [hb]))
    rw [ba_size] at h2
    rw [flat_cons, List.length_append, List.length_cons, List.length_cons]
    omega
theorem ScriptBack (x0 : List (S54)) (x1 : ByteArray) (h0 : (x0.length ≤ 9223372036854775807 ∧ ∀ y_ ∈ x0, ok54 y_)) (h1 : x1.size ≤ 140737488351232) : ∃ k, footbridgelaw45_ScriptBack.f k x0 x1 = some true := by
  obtain ⟨K, hK⟩ := awake45_ev
  obtain ⟨b, ⟨KF, eF⟩, hb⟩ := few_ev x0
  have out : ∀ m, K ≤ m → footbridgelaw45_ScriptBack.j0 (m + 1) x0 x1 true = some true := by
    intro m hm
    have hK : footbridgelaw45_awake.f m = _ := hK m hm
    simp only [footbridgelaw45_ScriptBack.j0]
    rw [if_pos trivial, hK]; rfl
  by_cases c1 : b = true
  · by_cases c2 : (x1.size : Int) > 5000
    · refine ⟨KF + K + 1, ?_⟩
      have eF : footbridgelaw45_few.f (KF + K + 1) x0 = _ := eF _ (by omega)
      unfold footbridgelaw45_ScriptBack.f
      rw [eF, Option.bind_some, if_pos c1, decide_eq_true c2, out _ (by omega)]
    · obtain ⟨hlen, hraw⟩ := hb c1
      have lx : x1.toList.length ≤ 1000000 := by rw [← ba_size]; omega
      obtain ⟨K1, e1⟩ := put_ev x0
      -- what Put gives is not too long
      have hsmall : (putP x0).1.toList.length ≤ 1000000 := by
        by_cases h : (putP x0).2 = 0
        · obtain ⟨v1, v2⟩ := putP_inv h
          rw [putP_ok _ v1 v2, ofL_toList]
          have := flat_len x0 (fun a ha => ⟨(v1 a ha).1, hraw a ha⟩)
          omega
        · have he : (putP x0).1 = ofL [] := by
            unfold putP at h ⊢
            by_cases hl : (x0.length : Int) > 256
            · rw [if_pos hl]
            · rw [if_neg hl] at h ⊢
              have gen : ∀ (l : List S54) (acc : List UInt8), (putS l acc).2 ≠ 0 → (putS l acc).1 = ofL [] := by
                intro l
                induction l with
                | nil => intro acc h; exact absurd rfl h
                | cons a l ih =>
                  intro acc h
                  simp only [putS] at h ⊢
                  by_cases g1 : okA a
                  · rw [if_pos g1] at h ⊢
                    by_cases g2 : (a.f2.size : Int) > 65536
                    · rw [if_pos g2]
                    · rw [if_neg g2] at h ⊢; exact ih _ h
                  · rw [if_neg g1]
              exact gen _ _ h
          rw [he, ofL_toList]; simp
      obtain ⟨r, ⟨K2, e2⟩, hr⟩ := read_ev' (putP x0).1.toList hsmall
      rw [ofL_of] at e2
      obtain ⟨q, ⟨K3, e3⟩, hq⟩ := read_ev' x1.toList lx
      rw [ofL_of] at e3
      obtain ⟨K4, e4⟩ := put_ev q.1
      obtain ⟨K5, e5⟩ := same_ev x0 (by omega)
      have hq2 : q.2 = 0 → (putP q.1).1.toList = x1.toList ∧ (putP q.1).2 = 0 := by
        intro h
        rcases hq with ⟨l, ⟨v1, v2, v3⟩, rfl⟩ | ⟨_, rfl⟩
        · rw [putP_ok _ v1 (by omega), ofL_toList]; exact ⟨v3, rfl⟩
        · exact absurd h (by simp)
      have hr2 : (putP x0).2 = 0 → r = (x0, 0) := by
        intro h
        obtain ⟨v1, v2⟩ := putP_inv h
        have hre : ReadsAs (putP x0).1.toList 0 x0 := ⟨v1, by omega, by rw [putP_ok _ v1 v2, ofL_toList]⟩
        rcases hr with ⟨l, hl, rfl⟩ | ⟨hno, rfl⟩
        · rw [reads_unique hl hre hsmall]
        · exact absurd ⟨x0, hre⟩ hno
      refine ⟨KF + K + K1 + K2 + K3 + K4 + K5 + 1, ?_⟩
      have eF : footbridgelaw45_few.f (KF + K + K1 + K2 + K3 + K4 + K5 + 1) x0 = _ := eF _ (by omega)
      have e0 : footbridgelaw45_awake.f (KF + K + K1 + K2 + K3 + K4 + K5) = _ := hK _ (by omega)
      have e1 : script_Put.f (KF + K + K1 + K2 + K3 + K4 + K5) x0 = _ := e1 _ (by omega)
      have e2 : script_Read.f (KF + K + K1 + K2 + K3 + K4 + K5) (putP x0).1 = _ := e2 _ (by omega)
      have e3 : script_Read.f (KF + K + K1 + K2 + K3 + K4 + K5) x1 = _ := e3 _ (by omega)
      have e4 : script_Put.f (KF + K + K1 + K2 + K3 + K4 + K5) q.1 = _ := e4 _ (by omega)
      have e5 : footbridgeref45_Same.f (KF + K + K1 + K2 + K3 + K4 + K5) x0 x0 = _ := e5 _ (by omega)
      unfold footbridgelaw45_ScriptBack.f
      rw [eF, Option.bind_some, if_pos c1, decide_eq_false c2]
      simp only [footbridgelaw45_ScriptBack.j0]
      rw [if_neg (by simp), e1, Option.bind_some, e2, Option.bind_some, e3, Option.bind_some, e4, Option.bind_some, e0]
      by_cases hp : (putP x0).2 = 0
      · rw [if_pos hp, hr2 hp, e5, Option.bind_some, if_pos rfl, if_pos rfl]
        by_cases hz : q.2 = 0
        · obtain ⟨z1, z2⟩ := hq2 hz
          rw [if_pos hz, if_pos z1, if_pos z2]; rfl
        · rw [if_neg hz]; rfl
      · rw [if_neg hp]
        by_cases hz : q.2 = 0
        · obtain ⟨z1, z2⟩ := hq2 hz
          rw [if_pos hz, if_pos z1, if_pos z2]; rfl
        · rw [if_neg hz]; rfl
  · refine ⟨KF + K + 1, ?_⟩
    have eF : footbridgelaw45_few.f (KF + K + 1) x0 = _ := eF _ (by omega)
    unfold footbridgelaw45_ScriptBack.f
    rw [eF, Option.bind_some, if_neg c1, out _ (by omega)]
end Go.Proofs.Ytcgmododeiocpaa.Pure
