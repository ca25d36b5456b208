/- PathJoins, in plain terms. No condition beyond those stated. -/
import Derived.Test.YtcgmododeiocpaaDoorPatLib3
namespace Go.Proofs.YtcgmododeiocpaaDoor.Pure
open Go.RowKit Go.Proofs.YtcgmododeiocpaaDoor.PPat Go.Proofs.YtcgmododeiocpaaDoor.PurePat Go.Proofs.YtcgmododeiocpaaDoorW.PrintWords Go.Proofs.YtcgmododeiocpaaDoorW.PrintLast
set_option linter.unusedVariables false
set_option linter.unusedSimpArgs false
theorem PathJoins (x0 : List ByteArray) (x1 : ByteArray) (x2 : Int) (h0 : (x0.length ≤ 1048576 ∧ ∀ y_ ∈ x0, y_.size ≤ 1048576)) (h1 : x1.size ≤ 1048576) (h2 : (Lit.int .i64 x2).wf = true) : ∃ k, footbridgelaw08_PathJoins.f k x0 x1 x2 = some true := by
  obtain ⟨K, e⟩ := awake_ev
  have hend : footbridgelaw08_PathJoins.j0 (K + 1) x0 x1 x2 true = some true := by
    have e : footbridgelaw08_awake.f K = _ := e K (Nat.le_refl _)
    rw [footbridgelaw08_PathJoins.j0, if_pos rfl, e]; rfl
  by_cases g1 : (x0.length : Int) > 20
  · exact ⟨K + 1, by unfold footbridgelaw08_PathJoins.f; rw [if_pos g1]; exact hend⟩
  by_cases g2 : (x0.length : Int) = 0
  · exact ⟨K + 1, by unfold footbridgelaw08_PathJoins.f; rw [if_neg g1, if_pos g2]; exact hend⟩
  by_cases g3 : (x1.size : Int) > 500
  · exact ⟨K + 1, by unfold footbridgelaw08_PathJoins.f; rw [if_neg g1, if_neg g2, decide_eq_true g3]; exact hend⟩
  obtain ⟨a, l, rfl⟩ : ∃ a l, x0 = a :: l := by
    cases x0 with
    | nil => exact absurd rfl g2
    | cons a l => exact ⟨a, l, rfl⟩
  rw [List.length_cons] at g1
  have ha : a.size ≤ 50000000 := by have := h0.2 a (by simp); omega
  have hl : ∀ p ∈ l, p.size ≤ 50000000 := fun p hp => by have := h0.2 p (by simp [hp]); omega
  obtain ⟨s, rfl⟩ : ∃ s, x1 = ofL s := ⟨x1.toList, (ofL_of x1).symm⟩
  rw [ofL_size] at h1 g3
  have hsp := pathSplit_is s (by omega)
  obtain ⟨K1, e1⟩ := splitRef_ev s (by omega)
  obtain ⟨K2, e2⟩ := join_ev a l ha (by omega) hl
  obtain ⟨K3, e3⟩ := joinRef_ev a l ha (by omega) hl
  have hlen : (splitSpec s).2.1.length ≤ 1000000 := by
    unfold splitSpec
    cases hq : shAll (splitL 47 s) with
    | none => simp
    | some ps =>
      have hq2 : ∀ {ps qs : List (List UInt8)}, shAll ps = some qs → qs.length = ps.length := by
        intro ps
        induction ps with
        | nil => intro qs h; obtain rfl : [] = qs := Option.some.inj h; rfl
        | cons p t ih =>
          intro qs h
          simp only [shAll] at h
          cases hp : shownL p with
          | none => rw [hp] at h; exact absurd h (by simp)
          | some m =>
            rw [hp] at h
            obtain ⟨r, hr, rfl⟩ := Option.map_eq_some_iff.1 h
            rw [List.length_cons, List.length_cons, ih hr]
      have h3 := hq2 hq
      have h4 := splitL_len 47 s
      cases ps with
      | nil => simp [fin]
      | cons x t => rw [List.length_cons] at h3; simp only [fin, List.length_map]; omega
  obtain ⟨K4, e4⟩ := texts_ev (splitSpec s).2.1 (splitSpec s).2.1 hlen
  obtain ⟨K5, e5⟩ := numberRef_ev x2
  refine ⟨K + K1 + K2 + K3 + K4 + K5 + 1, ?_⟩
  generalize hM : K + K1 + K2 + K3 + K4 + K5 = M
  have e : footbridgelaw08_awake.f M = _ := e M (by omega)
  have e1 : footbridgeref08_Split.f M (ofL s) = _ := e1 M (by omega)
  have e2 : path_Join.f M a l = _ := e2 M (by omega)
  have e3 : footbridgeref08_Join.f M a l = _ := e3 M (by omega)
  have e4 : footbridgeref01_Texts.f M _ _ = _ := e4 M (by omega)
  have e5 : footbridgeref08_Number.f M x2 = _ := e5 M (by omega)
  unfold footbridgelaw08_PathJoins.f
  rw [List.length_cons, if_neg g1, if_neg (by omega), ofL_size, decide_eq_false g3]
  rw [footbridgelaw08_PathJoins.j0, if_neg (by simp), hsp, Option.bind_some, e1, Option.bind_some, List.length_cons, if_pos (by omega), if_pos (by omega)]
  show (path_Join.f M a l).bind _ = _
  rw [e2, Option.bind_some]
  show (footbridgeref08_Join.f M a l).bind _ = _
  rw [e3, Option.bind_some, if_pos rfl, if_pos rfl, e4, Option.bind_some, if_pos (decide_eq_true rfl), if_pos rfl, number_is, Option.bind_some, e5, Option.bind_some, if_pos rfl, e]
  rfl
end Go.Proofs.YtcgmododeiocpaaDoor.Pure
