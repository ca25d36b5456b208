/- PathBack, in plain terms. No condition beyond those stated. -/
import Derived.Test.YtcgmododeiocpaaDoorPatLib3
import Derived.Test.YtcgmododeiocpaaDoorPPatx5
namespace Go.Proofs.YtcgmododeiocpaaDoor.Pure
open Go.RowKit Go.Proofs.YtcgmododeiocpaaDoor.PPat Go.Proofs.YtcgmododeiocpaaDoor.PurePat Go.Proofs.YtcgmododeiocpaaDoorW.PrintWords Go.Proofs.YtcgmododeiocpaaDoorW.PrintLast
set_option linter.unusedVariables false
set_option linter.unusedSimpArgs false
theorem shAll_small : ∀ (ps qs : List (List UInt8)), shAll ps = some qs → qs.length = ps.length ∧ ∀ n, (∀ p ∈ ps, p.length ≤ n) → ∀ q ∈ qs, q.length ≤ n
  | [], qs, h => by obtain rfl : [] = qs := Option.some.inj h; exact ⟨rfl, fun _ _ q hq => by simp at hq⟩
  | p :: t, qs, h => by
    simp only [shAll] at h
    cases hp : shownL p with
    | none => rw [hp] at h; exact absurd h (by simp)
    | some m =>
      rw [hp] at h
      obtain ⟨r, hr, rfl⟩ := Option.map_eq_some_iff.1 h
      obtain ⟨i1, i2⟩ := shAll_small t r hr
      refine ⟨by rw [List.length_cons, List.length_cons, i1], fun n hn q hq => ?_⟩
      rcases List.mem_cons.1 hq with rfl | hq
      · have h1 := hn p (by simp)
        have h2 : ∀ (k : Nat) (p l : List UInt8), p.length ≤ k → shownL p = some l → l.length ≤ p.length := by
          intro k
          induction k with
          | zero => intro p l hk h; have : p = [] := List.length_eq_zero_iff.1 (by omega); subst this; obtain rfl : [] = l := Option.some.inj h; exact Nat.le_refl _
          | succ k ih =>
            intro p l hk h
            cases p with
            | nil => obtain rfl : [] = l := Option.some.inj h; exact Nat.le_refl _
            | cons c u =>
              rw [List.length_cons] at hk ⊢
              by_cases h1 : c = 37
              · subst h1
                cases u with
                | nil => rw [shownL_end] at h; exact absurd h (by simp)
                | cons x v =>
                  rw [List.length_cons] at hk ⊢
                  rw [shownL_at] at h
                  by_cases h2 : x = 112
                  · rw [if_pos h2] at h
                    obtain ⟨y, hy, rfl⟩ := Option.map_eq_some_iff.1 h
                    have := ih v y (by omega) hy
                    rw [List.length_cons]; omega
                  · rw [if_neg h2] at h
                    by_cases h3 : x = 115
                    · rw [if_pos h3] at h
                      obtain ⟨y, hy, rfl⟩ := Option.map_eq_some_iff.1 h
                      have := ih v y (by omega) hy
                      rw [List.length_cons]; omega
                    · rw [if_neg h3] at h; exact absurd h (by simp)
              · rw [shownL_ne _ h1] at h
                obtain ⟨y, hy, rfl⟩ := Option.map_eq_some_iff.1 h
                have := ih u y (by omega) hy
                rw [List.length_cons]; omega
        exact Nat.le_trans (h2 _ p _ (Nat.le_refl _) hp) h1
      · exact i2 n (fun p' hp' => hn p' (by simp [hp'])) q hq
theorem key_len (a : List UInt8) (ps : List (List UInt8)) (n : Nat) (ha : a.length ≤ n) (hp : ∀ p ∈ ps, p.length ≤ n) : (keyL a ps).length ≤ 2 * n + ps.length * (2 * n + 1) := by
  unfold keyL glue
  rw [List.length_append]
  have h1 := hidL_len a
  have h2 : ((ps.map hidL).flatMap (47 :: ·)).length ≤ ps.length * (2 * n + 1) := by
    clear h1 ha
    induction ps with
    | nil => simp
    | cons p t ih =>
      rw [List.map_cons, List.flatMap_cons, List.length_append, List.length_cons, List.length_cons, Nat.succ_mul]
      have h3 := hidL_len p
      have h4 := hp p (by simp)
      have h5 := ih (fun q hq => hp q (by simp [hq]))
      omega
  omega
theorem PathBack (x0 : List ByteArray) (x1 : List ByteArray) (x2 : ByteArray) (h0 : (x0.length ≤ 1048576 ∧ ∀ y_ ∈ x0, y_.size ≤ 1048576)) (h1 : (x1.length ≤ 1048576 ∧ ∀ y_ ∈ x1, y_.size ≤ 1048576)) (h2 : x2.size ≤ 1048576) : ∃ k, footbridgelaw08_PathBack.f k x0 x1 x2 = some true := by
  obtain ⟨K, e⟩ := awake_ev
  have hend : footbridgelaw08_PathBack.j0 (K + 1) x0 x1 x2 true = some true := by
    have e : footbridgelaw08_awake.f K = _ := e K (Nat.le_refl _)
    rw [footbridgelaw08_PathBack.j0, if_pos rfl, e]; rfl
  by_cases g1 : (x0.length : Int) > 20
  · exact ⟨K + 1, by unfold footbridgelaw08_PathBack.f; rw [if_pos g1]; exact hend⟩
  by_cases g2 : (x0.length : Int) = 0
  · exact ⟨K + 1, by unfold footbridgelaw08_PathBack.f; rw [if_neg g1, if_pos g2]; exact hend⟩
  by_cases g3 : (x1.length : Int) > 20
  · exact ⟨K + 1, by unfold footbridgelaw08_PathBack.f; rw [if_neg g1, if_neg g2, if_pos g3]; exact hend⟩
  by_cases g4 : (x1.length : Int) = 0
  · exact ⟨K + 1, by unfold footbridgelaw08_PathBack.f; rw [if_neg g1, if_neg g2, if_neg g3, if_pos g4]; exact hend⟩
  by_cases g5 : (x2.size : Int) > 500
  · exact ⟨K + 1, by unfold footbridgelaw08_PathBack.f; rw [if_neg g1, if_neg g2, if_neg g3, if_neg g4, decide_eq_true g5]; exact hend⟩
  obtain ⟨a, l, rfl⟩ : ∃ a l, x0 = a :: l := by
    cases x0 with
    | nil => exact absurd rfl g2
    | cons a l => exact ⟨a, l, rfl⟩
  obtain ⟨b, m, rfl⟩ : ∃ a l, x1 = a :: l := by
    cases x1 with
    | nil => exact absurd rfl g4
    | cons a l => exact ⟨a, l, rfl⟩
  rw [List.length_cons] at g1 g3
  have ha : a.size ≤ 50000000 := by have := h0.2 a (by simp); omega
  have hl : ∀ p ∈ l, p.size ≤ 50000000 := fun p hp => by have := h0.2 p (by simp [hp]); omega
  have hb : b.size ≤ 50000000 := by have := h1.2 b (by simp); omega
  have hm : ∀ p ∈ m, p.size ≤ 50000000 := fun p hp => by have := h1.2 p (by simp [hp]); omega
  obtain ⟨s, rfl⟩ : ∃ s, x2 = ofL s := ⟨x2.toList, (ofL_of x2).symm⟩
  rw [ofL_size] at h2 g5
  have hkl := key_len a.toList (l.map ByteArray.toList) 1048576 (by rw [← ba_size]; exact h0.2 a (by simp)) (fun p hp => by
    obtain ⟨q, hq, rfl⟩ := List.mem_map.1 hp
    rw [← ba_size]; exact h0.2 q (by simp [hq]))
  rw [List.length_map] at hkl
  have hkl2 : l.length * (2 * 1048576 + 1) ≤ 20 * (2 * 1048576 + 1) := Nat.mul_le_mul_right _ (by omega)
  have hsk := pathSplit_is (keyL a.toList (l.map ByteArray.toList)) (by omega)
  rw [splitSpec_key, ofL_of, map_ofL_toList] at hsk
  have hsp := pathSplit_is s (by omega)
  obtain ⟨K2, e2⟩ := join_ev a l ha (by omega) hl
  obtain ⟨K3, e3⟩ := join_ev b m hb (by omega) hm
  obtain ⟨K4, e4⟩ := texts_ev l l (by omega)
  obtain ⟨K5, e5⟩ := texts_ev (a :: l) (b :: m) (by rw [List.length_cons]; omega)
  have hback : ∃ K6, ∀ k, K6 ≤ k → (if (splitSpec s).2.2 = 0 then ((path_Join.f k (splitSpec s).1 (splitSpec s).2.1).bind fun t223 => (if t223.toList = s then ((footbridgelaw08_awake.f k).bind fun t224 => (some t224)) else (none))) else ((footbridgelaw08_awake.f k).bind fun t225 => (some t225))) = some true := by
    unfold splitSpec
    cases hq : shAll (splitL 47 s) with
    | none => exact ⟨K, fun k hk => by have e : footbridgelaw08_awake.f k = _ := e k hk; rw [if_neg (by decide), e]; rfl⟩
    | some ps =>
      obtain ⟨q1, q2⟩ := shAll_small _ _ hq
      have q3 := q2 s.length (splitL_small 47 s)
      have q4 := splitL_len 47 s
      cases ps with
      | nil => exact absurd rfl (shAll_ne hq (splitL_ne 47 s))
      | cons x t =>
        rw [List.length_cons] at q1
        obtain ⟨K6, e6⟩ := join_ev (ofL x) (t.map ofL) (by rw [ofL_size]; have := q3 x (by simp); omega) (by rw [List.length_map]; omega) (fun p hp => by
          obtain ⟨y, hy, rfl⟩ := List.mem_map.1 hp
          rw [ofL_size]; have := q3 y (by simp [hy]); omega)
        refine ⟨K + K6, fun k hk => ?_⟩
        have e : footbridgelaw08_awake.f k = _ := e k (by omega)
        have e6 : path_Join.f k (ofL x) (t.map ofL) = _ := e6 k (by omega)
        have hmm : (t.map ofL).map ByteArray.toList = t := by
          rw [List.map_map]
          conv => rhs; rw [← List.map_id t]
          exact List.map_congr_left (fun y _ => ofL_toList y)
        rw [ofL_toList, hmm, key_split s x t hq] at e6
        show (if (0 : Int) = 0 then ((path_Join.f k (ofL x) (t.map ofL)).bind fun t223 => (if t223.toList = s then ((footbridgelaw08_awake.f k).bind fun t224 => (some t224)) else (none))) else _) = _
        rw [if_pos rfl, e6, Option.bind_some, if_pos (ofL_toList s), e]
        rfl
  obtain ⟨K6, e6⟩ := hback
  refine ⟨K + K2 + K3 + K4 + K5 + K6 + 2, ?_⟩
  generalize hM : K + K2 + K3 + K4 + K5 + K6 = M
  have e2 : path_Join.f (M + 1) a l = _ := e2 (M + 1) (by omega)
  have e3 : path_Join.f M b m = _ := e3 M (by omega)
  have e4 : footbridgeref01_Texts.f (M + 1) l l = _ := e4 (M + 1) (by omega)
  have e5 : footbridgeref01_Texts.f M (a :: l) (b :: m) = _ := e5 M (by omega)
  have e6 := e6 M (by omega)
  have hkey : (((ofL (keyL a.toList (l.map ByteArray.toList))).toList == (ofL (keyL b.toList (m.map ByteArray.toList))).toList) != decide (a :: l = b :: m)) = false := by
    rw [ofL_toList, ofL_toList]
    by_cases h : a :: l = b :: m
    · obtain ⟨rfl, rfl⟩ := List.cons.inj h
      simp
    · have h3 : ¬ keyL a.toList (l.map ByteArray.toList) = keyL b.toList (m.map ByteArray.toList) := fun hk => by
        obtain ⟨i1, i2⟩ := keyL_inj hk
        have i3 := congrArg (List.map ofL) i2
        rw [map_ofL_toList, map_ofL_toList] at i3
        exact h (by rw [ba_ext i1, i3])
      rw [beq_eq_false_iff_ne.2 h3, decide_eq_false h]; rfl
  unfold footbridgelaw08_PathBack.f
  rw [List.length_cons, List.length_cons, if_neg g1, if_neg (by omega), if_neg g3, if_neg (by omega), ofL_size, decide_eq_false g5]
  rw [footbridgelaw08_PathBack.j0, if_neg (by simp), List.length_cons, if_pos (by omega), if_pos (by omega)]
  show (path_Join.f (M + 1) a l).bind _ = _
  rw [e2, Option.bind_some, hsk, Option.bind_some, if_pos rfl, if_pos (show a.toList = (rdOf ByteArray.empty (a :: l) 0).toList from rfl)]
  show (footbridgeref01_Texts.f (M + 1) l l).bind _ = _
  rw [e4, Option.bind_some, decide_eq_true rfl]
  rw [footbridgelaw08_PathBack.j1, if_neg (by simp), List.length_cons, if_pos (by omega), if_pos (by omega)]
  show (path_Join.f M b m).bind _ = _
  rw [e3, Option.bind_some, e5, Option.bind_some, if_neg (by rw [hkey]; simp), hsp, Option.bind_some, ofL_toList]
  exact e6
end Go.Proofs.YtcgmododeiocpaaDoor.Pure
