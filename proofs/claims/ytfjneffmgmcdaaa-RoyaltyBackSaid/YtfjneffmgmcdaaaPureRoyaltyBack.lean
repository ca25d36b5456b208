/- A record, and what is behind, come back from data; a share is never more than the price, nor less for a greater one. No condition beyond the inputs' own sizes. -/
import Derived.Test.YtfjneffmgmcdaaaRoyLib2
import Derived.Test.YtfjneffmgmcdaaaPRoyo
namespace Go.Proofs.Ytfjneffmgmcdaaa.Pure
open Go.RowKit Go.Proofs.Ytfjneffmgmcdaaa.PRoy Go.Proofs.Ytfjneffmgmcdaaa.PureRoy Go.Proofs.YtfjneffmgmcdaaaW.PrintWords Go.Proofs.YtfjneffmgmcdaaaW.PrintLast
set_option linter.unusedVariables false
theorem cutB_app {c : UInt8} (b : List UInt8) : ∀ {a : List UInt8}, c ∉ a → cutL c (a ++ c :: b) = some (a, b)
  | [], _ => by simp [cutL]
  | x :: t, h => by
    simp only [List.mem_cons, not_or] at h
    simp only [List.cons_append, cutL]
    rw [if_neg (fun e => h.1 e.symm), cutB_app b h.2]; rfl
theorem plain_no58 (o : List UInt8) (h : plainP (ofL o)) : (58 : UInt8) ∉ o := by
  intro hm
  obtain ⟨i, hi, he⟩ := List.getElem_of_mem hm
  have h1 := h.2.2 i (by rw [ofL_size]; exact hi)
  have h2 := bt_get (ofL o) i (by rw [ofL_toList]; exact hi)
  simp only [ofL_toList] at h2
  rw [he] at h2
  rw [h2] at h1
  unfold letP at h1
  have : ((58 : UInt8).toNat : Int) = 58 := rfl
  omega
theorem share_at (o : ByteArray) (n p : Int) (hn0 : 0 ≤ n) (hn1 : n ≤ 10000) (hp0 : 0 ≤ p) (hp1 : p ≤ 4294967295) : royalty_Share.f o n p = some (p * n / 10000, 0) := by
  have h1 : 0 ≤ p * n := Int.mul_nonneg hp0 hn0
  have h2 : p * n ≤ 4294967295 * n := Int.mul_le_mul_of_nonneg_right hp1 hn0
  unfold royalty_Share.f
  rw [if_neg (by omega), if_neg (by omega), if_neg (by omega), if_neg (by omega)]
  generalize p * n = q at *
  rw [w64 (x := q) (by omega) (by omega), Int.tdiv_eq_ediv_of_nonneg h1, w64 (by omega) (by omega)]
theorem RoyaltyBack (x0 : S45) (x1 : ByteArray) (x2 : S57) (h0 : ok45 x0) (h1 : x1.size ≤ 140737488351232) (h2 : ok57 x2) : ∃ k, footbridgelaw33_RoyaltyBack.f k x0.f0 x0.f1 x1 x2.f0 x2.f1 = some true := by
  obtain ⟨o, n⟩ := x0
  obtain ⟨p, q⟩ := x2
  obtain ⟨K, hK⟩ := awake33_ev
  have hpq : 0 ≤ p ∧ p ≤ 4294967295 ∧ 0 ≤ q ∧ q ≤ 4294967295 := by
    have a1 := h2.1
    have a2 := h2.2
    simp [Lit.wf] at a1 a2
    have m0 : IntKind.u32.min = 0 := by rfl
    have m1 : IntKind.u32.max = 4294967295 := by rfl
    omega
  have out : ∀ b, b = true → footbridgelaw33_RoyaltyBack.j0 (K + 1) x1 b o n p q = some true := by
    intro b hb
    subst hb
    simp only [footbridgelaw33_RoyaltyBack.j0]
    rw [if_pos trivial, hK K (Nat.le_refl _)]; rfl
  show ∃ k, footbridgelaw33_RoyaltyBack.f k o n x1 p q = some true
  by_cases c1 : (o.size : Int) > 300
  · exact ⟨K + 1, by unfold footbridgelaw33_RoyaltyBack.f; rw [if_pos c1, out _ rfl]⟩
  · by_cases c2 : (x1.size : Int) > 1000
    · exact ⟨K + 1, by unfold footbridgelaw33_RoyaltyBack.f; rw [if_neg c1, out _ (decide_eq_true c2)]⟩
    · have lo : o.toList.length ≤ 300 := by rw [← ba_size]; omega
      have lx : x1.toList.length ≤ 1000 := by rw [← ba_size]; omega
      obtain ⟨K1, e1⟩ := put_ev o.toList n x1.toList (by omega) (by omega)
      rw [ofL_of, ofL_of] at e1
      by_cases hp : plainP (ofL o.toList) ∧ 0 ≤ n ∧ n ≤ 10000
      · obtain ⟨g1, g2, g3⟩ := hp
        have hput : putS o.toList n x1.toList = (ofL (roy ++ (o.toList ++ 58 :: (dec n.toNat ++ 59 :: x1.toList))), 0) := by
          unfold putS
          rw [if_pos g1, if_neg (by omega), if_neg (by omega)]
          unfold roy
          simp
        have hd5 := dec_len_le 4 n.toNat (by omega)
        have hd59 : (59 : UInt8) ∉ dec n.toNat := fun hm => by
          have := dec_digs _ _ hm
          unfold isDig at this
          exact absurd this.2 (by decide)
        have hlen : (roy ++ (o.toList ++ 58 :: (dec n.toNat ++ 59 :: x1.toList))).length ≤ 1000000 := by
          unfold roy
          simp only [List.length_append, List.length_cons, List.length_nil]
          omega
        obtain ⟨K2, e2⟩ := read_ev _ hlen
        have hread : readS (roy ++ (o.toList ++ 58 :: (dec n.toNat ++ 59 :: x1.toList))) = (o, n, x1, 0) := by
          unfold readS
          rw [if_pos (List.prefix_append _ _)]
          have e8 : (roy ++ (o.toList ++ 58 :: (dec n.toNat ++ 59 :: x1.toList))).drop 8 = o.toList ++ 58 :: (dec n.toNat ++ 59 :: x1.toList) := rfl
          rw [e8, cutB_app _ (plain_no58 _ g1)]
          simp only
          rw [cutB_app _ hd59]
          simp only
          rw [if_pos ⟨⟨dec_ne _, hd5, dec_head _, dec_digs _⟩, by rw [dval_dec]; omega, g1⟩, dval_dec, ofL_of, ofL_of, Int.toNat_of_nonneg g2]
        rw [hread] at e2
        rw [hput] at e1
        have hmn : 0 ≤ mn (wrap64 p) (wrap64 q) ∧ mn (wrap64 p) (wrap64 q) ≤ mx (wrap64 p) (wrap64 q) ∧ mx (wrap64 p) (wrap64 q) ≤ 4294967295 := by
          rw [w64 (x := p) (by omega) (by omega), w64 (x := q) (by omega) (by omega)]
          unfold mn mx
          split <;> split <;> omega
        generalize hA : mn (wrap64 p) (wrap64 q) = A at hmn
        generalize hB : mx (wrap64 p) (wrap64 q) = B at hmn
        obtain ⟨m1, m2, m3⟩ := hmn
        have s1 := share_at o n A g2 g3 m1 (by omega)
        have s2 := share_at o n B g2 g3 (by omega) m3
        have q1 : 0 ≤ A * n := Int.mul_nonneg m1 g2
        have q2 : A * n ≤ B * n := Int.mul_le_mul_of_nonneg_right m2 g2
        have q3 : B * n ≤ B * 10000 := Int.mul_le_mul_of_nonneg_left g3 (by omega)
        refine ⟨K + K1 + K2 + 1, ?_⟩
        have e0 := hK (K + K1 + K2) (by omega)
        have e1 : royalty_Put.f (K + K1 + K2) o n x1 = _ := e1 _ (by omega)
        have e2 : royalty_Read.f (K + K1 + K2) _ = _ := e2 _ (by omega)
        unfold footbridgelaw33_RoyaltyBack.f
        rw [if_neg c1, decide_eq_false c2]
        simp only [footbridgelaw33_RoyaltyBack.j0]
        rw [if_neg (by simp), e1, Option.bind_some, if_pos rfl, e2, Option.bind_some, hA, hB, s1, Option.bind_some, s2, Option.bind_some, if_pos (by simp), if_pos rfl, if_pos rfl, if_pos rfl, if_pos rfl]
        generalize A * n = a at *
        generalize B * n = b at *
        rw [if_pos (by show a / 10000 ≤ b / 10000; omega), if_pos (by show b / 10000 ≤ B; omega), if_pos (by show a / 10000 ≥ 0; omega), e0]
        rfl
      · have hput : (putS o.toList n x1.toList).1 = ofL [] ∧ ¬ (putS o.toList n x1.toList).2 = 0 := by
          unfold putS
          by_cases g1 : plainP (ofL o.toList)
          · rw [if_pos g1]
            by_cases g2 : n < 0
            · rw [if_pos g2]; exact ⟨rfl, by simp⟩
            · rw [if_neg g2]
              by_cases g3 : n > 10000
              · rw [if_pos g3]; exact ⟨rfl, by simp⟩
              · exact absurd ⟨g1, by omega, by omega⟩ hp
          · rw [if_neg g1]; exact ⟨rfl, by simp⟩
        refine ⟨K + K1 + 1, ?_⟩
        have e0 := hK (K + K1) (by omega)
        have e1 : royalty_Put.f (K + K1) o n x1 = _ := e1 _ (by omega)
        unfold footbridgelaw33_RoyaltyBack.f
        rw [if_neg c1, decide_eq_false c2]
        simp only [footbridgelaw33_RoyaltyBack.j0]
        rw [if_neg (by simp), e1, Option.bind_some, if_neg hput.2, if_pos (by rw [hput.1, ofL_toList]), e0]
        rfl
end Go.Proofs.Ytfjneffmgmcdaaa.Pure
