/- For every kind and every number the program's Make answers as the reference's does, and Number gives the number back. No condition. -/
import Derived.Test.YtfjneffmgmcdaaaNamesLib3
namespace Go.Proofs.Ytfjneffmgmcdaaa.Pure
open Go.RowKit Go.Proofs.Ytfjneffmgmcdaaa.PNames Go.Proofs.YtfjneffmgmcdaaaW.PrintWords Go.Proofs.YtfjneffmgmcdaaaW.PrintLast
set_option linter.unusedVariables false
set_option linter.unusedSimpArgs false
theorem NamesMake : footbridgelaw03_NamesMake.Pure := by
  intro a n _ _
  obtain ⟨K, hK⟩ := awake03_ev
  obtain ⟨K1, h1⟩ := make_ev a n
  obtain ⟨K2, h2⟩ := makeRef_ev a n
  have hle := headL_len a
  -- Number of what Make made
  have hsz : (mkSpec a n).1.size ≤ 140737488351232 := by
    unfold mkSpec
    repeat' split
    all_goals (try (show (0 : Nat) ≤ _; omega))
    rw [ofL_size, List.length_append]
    have := dec_len_le 14 n.toNat (by omega)
    omega
  obtain ⟨K3, h3⟩ := check_ev a (mkSpec a n).1 hsz
  refine ⟨max (max K K1) (max K2 K3) + 1, ?_⟩
  have e0 := hK (max (max K K1) (max K2 K3)) (by omega)
  have e1 : names_Make.f (max (max K K1) (max K2 K3) + 1) a n = _ := h1 _ (by omega)
  have e2 : footbridgeref03_Make.f (max (max K K1) (max K2 K3) + 1) a n = _ := h2 _ (by omega)
  have e3 : names_Check.f (max (max K K1) (max K2 K3)) a _ = _ := h3 _ (by omega)
  unfold footbridgelaw03_NamesMake.f
  rw [e1, Option.bind_some, e2, Option.bind_some, if_pos rfl]
  simp only [footbridgelaw03_NamesMake.j0]
  rw [bne_self_eq_false, if_neg (by simp), number_is a _ hsz, Option.bind_some]
  by_cases hok : (mkSpec a n).2 = 0
  · rw [if_pos hok]
    unfold mkSpec at hok e3 ⊢
    by_cases c1 : headL a = []
    · rw [if_pos c1] at hok; simp at hok
    · rw [if_neg c1] at hok e3 ⊢
      by_cases c2 : n < 0
      · rw [if_pos c2] at hok; simp at hok
      · rw [if_neg c2] at hok e3 ⊢
        by_cases c3 : n > 1099511627776
        · rw [if_pos c3] at hok; simp at hok
        · rw [if_neg c3] at hok e3 ⊢
          have hd : (headL a ++ dec n.toNat).drop (headL a).length = dec n.toNat := List.drop_left
          have hno : numOk (headL a) (headL a ++ dec n.toNat) := by
            unfold numOk
            rw [hd, dval_dec]
            exact ⟨List.prefix_append _ _, dec_ne _, dec_head _, dec_digs _, by omega⟩
          have hns : numSpec (headL a) (headL a ++ dec n.toNat) = (n, 0) := by
            unfold numSpec
            rw [if_neg c1, if_pos hno, hd, dval_dec]
            exact Prod.ext (by show ((n.toNat : Nat) : Int) = n; omega) rfl
          have h06 : ¬ a < 0 ∧ ¬ a > 6 := by
            constructor
            · intro h; apply c1; unfold headL; rw [if_neg (by omega), if_neg (by omega), if_neg (by omega)]
            · intro h; apply c1; unfold headL; rw [if_neg (by omega), if_neg (by omega), if_neg (by omega)]
          rw [ofL_toList, hns, if_pos rfl, if_pos rfl, e3, Option.bind_some]
          unfold checkSpec
          rw [if_neg h06.1, if_neg h06.2, if_neg c1, ofL_toList, hns, if_pos rfl, e0]
          rfl
  · rw [if_neg hok, e0]; rfl
end Go.Proofs.Ytfjneffmgmcdaaa.Pure
