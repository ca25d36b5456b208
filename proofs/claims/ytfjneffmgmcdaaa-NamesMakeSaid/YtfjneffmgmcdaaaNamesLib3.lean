/- Plain facts: what the program's Check and the reference's come to; the layer's examples. No condition. -/
import Derived.Test.YtfjneffmgmcdaaaNamesLib2
namespace Go.Proofs.Ytfjneffmgmcdaaa.Pure
open Go.RowKit Go.Proofs.Ytfjneffmgmcdaaa.PNames Go.Proofs.YtfjneffmgmcdaaaW.PrintWords Go.Proofs.YtfjneffmgmcdaaaW.PrintLast
set_option linter.unusedVariables false
set_option linter.unusedSimpArgs false
theorem awake03 : footbridgelaw03_awake.f 60 = some true := by kernel_rfl
theorem awake03_ev : Ev footbridgelaw03_awake.f true := Ev.of footbridgelaw03_awake.mono awake03
open Classical in
noncomputable def checkSpec (a : Int) (s : ByteArray) : Int := if a < 0 then 1 else if a > 6 then 1 else if headL a = [] then (if plainP s then 0 else 7) else (numSpec (headL a) s.toList).2
open Classical in
theorem check_ev (a : Int) (s : ByteArray) (hs : s.size ≤ 140737488351232) : Ev (fun k => names_Check.f k a s) (checkSpec a s) := by
  obtain ⟨K, hK⟩ := plain_is s hs
  refine ⟨K + 1, fun k hk => ?_⟩
  obtain ⟨k, rfl⟩ : ∃ m, k = m + 1 := ⟨k - 1, by omega⟩
  have hp : names_plain.f k s = _ := hK k (by omega)
  show names_Check.f _ a s = _
  unfold names_Check.f checkSpec
  by_cases h1 : a < 0
  · rw [if_pos h1, if_pos h1]
    simp only [names_Check.j0]
    rw [if_pos trivial]
  · rw [if_neg h1, if_neg h1]
    simp only [names_Check.j0]
    by_cases h2 : a > 6
    · rw [if_pos h2, decide_eq_true h2, if_pos rfl]
    · rw [if_neg h2, decide_eq_false h2, if_neg (by simp), head_is, Option.bind_some, ofL_toList]
      by_cases h3 : headL a = []
      · rw [if_pos h3, if_pos h3, hp, Option.bind_some]
        by_cases h4 : plainP s
        · rw [decide_eq_true h4, if_pos rfl, if_pos h4]
        · rw [decide_eq_false h4, if_neg (by simp), if_neg h4]
      · rw [if_neg h3, if_neg h3, number_is a s hs, Option.bind_some]
open Classical in
theorem checkRef_ev (a : Int) (s : ByteArray) (hs : s.size ≤ 140737488351232) : Ev (fun k => footbridgeref03_Check.f k a s) (checkSpec a s) := by
  obtain ⟨K, hK⟩ := plain_ref s hs
  obtain ⟨K2, hK2⟩ := numberRef_ev a s hs
  refine ⟨max K K2 + 1, fun k hk => ?_⟩
  obtain ⟨k, rfl⟩ : ∃ m, k = m + 1 := ⟨k - 1, by omega⟩
  have hp : footbridgeref03_Plain.f k s = _ := hK k (by omega)
  have hp2 : footbridgeref03_Number.f k a s = _ := hK2 k (by omega)
  show footbridgeref03_Check.f _ a s = _
  unfold footbridgeref03_Check.f checkSpec
  by_cases h1 : a < 0
  · rw [if_pos h1, if_pos h1]
    simp only [footbridgeref03_Check.j0]
    rw [if_pos trivial]
  · rw [if_neg h1, if_neg h1]
    simp only [footbridgeref03_Check.j0]
    by_cases h2 : a > 6
    · rw [if_pos h2, decide_eq_true h2, if_pos rfl]
    · rw [if_neg h2, decide_eq_false h2, if_neg (by simp), word_is, Option.bind_some, ofL_toList]
      by_cases h3 : headL a = []
      · rw [if_pos h3, if_pos h3, hp, Option.bind_some]
        by_cases h4 : plainP s
        · rw [decide_eq_true h4, if_pos rfl, if_pos h4]
        · rw [decide_eq_false h4, if_neg (by simp), if_neg h4]
      · rw [if_neg h3, if_neg h3, hp2, Option.bind_some]
end Go.Proofs.Ytfjneffmgmcdaaa.Pure
