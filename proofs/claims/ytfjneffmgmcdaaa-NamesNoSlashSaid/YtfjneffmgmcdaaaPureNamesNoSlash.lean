/- No text that Check lets through, of any kind, has a byte 47 or 37 in it. No condition. -/
import Derived.Test.YtfjneffmgmcdaaaNamesLib3
namespace Go.Proofs.Ytfjneffmgmcdaaa.Pure
open Go.RowKit Go.Proofs.Ytfjneffmgmcdaaa.PNames Go.Proofs.YtfjneffmgmcdaaaW.PrintWords Go.Proofs.YtfjneffmgmcdaaaW.PrintLast
set_option linter.unusedVariables false
set_option linter.unusedSimpArgs false
theorem ok_clean (a : Int) (s : ByteArray) (h : checkSpec a s = 0) : ∀ i : Nat, i < s.size → bt s i ≠ 47 ∧ bt s i ≠ 37 := by
  intro i hi
  unfold checkSpec at h
  by_cases h1 : a < 0
  · rw [if_pos h1] at h; simp at h
  · rw [if_neg h1] at h
    by_cases h2 : a > 6
    · rw [if_pos h2] at h; simp at h
    · rw [if_neg h2] at h
      by_cases h3 : headL a = []
      · rw [if_pos h3] at h
        by_cases h4 : plainP s
        · have := h4.2.2 i hi
          unfold letP at this
          omega
        · rw [if_neg h4] at h; simp at h
      · rw [if_neg h3] at h
        unfold numSpec at h
        rw [if_neg h3] at h
        by_cases h4 : numOk (headL a) s.toList
        · obtain ⟨⟨t, ht⟩, _, _, hd, _⟩ := h4
          have hl : i < s.toList.length := by rw [← ba_size]; exact hi
          rw [bt_get s i hl]
          have hm : s.toList[i] ∈ s.toList := List.getElem_mem hl
          generalize s.toList[i] = c at hm
          rw [← ht, List.mem_append] at hm
          rw [← ht, List.drop_left] at hd
          rcases hm with hm | hm
          · have : ∀ d ∈ headL a, d.toNat ≠ 47 ∧ d.toNat ≠ 37 := by
              unfold headL
              repeat' split
              all_goals decide
            have := this c hm
            omega
          · have := hd c hm
            unfold isDig at this
            omega
        · rw [if_neg h4] at h; simp at h
theorem NamesNoSlash : footbridgelaw03_NamesNoSlash.Pure := by
  intro a s _ hs
  obtain ⟨K, hK⟩ := awake03_ev
  by_cases h : (s.size : Int) > 300
  · refine ⟨K + 1, ?_⟩
    unfold footbridgelaw03_NamesNoSlash.f
    rw [if_pos h]
    simp only [footbridgelaw03_NamesNoSlash.j0]
    rw [if_pos trivial, hK K (Nat.le_refl _)]; rfl
  · obtain ⟨K2, h2⟩ := check_ev a s hs
    have loop : ∀ (d i : Nat), d = s.size - i → i ≤ s.size → checkSpec a s = 0 → ∀ k, K + d + 1 ≤ k → footbridgelaw03_NamesNoSlash.l0 k s (i : Int) = some true := by
      intro d
      induction d with
      | zero =>
        intro i hd hi hc k hk
        obtain ⟨k, rfl⟩ : ∃ m, k = m + 1 := ⟨k - 1, by omega⟩
        simp only [footbridgelaw03_NamesNoSlash.l0]
        rw [if_neg (by omega), hK k (by omega)]; rfl
      | succ d ih =>
        intro i hd hi hc k hk
        obtain ⟨k, rfl⟩ : ∃ m, k = m + 1 := ⟨k - 1, by omega⟩
        simp only [footbridgelaw03_NamesNoSlash.l0]
        have := ok_clean a s hc i (by omega)
        rw [if_pos (by omega), if_pos (by omega), if_neg this.1, if_neg this.2, w64 (by omega) (by omega), show ((i : Int) + 1) = ((i + 1 : Nat) : Int) from rfl, ih (i + 1) (by omega) (by omega) hc k (by omega)]
    refine ⟨K + K2 + s.size + 2, ?_⟩
    have e2 : names_Check.f (K + K2 + s.size + 2) a s = _ := h2 _ (by omega)
    unfold footbridgelaw03_NamesNoSlash.f
    rw [if_neg h, e2, Option.bind_some]
    simp only [footbridgelaw03_NamesNoSlash.j0]
    by_cases hc : checkSpec a s = 0
    · rw [hc, bne_self_eq_false, if_neg (by simp)]
      exact loop s.size 0 rfl (by omega) hc _ (by omega)
    · rw [bne_iff_ne.2 hc, if_pos rfl, hK _ (by omega)]; rfl
end Go.Proofs.Ytfjneffmgmcdaaa.Pure
