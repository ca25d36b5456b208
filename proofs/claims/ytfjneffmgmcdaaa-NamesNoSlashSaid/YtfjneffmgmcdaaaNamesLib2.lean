/- Plain facts on the printed functions of names and of its reference: Make, the reference's Number, Check. No condition beyond those stated. -/
import Derived.Test.YtfjneffmgmcdaaaNamesLib
namespace Go.Proofs.Ytfjneffmgmcdaaa.Pure
open Go.RowKit Go.Proofs.Ytfjneffmgmcdaaa.PNames Go.Proofs.YtfjneffmgmcdaaaW.PrintWords Go.Proofs.YtfjneffmgmcdaaaW.PrintLast
set_option linter.unusedVariables false
set_option linter.unusedSimpArgs false

def mkSpec (a n : Int) : ByteArray × Int := if headL a = [] then (⟨#[]⟩, 1) else if n < 0 then (⟨#[]⟩, 3) else if n > 1099511627776 then (⟨#[]⟩, 3) else (ofL (headL a ++ dec n.toNat), 0)
theorem headL_len (a : Int) : (headL a).length ≤ 11 := by unfold headL; repeat' split
                                                          all_goals simp
theorem make_ev (a n : Int) : Ev (fun k => names_Make.f k a n) (mkSpec a n) := by
  unfold mkSpec
  by_cases h1 : headL a = []
  · refine ⟨0, fun k _ => ?_⟩
    show names_Make.f k a n = _
    unfold names_Make.f
    rw [head_is, Option.bind_some, ofL_toList, if_pos h1, if_pos h1]
  · by_cases h2 : n < 0
    · refine ⟨0, fun k _ => ?_⟩
      show names_Make.f k a n = _
      unfold names_Make.f
      rw [head_is, Option.bind_some, ofL_toList, if_neg h1, if_neg h1, if_pos h2, if_pos h2]
    · by_cases h3 : n > 1099511627776
      · refine ⟨0, fun k _ => ?_⟩
        show names_Make.f k a n = _
        unfold names_Make.f
        rw [head_is, Option.bind_some, ofL_toList, if_neg h1, if_neg h1, if_neg h2, if_neg h2, if_pos h3, if_pos h3]
      · obtain ⟨m, rfl⟩ := Int.eq_ofNat_of_zero_le (show 0 ≤ n by omega)
        obtain ⟨K, hK⟩ := digits_ev m (by omega)
        refine ⟨K, fun k hk => ?_⟩
        have hK' : names_digits.f k ((m : Nat) : Int) = _ := hK k hk
        show names_Make.f k a _ = _
        unfold names_Make.f
        rw [head_is, Option.bind_some, ofL_toList, if_neg h1, if_neg h1, if_neg h2, if_neg h2, if_neg h3, if_neg h3, hK', Option.bind_some, Int.toNat_natCast, if_pos]
        · exact congrArg some (Prod.ext (ba_ext (by rw [ba_append, ofL_toList, ofL_toList, ofL_toList])) rfl)
        · have := headL_len a
          have := dec_len_le 14 m (by omega)
          rw [ofL_size, ofL_size]; omega
theorem makeRef_ev (a n : Int) : Ev (fun k => footbridgeref03_Make.f k a n) (mkSpec a n) := by
  unfold mkSpec
  by_cases h1 : headL a = []
  · refine ⟨0, fun k _ => ?_⟩
    show footbridgeref03_Make.f k a n = _
    unfold footbridgeref03_Make.f
    rw [word_is, Option.bind_some, ofL_toList, if_pos h1, if_pos h1]
  · by_cases h2 : n < 0
    · refine ⟨1, fun k hk => ?_⟩
      obtain ⟨k, rfl⟩ : ∃ m, k = m + 1 := ⟨k - 1, by omega⟩
      show footbridgeref03_Make.f _ a n = _
      unfold footbridgeref03_Make.f
      rw [word_is, Option.bind_some, ofL_toList, if_neg h1, if_neg h1, if_pos h2, if_pos h2]
      simp only [footbridgeref03_Make.j0]
      rw [if_pos trivial]
    · by_cases h3 : n > 1099511627776
      · refine ⟨1, fun k hk => ?_⟩
        obtain ⟨k, rfl⟩ : ∃ m, k = m + 1 := ⟨k - 1, by omega⟩
        show footbridgeref03_Make.f _ a n = _
        unfold footbridgeref03_Make.f
        rw [word_is, Option.bind_some, ofL_toList, if_neg h1, if_neg h1, if_neg h2, if_neg h2, if_pos h3, decide_eq_true h3]
        simp only [footbridgeref03_Make.j0]
        rw [if_pos trivial]
      · obtain ⟨m, rfl⟩ := Int.eq_ofNat_of_zero_le (show 0 ≤ n by omega)
        obtain ⟨K, hK⟩ := refDigits_ev m (by omega)
        refine ⟨K + 1, fun k hk => ?_⟩
        obtain ⟨k, rfl⟩ : ∃ m, k = m + 1 := ⟨k - 1, by omega⟩
        have hK' : footbridgeref03_Digits.f k ((m : Nat) : Int) = _ := hK k (by omega)
        show footbridgeref03_Make.f _ a _ = _
        unfold footbridgeref03_Make.f
        rw [word_is, Option.bind_some, ofL_toList, if_neg h1, if_neg h1, if_neg h2, if_neg h2, if_neg h3, decide_eq_false h3]
        simp only [footbridgeref03_Make.j0]
        rw [if_neg (by simp), word_is, Option.bind_some, hK', Option.bind_some, Int.toNat_natCast, if_pos]
        · exact congrArg some (Prod.ext (ba_ext (by rw [ba_append, ofL_toList, ofL_toList, ofL_toList])) rfl)
        · have := headL_len a
          have := dec_len_le 14 m (by omega)
          rw [ofL_size, ofL_size]; omega
/-- What stands behind a head, once all of it is digits. -/
theorem numOk_iff (h l : List UInt8) (hp : h <+: l) (hn : l.drop h.length ≠ []) : numOk h l ↔ (∀ c ∈ l.drop h.length, isDig c) ∧ dval (l.drop h.length) ≤ 1099511627776 ∧ h ++ dec (dval (l.drop h.length)) = l := by
  have hl : h ++ l.drop h.length = l := by
    obtain ⟨t, rfl⟩ := hp
    rw [List.drop_left]
  unfold numOk
  constructor
  · rintro ⟨_, _, h3, h4, h5⟩
    exact ⟨h4, h5, by rw [dec_dval _ h4 hn h3]; exact hl⟩
  · rintro ⟨h4, h5, h6⟩
    refine ⟨hp, hn, ?_, h4, h5⟩
    have : dec (dval (l.drop h.length)) = l.drop h.length := List.append_cancel_left (h6.trans hl.symm)
    rw [← this]
    exact dec_head _
theorem numberRef_ev (a : Int) (s : ByteArray) (hs : s.size ≤ 140737488351232) : Ev (fun k => footbridgeref03_Number.f k a s) (numSpec (headL a) s.toList) := by
  unfold numSpec
  have hle := headL_len a
  by_cases h1 : headL a = []
  · refine ⟨0, fun k _ => ?_⟩
    show footbridgeref03_Number.f k a s = _
    unfold footbridgeref03_Number.f
    rw [word_is, Option.bind_some, ofL_toList, if_pos h1, if_pos h1]
  · rw [if_neg h1]
    by_cases h2 : (s.size : Int) ≤ ((headL a).length : Int)
    · refine ⟨1, fun k hk => ?_⟩
      obtain ⟨k, rfl⟩ : ∃ m, k = m + 1 := ⟨k - 1, by omega⟩
      show footbridgeref03_Number.f _ a s = _
      unfold footbridgeref03_Number.f
      rw [word_is, Option.bind_some, ofL_toList, if_neg h1, ofL_size, if_pos h2]
      simp only [footbridgeref03_Number.j0]
      rw [if_pos trivial, if_neg]
      rintro ⟨_, hn, _⟩
      apply hn
      rw [List.drop_eq_nil_iff, ← ba_size]; omega
    · by_cases h3 : (s.size : Int) > ((headL a).length : Int) + 13
      · refine ⟨1, fun k hk => ?_⟩
        obtain ⟨k, rfl⟩ : ∃ m, k = m + 1 := ⟨k - 1, by omega⟩
        show footbridgeref03_Number.f _ a s = _
        unfold footbridgeref03_Number.f
        rw [word_is, Option.bind_some, ofL_toList, if_neg h1, ofL_size, if_neg h2, w64 (by omega) (by omega), if_pos h3]
        simp only [footbridgeref03_Number.j0]
        rw [if_pos trivial, if_neg]
        rintro ⟨_, hn, hpl, hd, hv⟩
        have hlen : (s.toList.drop (headL a).length).length ≥ 14 := by rw [List.length_drop, ← ba_size]; omega
        obtain ⟨c, t, hct⟩ := List.exists_cons_of_ne_nil hn
        rw [hct] at hpl hd hv hlen
        have hc : isDig c := hd c (by simp)
        unfold isDig at hc
        have hc0 : c.toNat ≠ 48 := by
          intro he
          rcases hpl with hpl | hpl
          · rw [hpl] at hlen; omega
          · apply hpl
            simp only [List.head?_cons, Option.some.injEq]
            exact UInt8.toNat_inj.1 he
        have hp := foldl_dstep_pow t (dstep 0 c)
        have hv2 : List.foldl dstep (dstep 0 c) t ≤ 1099511627776 := hv
        have h13 : 10 ^ 13 ≤ 10 ^ t.length := Nat.pow_le_pow_right (by omega) (by simp at hlen; omega)
        have hs1 : 1 ≤ dstep 0 c := by unfold dstep; omega
        have : 1 * 10 ^ 13 ≤ dstep 0 c * 10 ^ t.length := Nat.mul_le_mul hs1 h13
        omega
      · by_cases hp : headL a <+: s.toList
        · have hn : s.toList.drop (headL a).length ≠ [] := by
            intro he
            rw [List.drop_eq_nil_iff, ← ba_size] at he; omega
          -- the loop
          have loop : ∀ (d i n : Nat), d = s.size - i → (headL a).length ≤ i → i ≤ s.size → n < 10 ^ (i - (headL a).length) →
              Ev (fun k => footbridgeref03_Number.l0 k a s (n : Int) (i : Int)) (if (∀ c ∈ s.toList.drop i, isDig c) ∧ (s.toList.drop i).foldl dstep n ≤ 1099511627776 ∧ headL a ++ dec ((s.toList.drop i).foldl dstep n) = s.toList then (((s.toList.drop i).foldl dstep n : Nat), 0) else (0, 7)) := by
            intro d
            induction d with
            | zero =>
              intro i n hd hi hi2 hb
              have hnil : s.toList.drop i = [] := by rw [List.drop_eq_nil_iff, ← ba_size]; omega
              rw [hnil]
              simp only [List.foldl_nil, List.not_mem_nil, false_implies, implies_true, true_and]
              have hb15 : n < 10 ^ 15 := Nat.lt_of_lt_of_le hb (Nat.pow_le_pow_right (by omega) (by omega))
              obtain ⟨K, hK⟩ := makeRef_ev a (n : Int)
              refine ⟨K + 1, fun k hk => ?_⟩
              obtain ⟨k, rfl⟩ : ∃ m, k = m + 1 := ⟨k - 1, by omega⟩
              have hK' : footbridgeref03_Make.f k a (n : Int) = _ := hK k (by omega)
              show footbridgeref03_Number.l0 _ a s _ _ = _
              simp only [footbridgeref03_Number.l0]
              rw [if_neg (by omega), hK', Option.bind_some]
              unfold mkSpec
              rw [if_neg h1, if_neg (show ¬ ((n : Int) < 0) by omega)]
              by_cases hm : (n : Int) > 1099511627776
              · rw [if_pos hm, if_neg (by simp), if_neg (by omega)]
              · rw [if_neg hm, if_pos rfl, ofL_toList, Int.toNat_natCast]
                by_cases he : headL a ++ dec n = s.toList
                · rw [if_pos he, if_pos ⟨by omega, he⟩]
                · rw [if_neg he, if_neg (fun h => he h.2)]
            | succ d ih =>
              intro i n hd hi hi2 hb
              have hl : i < s.toList.length := by rw [← ba_size]; omega
              have hbt := bt_get s i hl
              rw [List.drop_eq_getElem_cons hl]
              generalize s.toList[i] = c at *
              simp only [List.mem_cons, List.foldl_cons, forall_eq_or_imp]
              by_cases d1 : bt s i < 48
              · refine ⟨1, fun k hk => ?_⟩
                obtain ⟨k, rfl⟩ : ∃ m, k = m + 1 := ⟨k - 1, by omega⟩
                show footbridgeref03_Number.l0 _ a s _ _ = _
                simp only [footbridgeref03_Number.l0]
                rw [if_pos (by omega), if_pos (by omega), if_pos d1, if_neg]
                rintro ⟨⟨hc, _⟩, _⟩
                unfold isDig at hc; omega
              · by_cases d2 : bt s i > 57
                · refine ⟨1, fun k hk => ?_⟩
                  obtain ⟨k, rfl⟩ : ∃ m, k = m + 1 := ⟨k - 1, by omega⟩
                  show footbridgeref03_Number.l0 _ a s _ _ = _
                  simp only [footbridgeref03_Number.l0]
                  rw [if_pos (by omega), if_pos (by omega), if_neg d1, if_pos d2, if_neg]
                  rintro ⟨⟨hc, _⟩, _⟩
                  unfold isDig at hc; omega
                · have hc : isDig c := by unfold isDig; omega
                  have hc' := hc
                  unfold isDig at hc'
                  have hstep : dstep n c < 10 ^ (i + 1 - (headL a).length) := by
                    rw [show i + 1 - (headL a).length = (i - (headL a).length) + 1 by omega, Nat.pow_succ]
                    unfold dstep; omega
                  have hb14 : n < 10 ^ 13 := Nat.lt_of_lt_of_le hb (Nat.pow_le_pow_right (by omega) (by omega))
                  obtain ⟨K, hK⟩ := ih (i + 1) (dstep n c) (by omega) (by omega) (by omega) hstep
                  refine ⟨K + 1, fun k hk => ?_⟩
                  obtain ⟨k, rfl⟩ : ∃ m, k = m + 1 := ⟨k - 1, by omega⟩
                  have hK' : footbridgeref03_Number.l0 k a s ((dstep n c : Nat) : Int) ((i + 1 : Nat) : Int) = _ := hK k (by omega)
                  show footbridgeref03_Number.l0 _ a s _ _ = _
                  simp only [footbridgeref03_Number.l0]
                  have e1 : wrap64 (wrap64 ((n : Int) * 10) + (bt s i - 48) % 256) = ((dstep n c : Nat) : Int) := by
                    rw [w64 (x := (n : Int) * 10) (by omega) (by omega), w64 (by omega) (by omega)]
                    unfold dstep; omega
                  rw [if_pos (by omega), if_pos (by omega), if_neg d1, if_neg d2, e1, w64 (by omega) (by omega), show ((i : Int) + 1) = ((i + 1 : Nat) : Int) from rfl, hK']
                  simp only [hc, true_and]
          obtain ⟨K, hK⟩ := loop (s.size - (headL a).length) (headL a).length 0 rfl (Nat.le_refl _) (by omega) (Nat.pow_pos (by omega))
          refine ⟨K + 1, fun k hk => ?_⟩
          obtain ⟨k, rfl⟩ : ∃ m, k = m + 1 := ⟨k - 1, by omega⟩
          have hK' : footbridgeref03_Number.l0 k a s (0 : Int) ((headL a).length : Int) = _ := hK k (by omega)
          show footbridgeref03_Number.f _ a s = _
          unfold footbridgeref03_Number.f
          have hex : (s.extract 0 (headL a).length).toList = headL a := by
            rw [ba_extract, List.drop_zero]
            exact (List.prefix_iff_eq_take.1 hp).symm
          rw [word_is, Option.bind_some, ofL_toList, if_neg h1, ofL_size, if_neg h2, w64 (by omega) (by omega), if_neg h3, if_pos (by omega), if_pos (by omega), Int.toNat_natCast, hex, bne_self_eq_false]
          simp only [footbridgeref03_Number.j0]
          rw [if_neg (by simp), ofL_size, hK']
          congr 1
          have hiff := numOk_iff (headL a) s.toList hp hn
          by_cases hok : numOk (headL a) s.toList
          · rw [if_pos hok]
            have := hiff.1 hok
            rw [if_pos]
            · rfl
            · exact this
          · rw [if_neg hok]
            rw [if_neg]
            exact fun h => hok (hiff.2 h)
        · refine ⟨1, fun k hk => ?_⟩
          obtain ⟨k, rfl⟩ : ∃ m, k = m + 1 := ⟨k - 1, by omega⟩
          show footbridgeref03_Number.f _ a s = _
          unfold footbridgeref03_Number.f
          have hex : ((s.extract 0 (headL a).length).toList != headL a) = true := by
            rw [bne_iff_ne, ba_extract, List.drop_zero]
            intro he
            exact hp (List.prefix_iff_eq_take.2 he.symm)
          rw [word_is, Option.bind_some, ofL_toList, if_neg h1, ofL_size, if_neg h2, w64 (by omega) (by omega), if_neg h3, if_pos (by omega), if_pos (by omega), Int.toNat_natCast, hex]
          simp only [footbridgeref03_Number.j0]
          rw [if_pos trivial, if_neg (fun h : numOk _ _ => hp h.1)]
end Go.Proofs.Ytfjneffmgmcdaaa.Pure
