-- written by wip/myprint.py over the kit's print; not a printed text of print.sh
import Derived.Test.YtonipkgekhdogaaGreatDoorPBasx0
import Derived.Test.YtonipkgekhdogaaGreatDoorPBasx18
import Derived.Test.YtonipkgekhdogaaGreatDoorPBasx28
import Derived.Test.YtonipkgekhdogaaGreatDoorPBasx29
import Derived.Test.YtonipkgekhdogaaGreatDoorPBasx30
import Derived.Test.YtonipkgekhdogaaGreatDoorPBasx31
import Derived.Test.YtonipkgekhdogaaGreatDoorPBasx32
namespace Go.Proofs.YtonipkgekhdogaaGreatDoor.PBas
open Go.RowKit Go.Proofs.YtonipkgekhdogaaGreatDoorW.PrintWords Go.Proofs.YtonipkgekhdogaaGreatDoorW.PrintLast Go.Proofs.YtonipkgekhdogaaGreatDoorW.PrintMore
attribute [local go_sem] max2_int min2_int max_two min_two max_three min_three max_four min_four   -- for this text's walks alone
set_option linter.unusedVariables false
set_option linter.unusedSimpArgs false

/-! ### words: namesref.inc -/
theorem nm_word_is (a : Int) : footbridgeref03_word.f a = some (ofL (nm_headL a)) := nm_head_is a
theorem nm_letter_ref (c : Int) : footbridgeref03_letter.f c = some (decide (nm_letP c)) := by
  unfold footbridgeref03_letter.f
  repeat' split
  all_goals (first | exact congrArg some (decide_eq_true (by unfold nm_letP; omega)).symm | exact congrArg some (decide_eq_false (by unfold nm_letP; omega)).symm | (by_cases h45 : c = 45; (subst h45; rfl); exact congrArg some ((beq_eq_false_iff_ne.2 h45).trans (decide_eq_false (by unfold nm_letP; omega)).symm)))
open Classical in
theorem nm_plain_ref (s : ByteArray) (hs : s.size ≤ 140737488351232) : Ev (fun k => footbridgeref03_Plain.f k s) (decide (nm_plainP s)) := by
  have loop : ∀ (d i : Nat), d = s.size - i → i ≤ s.size → ∀ k, d + 1 ≤ k → footbridgeref03_Plain.l0 k s (i : Int) = some (decide (1 ≤ s.size ∧ s.size ≤ 64 ∧ ∀ j : Nat, i ≤ j → j < s.size → nm_letP (bt s j))) := by
    intro d
    induction d with
    | zero =>
      intro i hd hi k hk
      obtain ⟨k, rfl⟩ : ∃ m, k = m + 1 := ⟨k - 1, by omega⟩
      simp only [footbridgeref03_Plain.l0]
      rw [if_neg (by omega)]
      split
      · congr 1
        rw [decide_eq_decide]
        exact ⟨fun h => ⟨by omega, by omega, fun j h1 h2 => by omega⟩, fun h => by omega⟩
      · congr 1
        symm
        rw [decide_eq_false_iff_not]
        rintro ⟨h, _⟩
        omega
    | succ d ih =>
      intro i hd hi k hk
      obtain ⟨k, rfl⟩ : ∃ m, k = m + 1 := ⟨k - 1, by omega⟩
      simp only [footbridgeref03_Plain.l0]
      rw [if_pos (by omega), if_pos (by omega), nm_letter_ref, Option.bind_some]
      by_cases hl : nm_letP (bt s i)
      · rw [decide_eq_true hl, if_pos rfl, w64 (by omega) (by omega), show ((i : Int) + 1) = ((i + 1 : Nat) : Int) from rfl, ih (i + 1) (by omega) (by omega) _ (by omega)]
        congr 1
        rw [decide_eq_decide]
        constructor
        · rintro ⟨ha, hb, h⟩
          refine ⟨ha, hb, fun j h1 h2 => ?_⟩
          by_cases he : j = i
          · rw [he]; exact hl
          · exact h j (by omega) h2
        · rintro ⟨ha, hb, h⟩
          exact ⟨ha, hb, fun j h1 h2 => h j (by omega) h2⟩
      · rw [decide_eq_false hl, if_neg (by simp), decide_eq_false (fun h => hl (h.2.2 i (Nat.le_refl _) (by omega)))]
  refine ⟨s.size + 1, fun k hk => ?_⟩
  have hl := loop s.size 0 (by omega) (by omega) k (by omega)
  unfold footbridgeref03_Plain.f
  rw [show ((0 : Nat) : Int) = 0 from rfl] at hl
  refine hl.trans ?_
  congr 1
  rw [decide_eq_decide]
  unfold nm_plainP
  exact ⟨fun h => ⟨h.1, h.2.1, fun i hi => h.2.2 i (Nat.zero_le _) hi⟩, fun h => ⟨h.1, h.2.1, fun i _ hi => h.2.2 i hi⟩⟩
theorem nm_one_digit (n : Int) (h0 : 0 ≤ n) (h : n < 10) : strOfNums [(wrap64 (48 + n)) % 256] = ofL [UInt8.ofNat (48 + n.toNat)] := by
  unfold strOfNums ofL
  rw [w64 (by omega) (by omega), List.map_cons, List.map_nil, show ((48 + n) % 256).toNat = 48 + n.toNat by omega]
theorem nm_refDigits_ev (n : Nat) (hn : n < 10 ^ 15) : Ev (fun k => footbridgeref03_Digits.f k (n : Int)) (ofL (dec n)) := by
  have loop : ∀ n : Nat, ∀ acc : ByteArray, n + acc.size ≤ 2000000000000000 → Ev (fun k => footbridgeref03_Digits.l0 k (n : Int) acc) (ofL (dec n ++ acc.toList)) := by
    intro n
    induction n using Nat.strongRecOn with
    | _ n ih =>
      intro acc ha
      by_cases h : n < 10
      · refine ⟨1, fun k hk => ?_⟩
        obtain ⟨k, rfl⟩ : ∃ m, k = m + 1 := ⟨k - 1, by omega⟩
        simp only [footbridgeref03_Digits.l0]
        rw [if_neg (by omega), Option.bind_some, nm_one_digit _ (by omega) (by omega), ofL_size, if_pos (by simp; omega), dec_lt h]
        congr 1
        apply ba_ext
        rw [ba_append, ofL_toList, ofL_toList]
        rfl
      · have e2 : Int.tmod (n : Int) 10 = ((n % 10 : Nat) : Int) := by
          rw [Int.tmod_eq_emod_of_nonneg (by omega)]; rfl
        have e1 : wrap64 (Int.tdiv (n : Int) 10) = ((n / 10 : Nat) : Int) := by
          rw [Int.tdiv_eq_ediv_of_nonneg (by omega), w64 (by omega) (by omega)]; rfl
        obtain ⟨K, hK⟩ := ih (n / 10) (by omega) (ofL [UInt8.ofNat (48 + n % 10)] ++ acc) (by rw [ByteArray.size_append, ofL_size]; simp; omega)
        refine ⟨K + 1, fun k hk => ?_⟩
        obtain ⟨k, rfl⟩ : ∃ m, k = m + 1 := ⟨k - 1, by omega⟩
        have hK' : footbridgeref03_Digits.l0 k ((n / 10 : Nat) : Int) _ = _ := hK k (by omega)
        simp only [footbridgeref03_Digits.l0]
        rw [if_pos (by omega), e1, e2, Option.bind_some, nm_one_digit _ (by omega) (by omega), ofL_size, if_pos (by simp; omega), Int.toNat_natCast, hK']
        congr 2
        rw [ba_append, ofL_toList, dec_ge h, List.append_assoc]
  have := loop n (⟨#[]⟩ : ByteArray) (by show n + 0 ≤ _; omega)
  have e : (⟨#[]⟩ : ByteArray).toList = [] := by rw [ByteArray.toList_eq]
  rw [e, List.append_nil] at this
  exact this

def nm_mkSpec (a n : Int) : ByteArray × Int := if nm_headL a = [] then (⟨#[]⟩, 1) else if n < 0 then (⟨#[]⟩, 3) else if n > 1099511627776 then (⟨#[]⟩, 3) else (ofL (nm_headL a ++ dec n.toNat), 0)
theorem nm_headL_len (a : Int) : (nm_headL a).length ≤ 11 := by
  unfold nm_headL
  repeat' split
  all_goals simp
theorem nm_makeRef_ev (a n : Int) : Ev (fun k => footbridgeref03_Make.f k a n) (nm_mkSpec a n) := by
  unfold nm_mkSpec
  by_cases h1 : nm_headL a = []
  · refine ⟨0, fun k _ => ?_⟩
    show footbridgeref03_Make.f k a n = _
    unfold footbridgeref03_Make.f
    rw [nm_word_is, Option.bind_some, ofL_toList, if_pos h1, if_pos h1]
  · by_cases h2 : n < 0
    · refine ⟨1, fun k hk => ?_⟩
      obtain ⟨k, rfl⟩ : ∃ m, k = m + 1 := ⟨k - 1, by omega⟩
      show footbridgeref03_Make.f _ a n = _
      unfold footbridgeref03_Make.f
      rw [nm_word_is, Option.bind_some, ofL_toList, if_neg h1, if_neg h1, if_pos h2, if_pos h2]
      simp only [footbridgeref03_Make.j0]
      rw [if_pos trivial]
    · by_cases h3 : n > 1099511627776
      · refine ⟨1, fun k hk => ?_⟩
        obtain ⟨k, rfl⟩ : ∃ m, k = m + 1 := ⟨k - 1, by omega⟩
        show footbridgeref03_Make.f _ a n = _
        unfold footbridgeref03_Make.f
        rw [nm_word_is, Option.bind_some, ofL_toList, if_neg h1, if_neg h1, if_neg h2, if_neg h2, if_pos h3, decide_eq_true h3]
        simp only [footbridgeref03_Make.j0]
        rw [if_pos trivial]
      · obtain ⟨m, rfl⟩ := Int.eq_ofNat_of_zero_le (show 0 ≤ n by omega)
        obtain ⟨K, hK⟩ := nm_refDigits_ev m (by omega)
        refine ⟨K + 1, fun k hk => ?_⟩
        obtain ⟨k, rfl⟩ : ∃ m, k = m + 1 := ⟨k - 1, by omega⟩
        have hK' : footbridgeref03_Digits.f k ((m : Nat) : Int) = _ := hK k (by omega)
        show footbridgeref03_Make.f _ a _ = _
        unfold footbridgeref03_Make.f
        rw [nm_word_is, Option.bind_some, ofL_toList, if_neg h1, if_neg h1, if_neg h2, if_neg h2, if_neg h3, decide_eq_false h3]
        simp only [footbridgeref03_Make.j0]
        rw [if_neg (by simp), nm_word_is, Option.bind_some, hK', Option.bind_some, Int.toNat_natCast, if_pos]
        · exact congrArg some (Prod.ext (ba_ext (by rw [ba_append, ofL_toList, ofL_toList, ofL_toList])) rfl)
        · have := nm_headL_len a
          have := dec_len_le 14 m (by omega)
          rw [ofL_size, ofL_size]; omega
/-- What stands behind a head, once all of it is digits. -/
theorem nm_numOk_iff (h l : List UInt8) (hp : h <+: l) (hn : l.drop h.length ≠ []) : nm_numOk h l ↔ (∀ c ∈ l.drop h.length, isDig c) ∧ dval (l.drop h.length) ≤ 1099511627776 ∧ h ++ dec (dval (l.drop h.length)) = l := by
  have hl : h ++ l.drop h.length = l := by
    obtain ⟨t, rfl⟩ := hp
    rw [List.drop_left]
  unfold nm_numOk
  constructor
  · rintro ⟨_, _, h3, h4, h5⟩
    exact ⟨h4, h5, by rw [dec_dval _ h4 hn h3]; exact hl⟩
  · rintro ⟨h4, h5, h6⟩
    refine ⟨hp, hn, ?_, h4, h5⟩
    have : dec (dval (l.drop h.length)) = l.drop h.length := List.append_cancel_left (h6.trans hl.symm)
    rw [← this]
    exact dec_head _
theorem nm_numberRef_ev (a : Int) (s : ByteArray) (hs : s.size ≤ 140737488351232) : Ev (fun k => footbridgeref03_Number.f k a s) (nm_numSpec (nm_headL a) s.toList) := by
  unfold nm_numSpec
  have hle := nm_headL_len a
  by_cases h1 : nm_headL a = []
  · refine ⟨0, fun k _ => ?_⟩
    show footbridgeref03_Number.f k a s = _
    unfold footbridgeref03_Number.f
    rw [nm_word_is, Option.bind_some, ofL_toList, if_pos h1, if_pos h1]
  · rw [if_neg h1]
    by_cases h2 : (s.size : Int) ≤ ((nm_headL a).length : Int)
    · refine ⟨1, fun k hk => ?_⟩
      obtain ⟨k, rfl⟩ : ∃ m, k = m + 1 := ⟨k - 1, by omega⟩
      show footbridgeref03_Number.f _ a s = _
      unfold footbridgeref03_Number.f
      rw [nm_word_is, Option.bind_some, ofL_toList, if_neg h1, ofL_size, if_pos h2]
      simp only [footbridgeref03_Number.j0]
      rw [if_pos trivial, if_neg]
      rintro ⟨_, hn, _⟩
      apply hn
      rw [List.drop_eq_nil_iff, ← ba_size]; omega
    · by_cases h3 : (s.size : Int) > ((nm_headL a).length : Int) + 13
      · refine ⟨1, fun k hk => ?_⟩
        obtain ⟨k, rfl⟩ : ∃ m, k = m + 1 := ⟨k - 1, by omega⟩
        show footbridgeref03_Number.f _ a s = _
        unfold footbridgeref03_Number.f
        rw [nm_word_is, Option.bind_some, ofL_toList, if_neg h1, ofL_size, if_neg h2, w64 (by omega) (by omega), if_pos h3]
        simp only [footbridgeref03_Number.j0]
        rw [if_pos trivial, if_neg]
        rintro ⟨_, hn, hpl, hd, hv⟩
        have hlen : (s.toList.drop (nm_headL a).length).length ≥ 14 := by rw [List.length_drop, ← ba_size]; omega
        obtain ⟨c, t, hct⟩ := List.exists_cons_of_ne_nil hn
        rw [hct] at hpl hd hv hlen
        have hc : isDig c := hd c (by simp)
        unfold isDig at hc
        have hc0 : c.toNat ≠ 48 := by
          intro he
          rcases hpl with hpl | hpl
          · rw [hpl] at hlen; omega
          · apply hpl
            simp only [List.head?_cons, Option.some.injEq]
            exact UInt8.toNat_inj.1 he
        have hp := foldl_dstep_pow t (dstep 0 c)
        have hv2 : List.foldl dstep (dstep 0 c) t ≤ 1099511627776 := hv
        have h13 : 10 ^ 13 ≤ 10 ^ t.length := Nat.pow_le_pow_right (by omega) (by simp at hlen; omega)
        have hs1 : 1 ≤ dstep 0 c := by unfold dstep; omega
        have : 1 * 10 ^ 13 ≤ dstep 0 c * 10 ^ t.length := Nat.mul_le_mul hs1 h13
        omega
      · by_cases hp : nm_headL a <+: s.toList
        · have hn : s.toList.drop (nm_headL a).length ≠ [] := by
            intro he
            rw [List.drop_eq_nil_iff, ← ba_size] at he; omega
          -- the loop
          have loop : ∀ (d i n : Nat), d = s.size - i → (nm_headL a).length ≤ i → i ≤ s.size → n < 10 ^ (i - (nm_headL a).length) →
              Ev (fun k => footbridgeref03_Number.l0 k a s (n : Int) (i : Int)) (if (∀ c ∈ s.toList.drop i, isDig c) ∧ (s.toList.drop i).foldl dstep n ≤ 1099511627776 ∧ nm_headL a ++ dec ((s.toList.drop i).foldl dstep n) = s.toList then (((s.toList.drop i).foldl dstep n : Nat), 0) else (0, 7)) := by
            intro d
            induction d with
            | zero =>
              intro i n hd hi hi2 hb
              have hnil : s.toList.drop i = [] := by rw [List.drop_eq_nil_iff, ← ba_size]; omega
              rw [hnil]
              simp only [List.foldl_nil, List.not_mem_nil, false_implies, implies_true, true_and]
              have hb15 : n < 10 ^ 15 := Nat.lt_of_lt_of_le hb (Nat.pow_le_pow_right (by omega) (by omega))
              obtain ⟨K, hK⟩ := nm_makeRef_ev a (n : Int)
              refine ⟨K + 1, fun k hk => ?_⟩
              obtain ⟨k, rfl⟩ : ∃ m, k = m + 1 := ⟨k - 1, by omega⟩
              have hK' : footbridgeref03_Make.f k a (n : Int) = _ := hK k (by omega)
              show footbridgeref03_Number.l0 _ a s _ _ = _
              simp only [footbridgeref03_Number.l0]
              rw [if_neg (by omega), hK', Option.bind_some]
              unfold nm_mkSpec
              rw [if_neg h1, if_neg (show ¬ ((n : Int) < 0) by omega)]
              by_cases hm : (n : Int) > 1099511627776
              · rw [if_pos hm, if_neg (by simp), if_neg (by omega)]
              · rw [if_neg hm, if_pos rfl, ofL_toList, Int.toNat_natCast]
                by_cases he : nm_headL a ++ dec n = s.toList
                · rw [if_pos he, if_pos ⟨by omega, he⟩]
                · rw [if_neg he, if_neg (fun h => he h.2)]
            | succ d ih =>
              intro i n hd hi hi2 hb
              have hl : i < s.toList.length := by rw [← ba_size]; omega
              have hbt := bt_get s i hl
              rw [List.drop_eq_getElem_cons hl]
              generalize s.toList[i] = c at *
              simp only [List.mem_cons, List.foldl_cons, forall_eq_or_imp]
              by_cases d1 : bt s i < 48
              · refine ⟨1, fun k hk => ?_⟩
                obtain ⟨k, rfl⟩ : ∃ m, k = m + 1 := ⟨k - 1, by omega⟩
                show footbridgeref03_Number.l0 _ a s _ _ = _
                simp only [footbridgeref03_Number.l0]
                rw [if_pos (by omega), if_pos (by omega), if_pos d1, if_neg]
                rintro ⟨⟨hc, _⟩, _⟩
                unfold isDig at hc; omega
              · by_cases d2 : bt s i > 57
                · refine ⟨1, fun k hk => ?_⟩
                  obtain ⟨k, rfl⟩ : ∃ m, k = m + 1 := ⟨k - 1, by omega⟩
                  show footbridgeref03_Number.l0 _ a s _ _ = _
                  simp only [footbridgeref03_Number.l0]
                  rw [if_pos (by omega), if_pos (by omega), if_neg d1, if_pos d2, if_neg]
                  rintro ⟨⟨hc, _⟩, _⟩
                  unfold isDig at hc; omega
                · have hc : isDig c := by unfold isDig; omega
                  have hc' := hc
                  unfold isDig at hc'
                  have hstep : dstep n c < 10 ^ (i + 1 - (nm_headL a).length) := by
                    rw [show i + 1 - (nm_headL a).length = (i - (nm_headL a).length) + 1 by omega, Nat.pow_succ]
                    unfold dstep; omega
                  have hb14 : n < 10 ^ 13 := Nat.lt_of_lt_of_le hb (Nat.pow_le_pow_right (by omega) (by omega))
                  obtain ⟨K, hK⟩ := ih (i + 1) (dstep n c) (by omega) (by omega) (by omega) hstep
                  refine ⟨K + 1, fun k hk => ?_⟩
                  obtain ⟨k, rfl⟩ : ∃ m, k = m + 1 := ⟨k - 1, by omega⟩
                  have hK' : footbridgeref03_Number.l0 k a s ((dstep n c : Nat) : Int) ((i + 1 : Nat) : Int) = _ := hK k (by omega)
                  show footbridgeref03_Number.l0 _ a s _ _ = _
                  simp only [footbridgeref03_Number.l0]
                  have e1 : wrap64 (wrap64 ((n : Int) * 10) + (bt s i - 48) % 256) = ((dstep n c : Nat) : Int) := by
                    rw [w64 (x := (n : Int) * 10) (by omega) (by omega), w64 (by omega) (by omega)]
                    unfold dstep; omega
                  rw [if_pos (by omega), if_pos (by omega), if_neg d1, if_neg d2, e1, w64 (by omega) (by omega), show ((i : Int) + 1) = ((i + 1 : Nat) : Int) from rfl, hK']
                  simp only [hc, true_and]
          obtain ⟨K, hK⟩ := loop (s.size - (nm_headL a).length) (nm_headL a).length 0 rfl (Nat.le_refl _) (by omega) (Nat.pow_pos (by omega))
          refine ⟨K + 1, fun k hk => ?_⟩
          obtain ⟨k, rfl⟩ : ∃ m, k = m + 1 := ⟨k - 1, by omega⟩
          have hK' : footbridgeref03_Number.l0 k a s (0 : Int) ((nm_headL a).length : Int) = _ := hK k (by omega)
          show footbridgeref03_Number.f _ a s = _
          unfold footbridgeref03_Number.f
          have hex : (s.extract 0 (nm_headL a).length).toList = nm_headL a := by
            rw [ba_extract, List.drop_zero]
            exact (List.prefix_iff_eq_take.1 hp).symm
          rw [nm_word_is, Option.bind_some, ofL_toList, if_neg h1, ofL_size, if_neg h2, w64 (by omega) (by omega), if_neg h3, if_pos (by omega), if_pos (by omega), Int.toNat_natCast, hex, bne_self_eq_false]
          simp only [footbridgeref03_Number.j0]
          rw [if_neg (by simp), ofL_size, hK']
          congr 1
          have hiff := nm_numOk_iff (nm_headL a) s.toList hp hn
          by_cases hok : nm_numOk (nm_headL a) s.toList
          · rw [if_pos hok]
            have := hiff.1 hok
            rw [if_pos]
            · rfl
            · exact this
          · rw [if_neg hok]
            rw [if_neg]
            exact fun h => hok (hiff.2 h)
        · refine ⟨1, fun k hk => ?_⟩
          obtain ⟨k, rfl⟩ : ∃ m, k = m + 1 := ⟨k - 1, by omega⟩
          show footbridgeref03_Number.f _ a s = _
          unfold footbridgeref03_Number.f
          have hex : ((s.extract 0 (nm_headL a).length).toList != nm_headL a) = true := by
            rw [bne_iff_ne, ba_extract, List.drop_zero]
            intro he
            exact hp (List.prefix_iff_eq_take.2 he.symm)
          rw [nm_word_is, Option.bind_some, ofL_toList, if_neg h1, ofL_size, if_neg h2, w64 (by omega) (by omega), if_neg h3, if_pos (by omega), if_pos (by omega), Int.toNat_natCast, hex]
          simp only [footbridgeref03_Number.j0]
          rw [if_pos trivial, if_neg (fun h : nm_numOk _ _ => hp h.1)]

open Classical in
theorem nm_checkRef_ev (a : Int) (s : ByteArray) (hs : s.size ≤ 140737488351232) : Ev (fun k => footbridgeref03_Check.f k a s) (nm_checkSpec a s) := by
  obtain ⟨K, hK⟩ := nm_plain_ref s hs
  obtain ⟨K2, hK2⟩ := nm_numberRef_ev a s hs
  refine ⟨max K K2 + 1, fun k hk => ?_⟩
  obtain ⟨k, rfl⟩ : ∃ m, k = m + 1 := ⟨k - 1, by omega⟩
  have hp : footbridgeref03_Plain.f k s = _ := hK k (by omega)
  have hp2 : footbridgeref03_Number.f k a s = _ := hK2 k (by omega)
  show footbridgeref03_Check.f _ a s = _
  unfold footbridgeref03_Check.f nm_checkSpec
  by_cases h1 : a < 0
  · rw [if_pos h1, if_pos h1]
    simp only [footbridgeref03_Check.j0]
    rw [if_pos trivial]
  · rw [if_neg h1, if_neg h1]
    simp only [footbridgeref03_Check.j0]
    by_cases h2 : a > 6
    · rw [if_pos h2, decide_eq_true h2, if_pos rfl]
    · rw [if_neg h2, decide_eq_false h2, if_neg (by simp), nm_word_is, Option.bind_some, ofL_toList]
      by_cases h3 : nm_headL a = []
      · rw [if_pos h3, if_pos h3, hp, Option.bind_some]
        by_cases h4 : nm_plainP s
        · rw [decide_eq_true h4, if_pos rfl, if_pos h4]
        · rw [decide_eq_false h4, if_neg (by simp), if_neg h4]
      · rw [if_neg h3, if_neg h3, hp2, Option.bind_some]


end Go.Proofs.YtonipkgekhdogaaGreatDoor.PBas
