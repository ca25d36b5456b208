/- For any trace and any text the program's Put and Read of traces answer as the reference's do. No condition beyond the inputs' own sizes. -/
import Derived.Test.YtcgmododeiocpaaDoorPTrtx2
import Derived.Test.YtcgmododeiocpaaDoorPTrtx3
import Derived.Test.YtcgmododeiocpaaDoorPTrtx4
import Derived.Test.YtcgmododeiocpaaDoorPTrtx5
import Derived.Test.YtcgmododeiocpaaDoorPTrtx6
import Derived.Test.YtcgmododeiocpaaDoorPTrtx7
import Derived.Test.YtcgmododeiocpaaDoorPTrtx8
import Derived.Test.YtcgmododeiocpaaDoorPTrtx9
import Derived.Test.YtcgmododeiocpaaDoorPTrto
import Derived.Lib.SplitLaws
import Derived.Lib.IndexBytes
namespace Go.Proofs.YtcgmododeiocpaaDoor.PureTrt
open Go.RowKit Go.Proofs.YtcgmododeiocpaaDoor.PTrt Go.Proofs.YtcgmododeiocpaaDoorW.PrintWords Go.Proofs.YtcgmododeiocpaaDoorW.PrintLast
set_option linter.unusedVariables false
set_option linter.unusedSimpArgs false
def headL (a : Int) : List UInt8 := if a = 1 then [99, 104, 97, 110, 110, 101, 108, 45] else if a = 2 then [99, 111, 110, 110, 101, 99, 116, 105, 111, 110, 45] else if a = 3 then [99, 108, 105, 101, 110, 116, 45] else []
theorem head_is (a : Int) : names_head.f a = some (ofL (headL a)) := by
  unfold names_head.f headL
  split
  · rfl
  · split
    · rfl
    · split <;> rfl
theorem word_is (a : Int) : footbridgeref03_word.f a = some (ofL (headL a)) := head_is a
theorem hasPrefix_is (s h : ByteArray) : stringslite_HasPrefix.f s h = some (decide (h.toList <+: s.toList)) := by
  unfold stringslite_HasPrefix.f
  by_cases hs : (s.size : Int) ≥ (h.size : Int)
  · rw [if_pos hs, if_pos (by omega), if_pos hs]
    congr 1
    rw [ba_extract, List.drop_zero, Int.toNat_natCast, Bool.eq_iff_iff, beq_iff_eq, decide_eq_true_iff, List.prefix_iff_eq_take, ba_size h]
    exact eq_comm
  · rw [if_neg hs]
    congr 1
    symm
    rw [decide_eq_false_iff_not]
    intro hp
    have := hp.length_le
    rw [← ba_size, ← ba_size] at this
    omega
theorem cutPrefix_is (s h : ByteArray) : strings_CutPrefix.f s h = some (if h.toList <+: s.toList then (ofL (s.toList.drop h.size), true) else (s, false)) := by
  unfold strings_CutPrefix.f stringslite_CutPrefix.f
  rw [hasPrefix_is, Option.bind_some]
  by_cases hp : h.toList <+: s.toList
  · have hl := hp.length_le
    rw [← ba_size, ← ba_size] at hl
    rw [decide_eq_true hp, if_pos rfl, if_pos (by omega), if_pos (by omega), Option.bind_some, if_pos hp]
    congr 2
    apply ba_ext
    rw [ba_extract, ofL_toList, Int.toNat_natCast, ba_size s, List.take_length]
  · rw [decide_eq_false hp, if_neg (by simp), Option.bind_some, if_neg hp]
theorem go_is (s : ByteArray) (d : Nat) : ∀ (i n : Nat), i ≤ s.size → d = s.size + 1 - i → n ≤ 1099511627776 → names_Number.go s d i (n : Int) = if (∀ c ∈ s.toList.drop i, isDig c) ∧ (s.toList.drop i).foldl dstep n ≤ 1099511627776 then some (((s.toList.drop i).foldl dstep n : Nat) : Int) else none := by
  induction d with
  | zero => intro i n hi hd; omega
  | succ d ih =>
    intro i n hi hd hn
    unfold names_Number.go
    by_cases h : i < s.size
    · have hl : i < s.toList.length := by rw [← ba_size]; exact h
      have hb := bt_get s i hl
      rw [if_pos h, List.drop_eq_getElem_cons hl]
      generalize s.toList[i] = c at *
      simp only [List.mem_cons, List.foldl_cons, forall_eq_or_imp]
      by_cases h1 : bt s i < 48
      · rw [if_pos h1, if_neg]
        rintro ⟨⟨hc, _⟩, _⟩
        unfold isDig at hc; omega
      · rw [if_neg h1]
        by_cases h2 : bt s i > 57
        · rw [if_pos h2, if_neg]
          rintro ⟨⟨hc, _⟩, _⟩
          unfold isDig at hc; omega
        · rw [if_neg h2]
          have hc : isDig c := by unfold isDig; omega
          have he : (n : Int) * 10 + (bt s i - 48) = ((dstep n c : Nat) : Int) := by unfold dstep; rw [hb]; unfold isDig at hc; omega
          rw [he]
          by_cases h3 : ((dstep n c : Nat) : Int) > 1099511627776
          · rw [if_pos h3, if_neg]
            rintro ⟨_, hle⟩
            have := foldl_dstep_ge (s.toList.drop (i + 1)) (dstep n c)
            omega
          · rw [if_neg h3, ih (i + 1) (dstep n c) (by omega) (by omega) (by omega)]
            simp only [hc, true_and]
    · rw [if_neg h]
      have : s.toList.drop i = [] := by rw [List.drop_eq_nil_iff, ← ba_size]; omega
      rw [this]
      simp [hn]
/-- What Number answers: of a kind's head and a name. -/
def numOk (h l : List UInt8) : Prop := h <+: l ∧ l.drop h.length ≠ [] ∧ plainDec (l.drop h.length) ∧ (∀ c ∈ l.drop h.length, isDig c) ∧ dval (l.drop h.length) ≤ 1099511627776
open Classical in
noncomputable def numSpec (h l : List UInt8) : Int × Int := if h = [] then (0, 1) else if numOk h l then ((dval (l.drop h.length) : Nat), 0) else (0, 7)
theorem plainDec_iff (l : List UInt8) (hn : l ≠ []) : plainDec l ↔ ¬ (1 < (ofL l).size ∧ bt (ofL l) 0 = 48) := by
  obtain ⟨c, t, rfl⟩ := List.exists_cons_of_ne_nil hn
  have hb : bt (ofL (c :: t)) 0 = ((c.toNat : Nat) : Int) := by
    have := bt_get (ofL (c :: t)) 0 (by rw [ofL_toList]; simp)
    simp only [ofL_toList] at this
    exact this
  rw [hb, ofL_size]
  unfold plainDec
  simp only [List.length_cons, List.head?_cons, ne_eq, Option.some.injEq]
  constructor
  · rintro (h | h) ⟨h1, h2⟩
    · omega
    · exact h (UInt8.toNat_inj.1 (by have : (48 : UInt8).toNat = 48 := rfl; omega))
  · intro h
    by_cases hl : t.length = 0
    · exact .inl (by omega)
    · right
      intro he
      apply h
      rw [he]
      exact ⟨by omega, rfl⟩
theorem number_is (a : Int) (s : ByteArray) (hs : s.size ≤ 140737488351232) : names_Number.f a s = some (numSpec (headL a) s.toList) := by
  unfold names_Number.f numSpec
  rw [if_pos hs, head_is, Option.bind_some, ofL_toList]
  by_cases hh : headL a = []
  · rw [if_pos hh, if_pos hh]
  · rw [if_neg hh, if_neg hh, cutPrefix_is, Option.bind_some, ofL_toList, ofL_size]
    by_cases hp : headL a <+: s.toList
    · rw [if_pos hp]
      simp only [Bool.true_eq_false, if_false, ofL_toList]
      by_cases he : s.toList.drop (headL a).length = []
      · rw [if_pos he, if_neg]
        rintro ⟨_, h2, _⟩
        exact h2 he
      · rw [if_neg he]
        have hpi := plainDec_iff _ he
        by_cases hz : 1 < (ofL (s.toList.drop (headL a).length)).size ∧ bt (ofL (s.toList.drop (headL a).length)) 0 = 48
        · rw [if_pos hz, if_neg]
          rintro ⟨_, _, h3, _⟩
          exact hpi.1 h3 hz
        · rw [if_neg hz]
          have hsz : (ofL (s.toList.drop (headL a).length)).size ≤ 140737488351232 := by
            rw [ofL_size, List.length_drop, ← ba_size]; omega
          rw [if_pos hsz]
          have hg := go_is (ofL (s.toList.drop (headL a).length)) _ 0 0 (by omega) rfl (by omega)
          rw [show (((0 : Nat) : Int)) = 0 from rfl] at hg
          rw [Nat.sub_zero, List.drop_zero, ofL_toList] at hg
          rw [hg]
          by_cases hd : (∀ c ∈ s.toList.drop (headL a).length, isDig c) ∧ (s.toList.drop (headL a).length).foldl dstep 0 ≤ 1099511627776
          · rw [if_pos hd, if_pos]
            · rfl
            · exact ⟨hp, he, hpi.2 hz, hd.1, hd.2⟩
          · rw [if_neg hd, if_neg]
            rintro ⟨_, _, _, h4, h5⟩
            exact hd ⟨h4, h5⟩
    · rw [if_neg hp, if_pos rfl, if_neg (fun h : numOk _ _ => hp h.1)]
def letP (c : Int) : Prop := (97 ≤ c ∧ c ≤ 122) ∨ (65 ≤ c ∧ c ≤ 90) ∨ (48 ≤ c ∧ c ≤ 57) ∨ c = 46 ∨ c = 95 ∨ c = 45
instance (c : Int) : Decidable (letP c) := by unfold letP; infer_instance
theorem letter_is (c : Int) (k : Nat) : names_letter.f (k + 3) c = some (decide (letP c)) := by
  unfold names_letter.f
  simp only [names_letter.j0, names_letter.j1, names_letter.j2]
  repeat' split
  all_goals (try simp only [decide_eq_true_iff, Bool.false_eq_true] at *)
  all_goals (first | exact congrArg some (decide_eq_true (by unfold letP; omega)).symm | exact congrArg some (decide_eq_false (by unfold letP; omega)).symm)
theorem letter_at (c : Int) (k : Nat) (h : 3 ≤ k) : names_letter.f k c = some (decide (letP c)) := by
  obtain ⟨m, rfl⟩ : ∃ m, k = m + 3 := ⟨k - 3, by omega⟩
  exact letter_is c m
theorem letter_ref (c : Int) : footbridgeref03_letter.f c = some (decide (letP c)) := by
  unfold footbridgeref03_letter.f
  repeat' split
  all_goals (first | exact congrArg some (decide_eq_true (by unfold letP; omega)).symm | exact congrArg some (decide_eq_false (by unfold letP; omega)).symm | (by_cases h45 : c = 45; (subst h45; rfl); exact congrArg some ((beq_eq_false_iff_ne.2 h45).trans (decide_eq_false (by unfold letP; omega)).symm)))
def plainP (s : ByteArray) : Prop := 1 ≤ s.size ∧ s.size ≤ 64 ∧ ∀ i : Nat, i < s.size → letP (bt s i)
open Classical in
theorem plain_is (s : ByteArray) (hs : s.size ≤ 140737488351232) : Ev (fun k => names_plain.f k s) (decide (plainP s)) := by
  have loop : ∀ (d i : Nat) (b : Bool), d = s.size - i → i ≤ s.size → ∀ k, d + 5 ≤ k → names_plain.l0 k s b (s.size : Int) (i : Int) = some (b && decide (∀ j : Nat, i ≤ j → j < s.size → letP (bt s j))) := by
    intro d
    induction d with
    | zero =>
      intro i b hd hi k hk
      obtain ⟨k, rfl⟩ : ∃ m, k = m + 1 := ⟨k - 1, by omega⟩
      simp only [names_plain.l0]
      rw [if_neg (by omega), decide_eq_true (fun j h1 h2 => by omega), Bool.and_true]
    | succ d ih =>
      intro i b hd hi k hk
      obtain ⟨k, rfl⟩ : ∃ m, k = m + 1 := ⟨k - 1, by omega⟩
      simp only [names_plain.l0]
      rw [if_pos (by omega), if_pos (by omega), if_pos (by omega), letter_at _ _ (by omega), Option.bind_some]
      by_cases hl : letP (bt s i)
      · rw [decide_eq_true hl, if_pos rfl, w64 (by omega) (by omega), show ((i : Int) + 1) = ((i + 1 : Nat) : Int) from rfl, ih (i + 1) b (by omega) (by omega) _ (by omega)]
        congr 2
        rw [decide_eq_decide]
        constructor
        · intro h j h1 h2
          by_cases he : j = i
          · rw [he]; exact hl
          · exact h j (by omega) h2
        · intro h j h1 h2
          exact h j (by omega) h2
      · rw [decide_eq_false hl, if_neg (by simp), decide_eq_false (fun h => hl (h i (Nat.le_refl _) (by omega))), Bool.and_false]
  refine ⟨s.size + 6, fun k hk => ?_⟩
  obtain ⟨k, rfl⟩ : ∃ m, k = m + 1 := ⟨k - 1, by omega⟩
  have hl := fun b => loop s.size 0 b (by omega) (by omega) k (by omega)
  unfold names_plain.f
  simp only [names_plain.j0]
  by_cases h0 : s.toList = []
  · rw [if_pos h0]
    have hz : s.size = 0 := by rw [ba_size, h0]; rfl
    have := hl false
    rw [show ((0 : Nat) : Int) = 0 from rfl] at this
    rw [this, Bool.false_and, decide_eq_false (fun h : plainP s => by have := h.1; omega)]
  · rw [if_neg h0]
    have hz : 1 ≤ s.size := by rw [ba_size]; exact List.length_pos_iff.2 h0
    have := hl (decide ((s.size : Int) ≤ 64))
    rw [show ((0 : Nat) : Int) = 0 from rfl] at this
    rw [this]
    congr 1
    rw [Bool.eq_iff_iff, Bool.and_eq_true, decide_eq_true_iff, decide_eq_true_iff, decide_eq_true_iff]
    constructor
    · rintro ⟨h1, h2⟩
      exact ⟨hz, by omega, fun i hi => h2 i (Nat.zero_le _) hi⟩
    · rintro ⟨_, h1, h2⟩
      exact ⟨by omega, fun i _ hi => h2 i hi⟩
open Classical in
theorem plain_ref (s : ByteArray) (hs : s.size ≤ 140737488351232) : Ev (fun k => footbridgeref03_Plain.f k s) (decide (plainP s)) := by
  have loop : ∀ (d i : Nat), d = s.size - i → i ≤ s.size → ∀ k, d + 1 ≤ k → footbridgeref03_Plain.l0 k s (i : Int) = some (decide (1 ≤ s.size ∧ s.size ≤ 64 ∧ ∀ j : Nat, i ≤ j → j < s.size → letP (bt s j))) := by
    intro d
    induction d with
    | zero =>
      intro i hd hi k hk
      obtain ⟨k, rfl⟩ : ∃ m, k = m + 1 := ⟨k - 1, by omega⟩
      simp only [footbridgeref03_Plain.l0]
      rw [if_neg (by omega)]
      split
      · congr 1
        rw [decide_eq_decide]
        exact ⟨fun h => ⟨by omega, by omega, fun j h1 h2 => by omega⟩, fun h => by omega⟩
      · congr 1
        symm
        rw [decide_eq_false_iff_not]
        rintro ⟨h, _⟩
        omega
    | succ d ih =>
      intro i hd hi k hk
      obtain ⟨k, rfl⟩ : ∃ m, k = m + 1 := ⟨k - 1, by omega⟩
      simp only [footbridgeref03_Plain.l0]
      rw [if_pos (by omega), if_pos (by omega), letter_ref, Option.bind_some]
      by_cases hl : letP (bt s i)
      · rw [decide_eq_true hl, if_pos rfl, w64 (by omega) (by omega), show ((i : Int) + 1) = ((i + 1 : Nat) : Int) from rfl, ih (i + 1) (by omega) (by omega) _ (by omega)]
        congr 1
        rw [decide_eq_decide]
        constructor
        · rintro ⟨ha, hb, h⟩
          refine ⟨ha, hb, fun j h1 h2 => ?_⟩
          by_cases he : j = i
          · rw [he]; exact hl
          · exact h j (by omega) h2
        · rintro ⟨ha, hb, h⟩
          exact ⟨ha, hb, fun j h1 h2 => h j (by omega) h2⟩
      · rw [decide_eq_false hl, if_neg (by simp), decide_eq_false (fun h => hl (h.2.2 i (Nat.le_refl _) (by omega)))]
  refine ⟨s.size + 1, fun k hk => ?_⟩
  have hl := loop s.size 0 (by omega) (by omega) k (by omega)
  unfold footbridgeref03_Plain.f
  rw [show ((0 : Nat) : Int) = 0 from rfl] at hl
  refine hl.trans ?_
  congr 1
  rw [decide_eq_decide]
  unfold plainP
  exact ⟨fun h => ⟨h.1, h.2.1, fun i hi => h.2.2 i (Nat.zero_le _) hi⟩, fun h => ⟨h.1, h.2.1, fun i _ hi => h.2.2 i hi⟩⟩
theorem one_digit (n : Int) (h0 : 0 ≤ n) (h : n < 10) : strOfNums [(wrap64 (48 + n)) % 256] = ofL [UInt8.ofNat (48 + n.toNat)] := by
  unfold strOfNums ofL
  rw [w64 (by omega) (by omega), List.map_cons, List.map_nil, show ((48 + n) % 256).toNat = 48 + n.toNat by omega]
theorem refDigits_ev (n : Nat) (hn : n < 10 ^ 15) : Ev (fun k => footbridgeref03_Digits.f k (n : Int)) (ofL (dec n)) := by
  have loop : ∀ n : Nat, ∀ acc : ByteArray, n + acc.size ≤ 2000000000000000 → Ev (fun k => footbridgeref03_Digits.l0 k (n : Int) acc) (ofL (dec n ++ acc.toList)) := by
    intro n
    induction n using Nat.strongRecOn with
    | _ n ih =>
      intro acc ha
      by_cases h : n < 10
      · refine ⟨1, fun k hk => ?_⟩
        obtain ⟨k, rfl⟩ : ∃ m, k = m + 1 := ⟨k - 1, by omega⟩
        simp only [footbridgeref03_Digits.l0]
        rw [if_neg (by omega), Option.bind_some, one_digit _ (by omega) (by omega), ofL_size, if_pos (by simp; omega), dec_lt h]
        congr 1
        apply ba_ext
        rw [ba_append, ofL_toList, ofL_toList]
        rfl
      · have e2 : Int.tmod (n : Int) 10 = ((n % 10 : Nat) : Int) := by
          rw [Int.tmod_eq_emod_of_nonneg (by omega)]; rfl
        have e1 : wrap64 (Int.tdiv (n : Int) 10) = ((n / 10 : Nat) : Int) := by
          rw [Int.tdiv_eq_ediv_of_nonneg (by omega), w64 (by omega) (by omega)]; rfl
        obtain ⟨K, hK⟩ := ih (n / 10) (by omega) (ofL [UInt8.ofNat (48 + n % 10)] ++ acc) (by rw [ByteArray.size_append, ofL_size]; simp; omega)
        refine ⟨K + 1, fun k hk => ?_⟩
        obtain ⟨k, rfl⟩ : ∃ m, k = m + 1 := ⟨k - 1, by omega⟩
        have hK' : footbridgeref03_Digits.l0 k ((n / 10 : Nat) : Int) _ = _ := hK k (by omega)
        simp only [footbridgeref03_Digits.l0]
        rw [if_pos (by omega), e1, e2, Option.bind_some, one_digit _ (by omega) (by omega), ofL_size, if_pos (by simp; omega), Int.toNat_natCast, hK']
        congr 2
        rw [ba_append, ofL_toList, dec_ge h, List.append_assoc]
  have := loop n (⟨#[]⟩ : ByteArray) (by show n + 0 ≤ _; omega)
  have e : (⟨#[]⟩ : ByteArray).toList = [] := by rw [ByteArray.toList_eq]
  rw [e, List.append_nil] at this
  exact this


def mkSpec (a n : Int) : ByteArray × Int := if headL a = [] then (⟨#[]⟩, 1) else if n < 0 then (⟨#[]⟩, 3) else if n > 1099511627776 then (⟨#[]⟩, 3) else (ofL (headL a ++ dec n.toNat), 0)
theorem headL_len (a : Int) : (headL a).length ≤ 11 := by unfold headL; repeat' split
                                                          all_goals simp
theorem makeRef_ev (a n : Int) : Ev (fun k => footbridgeref03_Make.f k a n) (mkSpec a n) := by
  unfold mkSpec
  by_cases h1 : headL a = []
  · refine ⟨0, fun k _ => ?_⟩
    show footbridgeref03_Make.f k a n = _
    unfold footbridgeref03_Make.f
    rw [word_is, Option.bind_some, ofL_toList, if_pos h1, if_pos h1]
  · by_cases h2 : n < 0
    · refine ⟨1, fun k hk => ?_⟩
      obtain ⟨k, rfl⟩ : ∃ m, k = m + 1 := ⟨k - 1, by omega⟩
      show footbridgeref03_Make.f _ a n = _
      unfold footbridgeref03_Make.f
      rw [word_is, Option.bind_some, ofL_toList, if_neg h1, if_neg h1, if_pos h2, if_pos h2]
      simp only [footbridgeref03_Make.j0]
      rw [if_pos trivial]
    · by_cases h3 : n > 1099511627776
      · refine ⟨1, fun k hk => ?_⟩
        obtain ⟨k, rfl⟩ : ∃ m, k = m + 1 := ⟨k - 1, by omega⟩
        show footbridgeref03_Make.f _ a n = _
        unfold footbridgeref03_Make.f
        rw [word_is, Option.bind_some, ofL_toList, if_neg h1, if_neg h1, if_neg h2, if_neg h2, if_pos h3, decide_eq_true h3]
        simp only [footbridgeref03_Make.j0]
        rw [if_pos trivial]
      · obtain ⟨m, rfl⟩ := Int.eq_ofNat_of_zero_le (show 0 ≤ n by omega)
        obtain ⟨K, hK⟩ := refDigits_ev m (by omega)
        refine ⟨K + 1, fun k hk => ?_⟩
        obtain ⟨k, rfl⟩ : ∃ m, k = m + 1 := ⟨k - 1, by omega⟩
        have hK' : footbridgeref03_Digits.f k ((m : Nat) : Int) = _ := hK k (by omega)
        show footbridgeref03_Make.f _ a _ = _
        unfold footbridgeref03_Make.f
        rw [word_is, Option.bind_some, ofL_toList, if_neg h1, if_neg h1, if_neg h2, if_neg h2, if_neg h3, decide_eq_false h3]
        simp only [footbridgeref03_Make.j0]
        rw [if_neg (by simp), word_is, Option.bind_some, hK', Option.bind_some, Int.toNat_natCast, if_pos]
        · exact congrArg some (Prod.ext (ba_ext (by rw [ba_append, ofL_toList, ofL_toList, ofL_toList])) rfl)
        · have := headL_len a
          have := dec_len_le 14 m (by omega)
          rw [ofL_size, ofL_size]; omega
/-- What stands behind a head, once all of it is digits. -/
theorem numOk_iff (h l : List UInt8) (hp : h <+: l) (hn : l.drop h.length ≠ []) : numOk h l ↔ (∀ c ∈ l.drop h.length, isDig c) ∧ dval (l.drop h.length) ≤ 1099511627776 ∧ h ++ dec (dval (l.drop h.length)) = l := by
  have hl : h ++ l.drop h.length = l := by
    obtain ⟨t, rfl⟩ := hp
    rw [List.drop_left]
  unfold numOk
  constructor
  · rintro ⟨_, _, h3, h4, h5⟩
    exact ⟨h4, h5, by rw [dec_dval _ h4 hn h3]; exact hl⟩
  · rintro ⟨h4, h5, h6⟩
    refine ⟨hp, hn, ?_, h4, h5⟩
    have : dec (dval (l.drop h.length)) = l.drop h.length := List.append_cancel_left (h6.trans hl.symm)
    rw [← this]
    exact dec_head _
theorem numberRef_ev (a : Int) (s : ByteArray) (hs : s.size ≤ 140737488351232) : Ev (fun k => footbridgeref03_Number.f k a s) (numSpec (headL a) s.toList) := by
  unfold numSpec
  have hle := headL_len a
  by_cases h1 : headL a = []
  · refine ⟨0, fun k _ => ?_⟩
    show footbridgeref03_Number.f k a s = _
    unfold footbridgeref03_Number.f
    rw [word_is, Option.bind_some, ofL_toList, if_pos h1, if_pos h1]
  · rw [if_neg h1]
    by_cases h2 : (s.size : Int) ≤ ((headL a).length : Int)
    · refine ⟨1, fun k hk => ?_⟩
      obtain ⟨k, rfl⟩ : ∃ m, k = m + 1 := ⟨k - 1, by omega⟩
      show footbridgeref03_Number.f _ a s = _
      unfold footbridgeref03_Number.f
      rw [word_is, Option.bind_some, ofL_toList, if_neg h1, ofL_size, if_pos h2]
      simp only [footbridgeref03_Number.j0]
      rw [if_pos trivial, if_neg]
      rintro ⟨_, hn, _⟩
      apply hn
      rw [List.drop_eq_nil_iff, ← ba_size]; omega
    · by_cases h3 : (s.size : Int) > ((headL a).length : Int) + 13
      · refine ⟨1, fun k hk => ?_⟩
        obtain ⟨k, rfl⟩ : ∃ m, k = m + 1 := ⟨k - 1, by omega⟩
        show footbridgeref03_Number.f _ a s = _
        unfold footbridgeref03_Number.f
        rw [word_is, Option.bind_some, ofL_toList, if_neg h1, ofL_size, if_neg h2, w64 (by omega) (by omega), if_pos h3]
        simp only [footbridgeref03_Number.j0]
        rw [if_pos trivial, if_neg]
        rintro ⟨_, hn, hpl, hd, hv⟩
        have hlen : (s.toList.drop (headL a).length).length ≥ 14 := by rw [List.length_drop, ← ba_size]; omega
        obtain ⟨c, t, hct⟩ := List.exists_cons_of_ne_nil hn
        rw [hct] at hpl hd hv hlen
        have hc : isDig c := hd c (by simp)
        unfold isDig at hc
        have hc0 : c.toNat ≠ 48 := by
          intro he
          rcases hpl with hpl | hpl
          · rw [hpl] at hlen; omega
          · apply hpl
            simp only [List.head?_cons, Option.some.injEq]
            exact UInt8.toNat_inj.1 he
        have hp := foldl_dstep_pow t (dstep 0 c)
        have hv2 : List.foldl dstep (dstep 0 c) t ≤ 1099511627776 := hv
        have h13 : 10 ^ 13 ≤ 10 ^ t.length := Nat.pow_le_pow_right (by omega) (by simp at hlen; omega)
        have hs1 : 1 ≤ dstep 0 c := by unfold dstep; omega
        have : 1 * 10 ^ 13 ≤ dstep 0 c * 10 ^ t.length := Nat.mul_le_mul hs1 h13
        omega
      · by_cases hp : headL a <+: s.toList
        · have hn : s.toList.drop (headL a).length ≠ [] := by
            intro he
            rw [List.drop_eq_nil_iff, ← ba_size] at he; omega
          -- the loop
          have loop : ∀ (d i n : Nat), d = s.size - i → (headL a).length ≤ i → i ≤ s.size → n < 10 ^ (i - (headL a).length) →
              Ev (fun k => footbridgeref03_Number.l0 k a s (n : Int) (i : Int)) (if (∀ c ∈ s.toList.drop i, isDig c) ∧ (s.toList.drop i).foldl dstep n ≤ 1099511627776 ∧ headL a ++ dec ((s.toList.drop i).foldl dstep n) = s.toList then (((s.toList.drop i).foldl dstep n : Nat), 0) else (0, 7)) := by
            intro d
            induction d with
            | zero =>
              intro i n hd hi hi2 hb
              have hnil : s.toList.drop i = [] := by rw [List.drop_eq_nil_iff, ← ba_size]; omega
              rw [hnil]
              simp only [List.foldl_nil, List.not_mem_nil, false_implies, implies_true, true_and]
              have hb15 : n < 10 ^ 15 := Nat.lt_of_lt_of_le hb (Nat.pow_le_pow_right (by omega) (by omega))
              obtain ⟨K, hK⟩ := makeRef_ev a (n : Int)
              refine ⟨K + 1, fun k hk => ?_⟩
              obtain ⟨k, rfl⟩ : ∃ m, k = m + 1 := ⟨k - 1, by omega⟩
              have hK' : footbridgeref03_Make.f k a (n : Int) = _ := hK k (by omega)
              show footbridgeref03_Number.l0 _ a s _ _ = _
              simp only [footbridgeref03_Number.l0]
              rw [if_neg (by omega), hK', Option.bind_some]
              unfold mkSpec
              rw [if_neg h1, if_neg (show ¬ ((n : Int) < 0) by omega)]
              by_cases hm : (n : Int) > 1099511627776
              · rw [if_pos hm, if_neg (by simp), if_neg (by omega)]
              · rw [if_neg hm, if_pos rfl, ofL_toList, Int.toNat_natCast]
                by_cases he : headL a ++ dec n = s.toList
                · rw [if_pos he, if_pos ⟨by omega, he⟩]
                · rw [if_neg he, if_neg (fun h => he h.2)]
            | succ d ih =>
              intro i n hd hi hi2 hb
              have hl : i < s.toList.length := by rw [← ba_size]; omega
              have hbt := bt_get s i hl
              rw [List.drop_eq_getElem_cons hl]
              generalize s.toList[i] = c at *
              simp only [List.mem_cons, List.foldl_cons, forall_eq_or_imp]
              by_cases d1 : bt s i < 48
              · refine ⟨1, fun k hk => ?_⟩
                obtain ⟨k, rfl⟩ : ∃ m, k = m + 1 := ⟨k - 1, by omega⟩
                show footbridgeref03_Number.l0 _ a s _ _ = _
                simp only [footbridgeref03_Number.l0]
                rw [if_pos (by omega), if_pos (by omega), if_pos d1, if_neg]
                rintro ⟨⟨hc, _⟩, _⟩
                unfold isDig at hc; omega
              · by_cases d2 : bt s i > 57
                · refine ⟨1, fun k hk => ?_⟩
                  obtain ⟨k, rfl⟩ : ∃ m, k = m + 1 := ⟨k - 1, by omega⟩
                  show footbridgeref03_Number.l0 _ a s _ _ = _
                  simp only [footbridgeref03_Number.l0]
                  rw [if_pos (by omega), if_pos (by omega), if_neg d1, if_pos d2, if_neg]
                  rintro ⟨⟨hc, _⟩, _⟩
                  unfold isDig at hc; omega
                · have hc : isDig c := by unfold isDig; omega
                  have hc' := hc
                  unfold isDig at hc'
                  have hstep : dstep n c < 10 ^ (i + 1 - (headL a).length) := by
                    rw [show i + 1 - (headL a).length = (i - (headL a).length) + 1 by omega, Nat.pow_succ]
                    unfold dstep; omega
                  have hb14 : n < 10 ^ 13 := Nat.lt_of_lt_of_le hb (Nat.pow_le_pow_right (by omega) (by omega))
                  obtain ⟨K, hK⟩ := ih (i + 1) (dstep n c) (by omega) (by omega) (by omega) hstep
                  refine ⟨K + 1, fun k hk => ?_⟩
                  obtain ⟨k, rfl⟩ : ∃ m, k = m + 1 := ⟨k - 1, by omega⟩
                  have hK' : footbridgeref03_Number.l0 k a s ((dstep n c : Nat) : Int) ((i + 1 : Nat) : Int) = _ := hK k (by omega)
                  show footbridgeref03_Number.l0 _ a s _ _ = _
                  simp only [footbridgeref03_Number.l0]
                  have e1 : wrap64 (wrap64 ((n : Int) * 10) + (bt s i - 48) % 256) = ((dstep n c : Nat) : Int) := by
                    rw [w64 (x := (n : Int) * 10) (by omega) (by omega), w64 (by omega) (by omega)]
                    unfold dstep; omega
                  rw [if_pos (by omega), if_pos (by omega), if_neg d1, if_neg d2, e1, w64 (by omega) (by omega), show ((i : Int) + 1) = ((i + 1 : Nat) : Int) from rfl, hK']
                  simp only [hc, true_and]
          obtain ⟨K, hK⟩ := loop (s.size - (headL a).length) (headL a).length 0 rfl (Nat.le_refl _) (by omega) (Nat.pow_pos (by omega))
          refine ⟨K + 1, fun k hk => ?_⟩
          obtain ⟨k, rfl⟩ : ∃ m, k = m + 1 := ⟨k - 1, by omega⟩
          have hK' : footbridgeref03_Number.l0 k a s (0 : Int) ((headL a).length : Int) = _ := hK k (by omega)
          show footbridgeref03_Number.f _ a s = _
          unfold footbridgeref03_Number.f
          have hex : (s.extract 0 (headL a).length).toList = headL a := by
            rw [ba_extract, List.drop_zero]
            exact (List.prefix_iff_eq_take.1 hp).symm
          rw [word_is, Option.bind_some, ofL_toList, if_neg h1, ofL_size, if_neg h2, w64 (by omega) (by omega), if_neg h3, if_pos (by omega), if_pos (by omega), Int.toNat_natCast, hex, bne_self_eq_false]
          simp only [footbridgeref03_Number.j0]
          rw [if_neg (by simp), ofL_size, hK']
          congr 1
          have hiff := numOk_iff (headL a) s.toList hp hn
          by_cases hok : numOk (headL a) s.toList
          · rw [if_pos hok]
            have := hiff.1 hok
            rw [if_pos]
            · rfl
            · exact this
          · rw [if_neg hok]
            rw [if_neg]
            exact fun h => hok (hiff.2 h)
        · refine ⟨1, fun k hk => ?_⟩
          obtain ⟨k, rfl⟩ : ∃ m, k = m + 1 := ⟨k - 1, by omega⟩
          show footbridgeref03_Number.f _ a s = _
          unfold footbridgeref03_Number.f
          have hex : ((s.extract 0 (headL a).length).toList != headL a) = true := by
            rw [bne_iff_ne, ba_extract, List.drop_zero]
            intro he
            exact hp (List.prefix_iff_eq_take.2 he.symm)
          rw [word_is, Option.bind_some, ofL_toList, if_neg h1, ofL_size, if_neg h2, w64 (by omega) (by omega), if_neg h3, if_pos (by omega), if_pos (by omega), Int.toNat_natCast, hex]
          simp only [footbridgeref03_Number.j0]
          rw [if_pos trivial, if_neg (fun h : numOk _ _ => hp h.1)]


open Classical in
noncomputable def checkSpec (a : Int) (s : ByteArray) : Int := if a < 0 then 1 else if a > 6 then 1 else if headL a = [] then (if plainP s then 0 else 7) else (numSpec (headL a) s.toList).2
open Classical in
theorem check_ev (a : Int) (s : ByteArray) (hs : s.size ≤ 140737488351232) : Ev (fun k => names_Check.f k a s) (checkSpec a s) := by
  obtain ⟨K, hK⟩ := plain_is s hs
  refine ⟨K + 1, fun k hk => ?_⟩
  obtain ⟨k, rfl⟩ : ∃ m, k = m + 1 := ⟨k - 1, by omega⟩
  have hp : names_plain.f k s = _ := hK k (by omega)
  show names_Check.f _ a s = _
  unfold names_Check.f checkSpec
  by_cases h1 : a < 0
  · rw [if_pos h1, if_pos h1]
    simp only [names_Check.j0]
    rw [if_pos trivial]
  · rw [if_neg h1, if_neg h1]
    simp only [names_Check.j0]
    by_cases h2 : a > 6
    · rw [if_pos h2, decide_eq_true h2, if_pos rfl]
    · rw [if_neg h2, decide_eq_false h2, if_neg (by simp), head_is, Option.bind_some, ofL_toList]
      by_cases h3 : headL a = []
      · rw [if_pos h3, if_pos h3, hp, Option.bind_some]
        by_cases h4 : plainP s
        · rw [decide_eq_true h4, if_pos rfl, if_pos h4]
        · rw [decide_eq_false h4, if_neg (by simp), if_neg h4]
      · rw [if_neg h3, if_neg h3, number_is a s hs, Option.bind_some]
open Classical in
theorem checkRef_ev (a : Int) (s : ByteArray) (hs : s.size ≤ 140737488351232) : Ev (fun k => footbridgeref03_Check.f k a s) (checkSpec a s) := by
  obtain ⟨K, hK⟩ := plain_ref s hs
  obtain ⟨K2, hK2⟩ := numberRef_ev a s hs
  refine ⟨max K K2 + 1, fun k hk => ?_⟩
  obtain ⟨k, rfl⟩ : ∃ m, k = m + 1 := ⟨k - 1, by omega⟩
  have hp : footbridgeref03_Plain.f k s = _ := hK k (by omega)
  have hp2 : footbridgeref03_Number.f k a s = _ := hK2 k (by omega)
  show footbridgeref03_Check.f _ a s = _
  unfold footbridgeref03_Check.f checkSpec
  by_cases h1 : a < 0
  · rw [if_pos h1, if_pos h1]
    simp only [footbridgeref03_Check.j0]
    rw [if_pos trivial]
  · rw [if_neg h1, if_neg h1]
    simp only [footbridgeref03_Check.j0]
    by_cases h2 : a > 6
    · rw [if_pos h2, decide_eq_true h2, if_pos rfl]
    · rw [if_neg h2, decide_eq_false h2, if_neg (by simp), word_is, Option.bind_some, ofL_toList]
      by_cases h3 : headL a = []
      · rw [if_pos h3, if_pos h3, hp, Option.bind_some]
        by_cases h4 : plainP s
        · rw [decide_eq_true h4, if_pos rfl, if_pos h4]
        · rw [decide_eq_false h4, if_neg (by simp), if_neg h4]
      · rw [if_neg h3, if_neg h3, hp2, Option.bind_some]


theorem ofL_extract (l : List UInt8) (a b : Nat) : (ofL l).extract a b = ofL ((l.take b).drop a) := by
  apply ba_ext; rw [ba_extract, ofL_toList, ofL_toList]
def cutL (c : UInt8) : List UInt8 → Option (List UInt8 × List UInt8)
  | [] => none
  | x :: t => if x = c then some ([], t) else (cutL c t).map fun p => (x :: p.1, p.2)
theorem cutL_some {c : UInt8} : ∀ {l a b : List UInt8}, cutL c l = some (a, b) → l = a ++ c :: b
  | [], a, b, h => by simp [cutL] at h
  | x :: t, a, b, h => by
    simp only [cutL] at h
    by_cases hx : x = c
    · rw [if_pos hx] at h
      simp only [Option.some.injEq, Prod.mk.injEq] at h
      obtain ⟨rfl, rfl⟩ := h
      rw [hx]; rfl
    · rw [if_neg hx] at h
      obtain ⟨p, hp, he⟩ := Option.map_eq_some_iff.1 h
      simp only [Prod.mk.injEq] at he
      obtain ⟨rfl, rfl⟩ := he
      rw [List.cons_append, ← cutL_some (a := p.1) (b := p.2) hp]
theorem index_some {c : UInt8} : ∀ {l a b : List UInt8}, cutL c l = some (a, b) → Lib.indexByte l c = (a.length : Int)
  | [], a, b, h => by simp [cutL] at h
  | x :: t, a, b, h => by
    simp only [cutL] at h
    by_cases hx : x = c
    · rw [if_pos hx] at h
      simp only [Option.some.injEq, Prod.mk.injEq] at h
      obtain ⟨rfl, rfl⟩ := h
      simp [Lib.indexByte, hx]
    · rw [if_neg hx] at h
      obtain ⟨p, hp, he⟩ := Option.map_eq_some_iff.1 h
      simp only [Prod.mk.injEq] at he
      obtain ⟨rfl, rfl⟩ := he
      have ih := index_some (a := p.1) (b := p.2) hp
      simp [Lib.indexByte, ih, hx]
      try omega

theorem rd_get (l : List S52) (i : Nat) (h : i < l.length) : rd_T52 l (i : Int) = l[i] := by
  unfold rd_T52
  rw [Int.toNat_natCast, List.getD_eq_getElem?_getD, List.getElem?_eq_getElem h]; rfl
theorem rdOf_get (l : List ByteArray) (i : Nat) (h : i < l.length) : rdOf ByteArray.empty l (i : Int) = l[i] := by
  unfold rdOf
  rw [Int.toNat_natCast, List.getD_eq_getElem?_getD, List.getElem?_eq_getElem h]; rfl
open Classical in
noncomputable def chkT (l : List S52) (b : ByteArray) : Int := if l.length > 8 then 25 else if (∀ h ∈ l, checkSpec 0 h.f0 = 0 ∧ checkSpec 1 h.f1 = 0) then checkSpec 4 b else 7
def smallT (l : List S52) : Prop := ∀ h ∈ l, h.f0.size ≤ 1000000 ∧ h.f1.size ≤ 1000000
open Classical in
theorem check_go (l : List S52) (hl : l.length ≤ 8) (hs : smallT l) (e : Int) : ∀ (d i : Nat), d = l.length - i → Ev (fun k => trace_check.l0 k e l (l.length : Int) (i : Int)) (if (∀ h ∈ l.drop i, checkSpec 0 h.f0 = 0 ∧ checkSpec 1 h.f1 = 0) then e else 7) := by
  intro d
  induction d with
  | zero =>
    intro i hd
    refine ⟨1, fun k hk => ?_⟩
    obtain ⟨m, rfl⟩ : ∃ m, k = m + 1 := ⟨k - 1, by omega⟩
    show trace_check.l0 (m + 1) e l (l.length : Int) (i : Int) = _
    simp only [trace_check.l0]
    rw [if_neg (by omega), List.drop_eq_nil_of_le (by omega), if_pos (by simp)]
  | succ d ih =>
    intro i hd
    have hi : i < l.length := by omega
    have hrd := rd_get l i hi
    have hw : wrap64 ((i : Int) + 1) = ((i + 1 : Nat) : Int) := by rw [w64 (by omega) (by omega)]; omega
    obtain ⟨K0, e0⟩ := ih (i + 1) (by omega)
    obtain ⟨s1, s2⟩ := hs l[i] (List.getElem_mem hi)
    obtain ⟨K1, e1⟩ := check_ev 0 l[i].f0 (by omega)
    obtain ⟨K2, e2⟩ := check_ev 1 l[i].f1 (by omega)
    refine ⟨K0 + K1 + K2 + 1, fun k hk => ?_⟩
    obtain ⟨m, rfl⟩ : ∃ m, k = m + 1 := ⟨k - 1, by omega⟩
    have e0 : trace_check.l0 m e l (l.length : Int) ((i + 1 : Nat) : Int) = _ := e0 m (by omega)
    have e1 : names_Check.f m 0 l[i].f0 = _ := e1 m (by omega)
    have e2 : names_Check.f m 1 l[i].f1 = _ := e2 m (by omega)
    show trace_check.l0 (m + 1) e l (l.length : Int) (i : Int) = _
    simp only [trace_check.l0]
    rw [if_pos (by omega), if_pos (by omega), if_pos (by omega), hrd, e1, Option.bind_some, List.drop_eq_getElem_cons hi]
    simp only [List.mem_cons, forall_eq_or_imp]
    by_cases c1 : checkSpec 0 l[i].f0 = 0
    · rw [if_pos c1, e2, Option.bind_some]
      by_cases c2 : checkSpec 1 l[i].f1 = 0
      · rw [if_pos c2, hw, e0]
        simp only [c1, c2, and_self, true_and]
      · rw [if_neg c2, if_neg (fun h => c2 h.1.2)]
    · rw [if_neg c1, if_neg (fun h => c1 h.1.1)]
open Classical in
theorem chk_ev (l : List S52) (b : ByteArray) (hs : smallT l) (hb : b.size ≤ 1000000) : Ev (fun k => trace_check.f k l b) (chkT l b) := by
  by_cases h : l.length > 8
  · refine ⟨0, fun k _ => ?_⟩
    show trace_check.f k l b = _
    unfold trace_check.f chkT
    rw [if_pos (by omega), if_pos h]
  · obtain ⟨K1, e1⟩ := check_ev 4 b (by omega)
    obtain ⟨K2, e2⟩ := check_go l (by omega) hs (checkSpec 4 b) l.length 0 (by omega)
    refine ⟨K1 + K2, fun k hk => ?_⟩
    have e1 : names_Check.f k 4 b = _ := e1 k (by omega)
    have e2 : trace_check.l0 k (checkSpec 4 b) l (l.length : Int) 0 = _ := e2 k (by omega)
    show trace_check.f k l b = _
    unfold trace_check.f chkT
    rw [if_neg (by omega), if_neg h, e1, Option.bind_some, e2, List.drop_zero]
open Classical in
theorem checkRef_go (l : List S52) (b : ByteArray) (hl : l.length ≤ 8) (hs : smallT l) (hb : b.size ≤ 1000000) : ∀ (d i : Nat), d = l.length - i → Ev (fun k => footbridgeref26_check.l0 k (i : Int) l b) (if (∀ h ∈ l.drop i, checkSpec 0 h.f0 = 0 ∧ checkSpec 1 h.f1 = 0) then checkSpec 4 b else 7) := by
  intro d
  induction d with
  | zero =>
    intro i hd
    obtain ⟨K, eK⟩ := checkRef_ev 4 b (by omega)
    refine ⟨K + 1, fun k hk => ?_⟩
    obtain ⟨m, rfl⟩ : ∃ m, k = m + 1 := ⟨k - 1, by omega⟩
    have eK : footbridgeref03_Check.f m 4 b = _ := eK m (by omega)
    show footbridgeref26_check.l0 (m + 1) (i : Int) l b = _
    simp only [footbridgeref26_check.l0]
    rw [if_neg (by omega), List.drop_eq_nil_of_le (by omega), if_pos (by simp), eK]; rfl
  | succ d ih =>
    intro i hd
    have hi : i < l.length := by omega
    have hrd := rd_get l i hi
    have hw : wrap64 ((i : Int) + 1) = ((i + 1 : Nat) : Int) := by rw [w64 (by omega) (by omega)]; omega
    obtain ⟨K0, e0⟩ := ih (i + 1) (by omega)
    obtain ⟨s1, s2⟩ := hs l[i] (List.getElem_mem hi)
    obtain ⟨K1, e1⟩ := checkRef_ev 0 l[i].f0 (by omega)
    obtain ⟨K2, e2⟩ := checkRef_ev 1 l[i].f1 (by omega)
    refine ⟨K0 + K1 + K2 + 1, fun k hk => ?_⟩
    obtain ⟨m, rfl⟩ : ∃ m, k = m + 1 := ⟨k - 1, by omega⟩
    have e0 : footbridgeref26_check.l0 m ((i + 1 : Nat) : Int) l b = _ := e0 m (by omega)
    have e1 : footbridgeref03_Check.f m 0 l[i].f0 = _ := e1 m (by omega)
    have e2 : footbridgeref03_Check.f m 1 l[i].f1 = _ := e2 m (by omega)
    show footbridgeref26_check.l0 (m + 1) (i : Int) l b = _
    simp only [footbridgeref26_check.l0]
    rw [if_pos (by omega), if_pos (by omega), hrd, e1, Option.bind_some, List.drop_eq_getElem_cons hi]
    simp only [List.mem_cons, forall_eq_or_imp]
    by_cases c1 : checkSpec 0 l[i].f0 = 0
    · rw [if_pos c1, e2, Option.bind_some]
      by_cases c2 : checkSpec 1 l[i].f1 = 0
      · rw [if_pos c2, hw, e0]
        simp only [c1, c2, and_self, true_and]
      · rw [if_neg c2, if_neg (fun h => c2 h.1.2)]
    · rw [if_neg c1, if_neg (fun h => c1 h.1.1)]
open Classical in
theorem chkRef_ev (l : List S52) (b : ByteArray) (hs : smallT l) (hb : b.size ≤ 1000000) : Ev (fun k => footbridgeref26_check.f k l b) (chkT l b) := by
  by_cases h : l.length > 8
  · refine ⟨0, fun k _ => ?_⟩
    show footbridgeref26_check.f k l b = _
    unfold footbridgeref26_check.f chkT
    rw [if_pos (by omega), if_pos h]
  · obtain ⟨K2, e2⟩ := checkRef_go l b (by omega) hs hb l.length 0 (by omega)
    refine ⟨K2, fun k hk => ?_⟩
    have e2 : footbridgeref26_check.l0 k 0 l b = _ := e2 k (by omega)
    show footbridgeref26_check.f k l b = _
    unfold footbridgeref26_check.f chkT
    rw [if_neg (by omega), if_neg h, e2, List.drop_zero]
theorem chkT_len {l : List S52} {b : ByteArray} (h : chkT l b = 0) : l.length ≤ 8 := by
  unfold chkT at h
  by_cases hl : l.length > 8
  · rw [if_pos hl] at h; exact absurd h (by decide)
  · omega
def hopL (h : S52) : List UInt8 := h.f0.toList ++ (47 :: (h.f1.toList ++ [47]))
def flatT (l : List S52) : List UInt8 := l.flatMap hopL
theorem put_go : ∀ (l : List S52) (acc : ByteArray), smallT l → acc.size + l.length * 2000010 ≤ 1000000000 → trace_Put.go l acc = some (ofL (acc.toList ++ flatT l))
  | [], acc, _, _ => by simp only [trace_Put.go, flatT, List.flatMap_nil, List.append_nil, ofL_of]
  | h :: l, acc, hs, ha => by
    obtain ⟨s1, s2⟩ := hs h (by simp)
    rw [List.length_cons] at ha
    have e : (acc ++ (h.f0 ++ (⟨#[47]⟩ : ByteArray) ++ h.f1 ++ (⟨#[47]⟩ : ByteArray))).size = acc.size + (h.f0.size + 1 + h.f1.size + 1) := by simp only [ByteArray.size_append]; rfl
    simp only [trace_Put.go]
    rw [if_pos (by omega), put_go l _ (fun x hx => hs x (by simp [hx])) (by rw [e]; omega)]
    unfold flatT
    rw [List.flatMap_cons]
    refine congrArg some (congrArg ofL ?_)
    simp only [ba_append]
    unfold hopL
    simp [ByteArray.toList_eq]
noncomputable def putT (l : List S52) (b : ByteArray) : ByteArray × Int := if chkT l b = 0 then (ofL (flatT l ++ b.toList), 0) else (ofL [], chkT l b)
theorem putT_ev (l : List S52) (b : ByteArray) (hs : smallT l) (hb : b.size ≤ 1000000) : Ev (fun k => trace_Put.f k l b) (putT l b) := by
  obtain ⟨K, eK⟩ := chk_ev l b hs hb
  refine ⟨K, fun k hk => ?_⟩
  have eK : trace_check.f k l b = _ := eK k hk
  show trace_Put.f k l b = _
  unfold trace_Put.f putT
  rw [eK, Option.bind_some]
  by_cases h : chkT l b = 0
  · have hl := chkT_len h
    rw [if_pos h, if_pos h, if_pos (by omega), put_go l _ hs (by have h0 : (⟨#[]⟩ : ByteArray).size = 0 := rfl; omega), Option.bind_some]
    refine congrArg some (Prod.ext (ba_ext ?_) rfl)
    simp only [ba_append, ofL_toList]
    simp [ByteArray.toList_eq]
  · rw [if_neg h, if_neg h]; rfl
theorem putRefT_go (l : List S52) (b : ByteArray) (hl : l.length ≤ 8) (hs : smallT l) (hb : b.size ≤ 1000000) : ∀ (d i : Nat) (acc : ByteArray), d = l.length - i → acc.size + d * 2000010 ≤ 1000000000 → Ev (fun k => footbridgeref26_Put.l0 k acc (i : Int) l b) (ofL (acc.toList ++ flatT (l.drop i) ++ b.toList), 0) := by
  intro d
  induction d with
  | zero =>
    intro i acc hd ha
    rw [Nat.zero_mul] at ha
    refine ⟨1, fun k hk => ?_⟩
    obtain ⟨m, rfl⟩ : ∃ m, k = m + 1 := ⟨k - 1, by omega⟩
    show footbridgeref26_Put.l0 (m + 1) acc (i : Int) l b = _
    simp only [footbridgeref26_Put.l0]
    rw [if_neg (by omega), if_pos (show acc.size + b.size ≤ 9223372036854775807 by omega), List.drop_eq_nil_of_le (by omega)]
    refine congrArg some (Prod.ext (ba_ext ?_) rfl)
    simp only [ba_append, ofL_toList, flatT, List.flatMap_nil, List.append_nil]
  | succ d ih =>
    intro i acc hd ha
    have hi : i < l.length := by omega
    have hrd := rd_get l i hi
    have hw : wrap64 ((i : Int) + 1) = ((i + 1 : Nat) : Int) := by rw [w64 (by omega) (by omega)]; omega
    obtain ⟨s1, s2⟩ := hs l[i] (List.getElem_mem hi)
    rw [List.drop_eq_getElem_cons hi]
    generalize l[i] = h at *
    have e : ((((acc ++ h.f0) ++ (⟨#[47]⟩ : ByteArray)) ++ h.f1) ++ (⟨#[47]⟩ : ByteArray)).size = acc.size + h.f0.size + 1 + h.f1.size + 1 := by simp only [ByteArray.size_append]; rfl
    obtain ⟨K0, e0⟩ := ih (i + 1) ((((acc ++ h.f0) ++ (⟨#[47]⟩ : ByteArray)) ++ h.f1) ++ (⟨#[47]⟩ : ByteArray)) (by omega) (by rw [e]; omega)
    refine ⟨K0 + 1, fun k hk => ?_⟩
    obtain ⟨m, rfl⟩ : ∃ m, k = m + 1 := ⟨k - 1, by omega⟩
    have e0 : footbridgeref26_Put.l0 m _ ((i + 1 : Nat) : Int) l b = _ := e0 m (by omega)
    show footbridgeref26_Put.l0 (m + 1) acc (i : Int) l b = _
    simp only [footbridgeref26_Put.l0]
    have z1 : (acc ++ h.f0).size = acc.size + h.f0.size := ByteArray.size_append
    have z2 : (acc ++ h.f0 ++ (⟨#[47]⟩ : ByteArray)).size = acc.size + h.f0.size + 1 := by rw [ByteArray.size_append, z1]; rfl
    have z3 : (acc ++ h.f0 ++ (⟨#[47]⟩ : ByteArray) ++ h.f1).size = acc.size + h.f0.size + 1 + h.f1.size := by rw [ByteArray.size_append, z2]
    rw [if_pos (show (i : Int) < (l.length : Int) by omega), if_pos (show (0 : Int) ≤ (i : Int) by omega), hrd, if_pos (show acc.size + h.f0.size ≤ 9223372036854775807 by omega), if_pos (show (acc ++ h.f0).size + 1 ≤ 9223372036854775807 by omega), if_pos (show (acc ++ h.f0 ++ (⟨#[47]⟩ : ByteArray)).size + h.f1.size ≤ 9223372036854775807 by omega), if_pos (show (acc ++ h.f0 ++ (⟨#[47]⟩ : ByteArray) ++ h.f1).size + 1 ≤ 9223372036854775807 by omega), hw, e0]
    refine congrArg some (Prod.ext (congrArg ofL ?_) rfl)
    unfold flatT
    rw [List.flatMap_cons]
    simp only [ba_append]
    unfold hopL
    simp [ByteArray.toList_eq]
theorem putRefT_ev (l : List S52) (b : ByteArray) (hs : smallT l) (hb : b.size ≤ 1000000) : Ev (fun k => footbridgeref26_Put.f k l b) (putT l b) := by
  obtain ⟨K, eK⟩ := chkRef_ev l b hs hb
  by_cases h : chkT l b = 0
  · have hl := chkT_len h
    obtain ⟨K2, e2⟩ := putRefT_go l b hl hs hb l.length 0 ⟨#[]⟩ (by omega) (by have h0 : (⟨#[]⟩ : ByteArray).size = 0 := rfl; omega)
    refine ⟨K + K2, fun k hk => ?_⟩
    have eK : footbridgeref26_check.f k l b = _ := eK k (by omega)
    have e2 : footbridgeref26_Put.l0 k ⟨#[]⟩ 0 l b = _ := e2 k (by omega)
    show footbridgeref26_Put.f k l b = _
    unfold footbridgeref26_Put.f putT
    rw [eK, Option.bind_some, if_pos h, if_pos h, e2, List.drop_zero, show (⟨#[]⟩ : ByteArray).toList = [] by rw [ByteArray.toList_eq], List.nil_append]
  · refine ⟨K, fun k hk => ?_⟩
    have eK : footbridgeref26_check.f k l b = _ := eK k (by omega)
    show footbridgeref26_Put.f k l b = _
    unfold footbridgeref26_Put.f putT
    rw [eK, Option.bind_some, if_neg h, if_neg h]; rfl

theorem cutL_none {c : UInt8} : ∀ {l : List UInt8}, cutL c l = none → c ∉ l
  | [], _ => by simp
  | x :: t, h => by
    simp only [cutL] at h
    by_cases hx : x = c
    · rw [if_pos hx] at h; exact absurd h (by simp)
    · rw [if_neg hx] at h
      have h1 : cutL c t = none := by
        cases h2 : cutL c t with
        | none => rfl
        | some p => rw [h2] at h; exact absurd h (by simp)
      have := cutL_none h1
      simp only [List.mem_cons, not_or]
      exact ⟨fun e => hx e.symm, this⟩
theorem cutL_pre {c : UInt8} : ∀ {l a b : List UInt8}, cutL c l = some (a, b) → c ∉ a
  | [], a, b, h => by simp [cutL] at h
  | x :: t, a, b, h => by
    simp only [cutL] at h
    by_cases hx : x = c
    · rw [if_pos hx] at h
      simp only [Option.some.injEq, Prod.mk.injEq] at h
      rw [← h.1]; simp
    · rw [if_neg hx] at h
      obtain ⟨p, hp, he⟩ := Option.map_eq_some_iff.1 h
      simp only [Prod.mk.injEq] at he
      obtain ⟨rfl, rfl⟩ := he
      have := cutL_pre (a := p.1) (b := p.2) hp
      simp only [List.mem_cons, not_or]
      exact ⟨fun e => hx e.symm, this⟩
/-- A text's parts between bytes c. -/
def splitL (c : UInt8) : List UInt8 → List (List UInt8)
  | [] => [[]]
  | x :: t => if x = c then [] :: splitL c t else (match splitL c t with
    | [] => [[x]]
    | p :: ps => (x :: p) :: ps)
theorem splitL_ne (c : UInt8) : ∀ l, splitL c l ≠ []
  | [] => by simp [splitL]
  | x :: t => by
    simp only [splitL]
    by_cases h : x = c
    · rw [if_pos h]; simp
    · rw [if_neg h]; split <;> simp
theorem splitL_no {c : UInt8} : ∀ {l : List UInt8}, c ∉ l → splitL c l = [l]
  | [], _ => rfl
  | x :: t, h => by
    simp only [List.mem_cons, not_or] at h
    simp only [splitL]
    rw [if_neg (fun e => h.1 e.symm), splitL_no h.2]
theorem splitL_app {c : UInt8} (b : List UInt8) : ∀ {a : List UInt8}, c ∉ a → splitL c (a ++ c :: b) = a :: splitL c b
  | [], _ => by simp [splitL]
  | x :: t, h => by
    simp only [List.mem_cons, not_or] at h
    simp only [List.cons_append, splitL]
    rw [if_neg (fun e => h.1 e.symm), splitL_app b h.2]
theorem splitL_small (c : UInt8) : ∀ (l : List UInt8), ∀ p ∈ splitL c l, p.length ≤ l.length
  | [], p, hp => by
    simp only [splitL, List.mem_singleton] at hp
    subst hp; simp
  | x :: t, p, hp => by
    have ih := splitL_small c t
    simp only [splitL] at hp
    rw [List.length_cons]
    by_cases h : x = c
    · rw [if_pos h] at hp
      rcases List.mem_cons.1 hp with rfl | hp
      · simp
      · have := ih p hp; omega
    · rw [if_neg h] at hp
      cases hs : splitL c t with
      | nil => exact absurd hs (splitL_ne c t)
      | cons q qs =>
        rw [hs] at hp ih
        simp only at hp
        rcases List.mem_cons.1 hp with rfl | hp
        · have := ih q (by simp); rw [List.length_cons]; omega
        · have := ih p (by simp [hp]); omega
theorem splitL_len (c : UInt8) : ∀ (l : List UInt8), (splitL c l).length ≤ l.length + 1
  | [] => by simp [splitL]
  | x :: t => by
    have ih := splitL_len c t
    simp only [splitL]
    rw [List.length_cons]
    by_cases h : x = c
    · rw [if_pos h, List.length_cons]; omega
    · rw [if_neg h]
      cases hs : splitL c t with
      | nil => exact absurd hs (splitL_ne c t)
      | cons q qs => rw [hs] at ih; simp only [List.length_cons] at ih ⊢; omega
theorem splitK_is (c : UInt8) : ∀ (n : Nat) (s : List UInt8), s.length ≤ n → Lib.splitK [c] 0 (Lib.count s [c]) s = splitL c s := by
  intro n
  induction n with
  | zero =>
    intro s hs
    have : s = [] := List.length_eq_zero_iff.1 (by omega)
    subst this
    rw [Lib.count_one]; rfl
  | succ n ih =>
    intro s hs
    cases h : cutL c s with
    | none =>
      have h1 := cutL_none h
      have h2 : s.count c = 0 := List.count_eq_zero.2 h1
      rw [Lib.count_one, h2, splitL_no h1]; rfl
    | some p =>
      obtain ⟨a, b⟩ := p
      have h1 := cutL_some h
      have h2 := cutL_pre h
      have hi := index_some h
      have hc : s.count c = b.count c + 1 := by rw [h1, List.count_append, List.count_eq_zero.2 h2]; simp
      have hl : a.length + (b.length + 1) = s.length := by rw [h1, List.length_append, List.length_cons]
      have ihb := ih b (by omega)
      rw [Lib.count_one] at ihb ⊢
      rw [hc]
      simp only [Lib.splitK]
      rw [Lib.index_one, hi, if_neg (by simp), Int.toNat_natCast]
      have e1 : s.take (a.length + 0) = a := by rw [h1, Nat.add_zero]; exact List.take_left
      have e2 : s.drop (a.length + [c].length) = b := by rw [h1, ← List.drop_drop]; simp
      rw [e1, e2, ihb, h1, splitL_app b h2]
theorem split_is (s : List UInt8) (h : s.length ≤ 1000000) : strings_Split.f (ofL s) (⟨#[47]⟩ : ByteArray) = some ((splitL 47 s).map ofL) := by
  unfold strings_Split.f
  rw [if_pos ⟨by rw [ByteArray.toList_eq], by rw [ofL_size]; exact h⟩]
  refine congrArg some ?_
  have h1 := Lib.splitB_data (⟨#[47]⟩ : ByteArray) 0 (Lib.countB (ofL s) (⟨#[47]⟩ : ByteArray)) (ofL s)
  have h2 : (ofL s).data.toList = s := by rw [← ByteArray.toList_eq, ofL_toList]
  have h3 : Lib.countB (ofL s) (⟨#[47]⟩ : ByteArray) = Lib.count s [47] := by
    show Lib.count (ofL s).data.toList [47] = _
    rw [h2]
  rw [h2, h3] at h1
  have h4 := h1.trans (splitK_is 47 s.length s (Nat.le_refl _))
  rw [← h4, h3, List.map_map]
  conv => lhs; rw [← List.map_id (Lib.splitB (⟨#[47]⟩ : ByteArray) 0 (Lib.count s [47]) (ofL s))]
  refine List.map_congr_left (fun x _ => ?_)
  show x = ofL x.data.toList
  rw [← ByteArray.toList_eq, ofL_of]
theorem cutRef_go (s : List UInt8) (hs : s.length ≤ 1000000) : ∀ (d i j : Nat) (acc : List ByteArray), d = s.length - i → j ≤ i → i ≤ s.length → acc.length ≤ i → (47 : UInt8) ∉ (s.take i).drop j → Ev (fun k => footbridgeref26_Cut.l0 k (ofL s) acc (j : Int) (i : Int)) (acc ++ (splitL 47 (s.drop j)).map ofL) := by
  intro d
  induction d with
  | zero =>
    intro i j acc hd hj hi ha hn
    refine ⟨2, fun k hk => ?_⟩
    obtain ⟨m, rfl⟩ : ∃ m, k = m + 2 := ⟨k - 2, by omega⟩
    have hw : wrap64 ((i : Int) + 1) = ((i + 1 : Nat) : Int) := by rw [w64 (by omega) (by omega)]; omega
    have hii : i = s.length := by omega
    rw [hii, List.take_length] at hn
    show footbridgeref26_Cut.l0 (m + 2) (ofL s) acc (j : Int) (i : Int) = _
    simp only [footbridgeref26_Cut.l0]
    rw [ofL_size, if_pos (by omega), if_pos (by omega), if_pos (by omega), if_pos (by omega), if_pos (by omega), hw, if_neg (by omega), Int.toNat_natCast, Int.toNat_natCast, ofL_extract, hii, List.take_length, splitL_no hn]
    rfl
  | succ d ih =>
    intro i j acc hd hj hi ha hn
    have hl : i < s.length := by omega
    have hb := bt_get (ofL s) i (by rw [ofL_toList]; exact hl)
    simp only [ofL_toList] at hb
    have hw : wrap64 ((i : Int) + 1) = ((i + 1 : Nat) : Int) := by rw [w64 (by omega) (by omega)]; omega
    have htk : (s.take (i + 1)).drop j = (s.take i).drop j ++ [s[i]] := by
      rw [List.take_succ_eq_append_getElem hl, List.drop_append_of_le_length (by rw [List.length_take]; omega)]
    by_cases h10 : s[i] = 47
    · have hb10 : bt (ofL s) (i : Int) = 47 := by rw [hb, h10]; rfl
      obtain ⟨K2, e2⟩ := ih (i + 1) (i + 1) (acc ++ [ofL ((s.take i).drop j)]) (by omega) (by omega) (by omega) (by rw [List.length_append, List.length_singleton]; omega) (by rw [List.drop_eq_nil_of_le (by rw [List.length_take]; omega)]; simp)
      refine ⟨K2 + 1, fun k hk => ?_⟩
      obtain ⟨m, rfl⟩ : ∃ m, k = m + 1 := ⟨k - 1, by omega⟩
      have e2 : footbridgeref26_Cut.l0 m _ _ _ _ = _ := e2 m (by omega)
      show footbridgeref26_Cut.l0 (m + 1) (ofL s) acc (j : Int) (i : Int) = _
      simp only [footbridgeref26_Cut.l0]
      rw [ofL_size, if_pos (by omega), if_neg (by omega), if_pos (by omega), if_pos (by omega), if_pos hb10, if_pos (by omega), if_pos (by omega), if_pos (by omega), Int.toNat_natCast, Int.toNat_natCast, ofL_extract, hw, e2]
      have hsp : s.drop j = (s.take i).drop j ++ 47 :: s.drop (i + 1) := by
        have h1 : s.drop j = (s.take i).drop j ++ s.drop i := by
          conv => lhs; rw [← List.take_append_drop i s]
          rw [List.drop_append_of_le_length (by rw [List.length_take]; omega)]
        rw [h1, List.drop_eq_getElem_cons hl, h10]
      rw [hsp, splitL_app _ hn]
      simp
    · have hb10 : ¬ bt (ofL s) (i : Int) = 47 := by
        rw [hb]
        intro e
        apply h10
        apply UInt8.toNat_inj.1
        have : (s[i]).toNat = 47 := by omega
        rw [this]; rfl
      obtain ⟨K2, e2⟩ := ih (i + 1) j acc (by omega) (by omega) (by omega) (by omega) (by rw [htk, List.mem_append, List.mem_singleton]; exact not_or.2 ⟨hn, fun e => h10 e.symm⟩)
      refine ⟨K2 + 1, fun k hk => ?_⟩
      obtain ⟨m, rfl⟩ : ∃ m, k = m + 1 := ⟨k - 1, by omega⟩
      have e2 : footbridgeref26_Cut.l0 m _ _ _ _ = _ := e2 m (by omega)
      show footbridgeref26_Cut.l0 (m + 1) (ofL s) acc (j : Int) (i : Int) = _
      simp only [footbridgeref26_Cut.l0]
      rw [ofL_size, if_pos (by omega), if_neg (by omega), if_pos (by omega), if_pos (by omega), if_neg hb10, hw, e2]
theorem cutRef_ev (s : List UInt8) (hs : s.length ≤ 1000000) : Ev (fun k => footbridgeref26_Cut.f k (ofL s)) ((splitL 47 s).map ofL) := by
  obtain ⟨K, e⟩ := cutRef_go s hs s.length 0 0 [] (by omega) (by omega) (by omega) (by simp) (by simp)
  exact ⟨K, e⟩
def pairsOf : List ByteArray → List S52
  | a :: b :: t => ⟨a, b⟩ :: pairsOf t
  | _ => []
theorem pairsOf_len : ∀ (n : Nat) (P : List ByteArray), P.length ≤ n → (pairsOf P).length ≤ P.length
  | _, [], _ => by simp [pairsOf]
  | _, [_], _ => by simp [pairsOf]
  | 0, a :: b :: t, h => by simp at h
  | n + 1, a :: b :: t, h => by
    simp only [List.length_cons] at h
    have := pairsOf_len n t (by omega)
    simp only [pairsOf, List.length_cons]; omega
theorem pairsOf_small : ∀ (n : Nat) (P : List ByteArray), P.length ≤ n → (∀ p ∈ P, p.size ≤ 1000000) → smallT (pairsOf P)
  | _, [], _, _ => by intro h hh; simp [pairsOf] at hh
  | _, [_], _, _ => by intro h hh; simp [pairsOf] at hh
  | 0, a :: b :: t, h, _ => by simp at h
  | n + 1, a :: b :: t, h, hp => by
    simp only [List.length_cons] at h
    have ih := pairsOf_small n t (by omega) (fun p hh => hp p (by simp [hh]))
    intro x hx
    simp only [pairsOf] at hx
    rcases List.mem_cons.1 hx with rfl | hx
    · exact ⟨hp a (by simp), hp b (by simp)⟩
    · exact ih x hx
noncomputable def finT (l : List S52) (b : ByteArray) : List S52 × ByteArray × Int := if chkT l b = 0 then (l, b, 0) else ([], (⟨#[]⟩ : ByteArray), chkT l b)
theorem read_go : ∀ (n : Nat) (P : List ByteArray) (acc : List S52) (b : ByteArray), P.length ≤ n → P.length % 2 = 1 → acc.length + P.length ≤ 4000000 → smallT (acc ++ pairsOf P) → b.size ≤ 1000000 → Ev (fun k => trace_Read.l0 k P acc b) (finT (acc ++ pairsOf P) b) := by
  intro n
  induction n with
  | zero => intro P acc b h1 h2; omega
  | succ n ih =>
    intro P acc b h1 h2 h3 hs hb
    match P, h1, h2, h3, hs with
    | [], h1, h2, h3, hs => simp at h2
    | [x], h1, h2, h3, hs =>
      have hp : pairsOf [x] = [] := rfl
      rw [hp, List.append_nil] at hs ⊢
      obtain ⟨K, eK⟩ := chk_ev acc b hs hb
      refine ⟨K + 1, fun k hk => ?_⟩
      obtain ⟨m, rfl⟩ : ∃ m, k = m + 1 := ⟨k - 1, by omega⟩
      have eK : trace_check.f m acc b = _ := eK m (by omega)
      show trace_Read.l0 (m + 1) [x] acc b = _
      simp only [trace_Read.l0]
      rw [if_neg (by simp), eK, Option.bind_some]
      unfold finT
      split <;> rfl
    | x :: y :: t, h1, h2, h3, hs =>
      simp only [List.length_cons] at h1 h2 h3
      have hp : acc ++ pairsOf (x :: y :: t) = (acc ++ [⟨x, y⟩]) ++ pairsOf t := by simp [pairsOf]
      rw [hp] at hs ⊢
      obtain ⟨K, eK⟩ := ih t (acc ++ [⟨x, y⟩]) b (by omega) (by omega) (by rw [List.length_append, List.length_singleton]; omega) hs hb
      refine ⟨K + 1, fun k hk => ?_⟩
      obtain ⟨m, rfl⟩ : ∃ m, k = m + 1 := ⟨k - 1, by omega⟩
      have eK : trace_Read.l0 m t _ b = _ := eK m (by omega)
      show trace_Read.l0 (m + 1) (x :: y :: t) acc b = _
      simp only [trace_Read.l0]
      rw [if_pos (by simp only [List.length_cons]; omega), if_pos (by simp only [List.length_cons]; omega), if_pos (by simp only [List.length_cons]; omega), if_pos (by omega), if_pos (by simp only [List.length_cons]; omega)]
      exact eK
theorem readRef_go (P : List ByteArray) (hP : P.length ≤ 2000000) (b : ByteArray) (hb : b.size ≤ 1000000) : ∀ (n i : Nat) (acc : List S52), P.length - i ≤ n → i ≤ P.length → (P.length - i) % 2 = 1 → acc.length ≤ i → smallT (acc ++ pairsOf (P.drop i)) → Ev (fun k => footbridgeref26_Read.l0 k P (i : Int) acc b) (finT (acc ++ pairsOf (P.drop i)) b) := by
  intro n
  induction n with
  | zero => intro i acc h1 h2 h3; omega
  | succ n ih =>
    intro i acc h1 h2 h3 ha hs
    have hi : i < P.length := by omega
    have hw : wrap64 ((i : Int) + 1) = ((i + 1 : Nat) : Int) := by rw [w64 (by omega) (by omega)]; omega
    have hw2 : wrap64 ((i : Int) + 2) = ((i + 2 : Nat) : Int) := by rw [w64 (by omega) (by omega)]; omega
    by_cases hlast : i + 1 < P.length
    · have hd : P.drop i = P[i] :: P[i + 1] :: P.drop (i + 2) := by
        rw [List.drop_eq_getElem_cons hi, List.drop_eq_getElem_cons hlast]
      have hp : acc ++ pairsOf (P.drop i) = (acc ++ [⟨P[i], P[i + 1]⟩]) ++ pairsOf (P.drop (i + 2)) := by rw [hd]; simp [pairsOf]
      rw [hp] at hs ⊢
      obtain ⟨K, eK⟩ := ih (i + 2) (acc ++ [⟨P[i], P[i + 1]⟩]) (by omega) (by omega) (by omega) (by rw [List.length_append, List.length_singleton]; omega) hs
      refine ⟨K + 1, fun k hk => ?_⟩
      obtain ⟨m, rfl⟩ : ∃ m, k = m + 1 := ⟨k - 1, by omega⟩
      have eK : footbridgeref26_Read.l0 m P ((i + 2 : Nat) : Int) _ b = _ := eK m (by omega)
      show footbridgeref26_Read.l0 (m + 1) P (i : Int) acc b = _
      simp only [footbridgeref26_Read.l0]
      rw [hw, if_pos (by omega), if_pos (by omega), if_pos (by omega), if_pos (by omega), if_pos (by omega), rdOf_get P i hi, rdOf_get P (i + 1) hlast, hw2, eK]
    · have hd : pairsOf (P.drop i) = [] := by
        have : (P.drop i).length = 1 := by rw [List.length_drop]; omega
        match hq : P.drop i, this with
        | [x], _ => rfl
      rw [hd, List.append_nil] at hs ⊢
      obtain ⟨K, eK⟩ := chkRef_ev acc b hs hb
      refine ⟨K + 1, fun k hk => ?_⟩
      obtain ⟨m, rfl⟩ : ∃ m, k = m + 1 := ⟨k - 1, by omega⟩
      have eK : footbridgeref26_check.f m acc b = _ := eK m (by omega)
      show footbridgeref26_Read.l0 (m + 1) P (i : Int) acc b = _
      simp only [footbridgeref26_Read.l0]
      rw [hw, if_neg (by omega), eK, Option.bind_some]
      unfold finT
      split <;> rfl
noncomputable def readT (s : List UInt8) : List S52 × ByteArray × Int := if ((splitL 47 s).map ofL).length % 2 = 0 then ([], (⟨#[]⟩ : ByteArray), 6) else finT (pairsOf ((splitL 47 s).map ofL)) (rdOf ByteArray.empty ((splitL 47 s).map ofL) (wrap64 ((((splitL 47 s).map ofL).length : Int) - 1)))
theorem pieces (s : List UInt8) (hs : s.length ≤ 1000000) : ((splitL 47 s).map ofL).length ≤ 1000001 ∧ 0 < ((splitL 47 s).map ofL).length ∧ (∀ p ∈ (splitL 47 s).map ofL, p.size ≤ 1000000) ∧ (rdOf ByteArray.empty ((splitL 47 s).map ofL) (wrap64 ((((splitL 47 s).map ofL).length : Int) - 1))).size ≤ 1000000 := by
  have h1 := splitL_len 47 s
  have h2 := List.length_pos_iff.2 (splitL_ne 47 s)
  have h3 : ∀ p ∈ (splitL 47 s).map ofL, p.size ≤ 1000000 := by
    intro p hp
    obtain ⟨q, hq, rfl⟩ := List.mem_map.1 hp
    have := splitL_small 47 s q hq
    rw [ofL_size]; omega
  refine ⟨by rw [List.length_map]; omega, by rw [List.length_map]; omega, h3, ?_⟩
  have h4 : wrap64 ((((splitL 47 s).map ofL).length : Int) - 1) = ((((splitL 47 s).map ofL).length - 1 : Nat) : Int) := by
    rw [List.length_map, w64 (by omega) (by omega)]; omega
  rw [h4, rdOf_get _ _ (by rw [List.length_map]; omega)]
  exact h3 _ (List.getElem_mem _)
theorem readT_ev (s : List UInt8) (hs : s.length ≤ 1000000) : Ev (fun k => trace_Read.f k (ofL s)) (readT s) := by
  have hsp := split_is s hs
  obtain ⟨p1, p2, p3, p4⟩ := pieces s hs
  unfold readT
  generalize (splitL 47 s).map ofL = P at *
  generalize hb : rdOf ByteArray.empty P (wrap64 ((P.length : Int) - 1)) = b at *
  by_cases h : P.length % 2 = 0
  · refine ⟨0, fun k _ => ?_⟩
    show trace_Read.f k (ofL s) = _
    unfold trace_Read.f
    rw [hsp, Option.bind_some, if_pos (by omega), if_pos h]
  · obtain ⟨K, eK⟩ := read_go P.length P [] b (Nat.le_refl _) (by omega) (by simp; omega) (by rw [List.nil_append]; exact pairsOf_small P.length P (Nat.le_refl _) p3) p4
    refine ⟨K, fun k hk => ?_⟩
    have eK : trace_Read.l0 k P [] b = _ := eK k hk
    rw [List.nil_append] at eK
    show trace_Read.f k (ofL s) = _
    unfold trace_Read.f
    have hw : wrap64 ((P.length : Int) - 1) = ((P.length - 1 : Nat) : Int) := by rw [w64 (by omega) (by omega)]; omega
    rw [hsp, Option.bind_some, if_neg (by omega), if_neg h, if_pos (by rw [hw]; omega), if_pos (by rw [hw]; omega), hb, eK]
theorem readRefT_ev (s : List UInt8) (hs : s.length ≤ 1000000) : Ev (fun k => footbridgeref26_Read.f k (ofL s)) (readT s) := by
  obtain ⟨KC, eC⟩ := cutRef_ev s hs
  obtain ⟨p1, p2, p3, p4⟩ := pieces s hs
  unfold readT
  generalize (splitL 47 s).map ofL = P at *
  generalize hb : rdOf ByteArray.empty P (wrap64 ((P.length : Int) - 1)) = b at *
  by_cases h : P.length % 2 = 0
  · refine ⟨KC, fun k hk => ?_⟩
    have eC : footbridgeref26_Cut.f k (ofL s) = _ := eC k hk
    show footbridgeref26_Read.f k (ofL s) = _
    unfold footbridgeref26_Read.f
    rw [eC, Option.bind_some, if_pos (by omega), if_pos h]
  · obtain ⟨K, eK⟩ := readRef_go P (by omega) b p4 P.length 0 [] (by omega) (by omega) (by omega) (by simp) (by rw [List.nil_append, List.drop_zero]; exact pairsOf_small P.length P (Nat.le_refl _) p3)
    refine ⟨KC + K, fun k hk => ?_⟩
    have eC : footbridgeref26_Cut.f k (ofL s) = _ := eC k (by omega)
    have eK : footbridgeref26_Read.l0 k P 0 [] b = _ := eK k (by omega)
    rw [List.nil_append, List.drop_zero] at eK
    show footbridgeref26_Read.f k (ofL s) = _
    unfold footbridgeref26_Read.f
    have hw : wrap64 ((P.length : Int) - 1) = ((P.length - 1 : Nat) : Int) := by rw [w64 (by omega) (by omega)]; omega
    rw [eC, Option.bind_some, if_neg (by omega), if_neg h, if_pos (by rw [hw]; omega), if_pos (by rw [hw]; omega), hb, eK]
theorem sameT_go (l : List S52) (b : ByteArray) (hl : l.length ≤ 1000000) : ∀ (d i : Nat), d = l.length - i → ∀ k, d + 1 ≤ k → footbridgeref26_Same.l0 k (i : Int) l b l b = some true := by
  intro d
  induction d with
  | zero =>
    intro i hd k hk
    obtain ⟨m, rfl⟩ : ∃ m, k = m + 1 := ⟨k - 1, by omega⟩
    simp only [footbridgeref26_Same.l0]
    rw [if_neg (by omega)]
  | succ d ih =>
    intro i hd k hk
    obtain ⟨m, rfl⟩ : ∃ m, k = m + 1 := ⟨k - 1, by omega⟩
    have hw : wrap64 ((i : Int) + 1) = ((i + 1 : Nat) : Int) := by rw [w64 (by omega) (by omega)]; omega
    simp only [footbridgeref26_Same.l0]
    rw [if_pos (by omega), if_pos (by omega), if_pos (by omega), if_neg (by simp), hw]
    exact ih (i + 1) (by omega) m (by omega)
theorem sameT_ev (l : List S52) (b : ByteArray) (hl : l.length ≤ 1000000) : Ev (fun k => footbridgeref26_Same.f k l b l b) true :=
  ⟨l.length + 2, fun k hk => by
    obtain ⟨m, rfl⟩ : ∃ m, k = m + 1 := ⟨k - 1, by omega⟩
    show footbridgeref26_Same.f (m + 1) l b l b = _
    unfold footbridgeref26_Same.f
    rw [if_pos rfl, show ((l.length : Int) != (l.length : Int)) = false by simp]
    simp only [footbridgeref26_Same.j0]
    rw [if_neg (by simp)]
    exact sameT_go l b hl l.length 0 (by omega) m (by omega)⟩
theorem fewT_go (l : List S52) (b : ByteArray) (hl : l.length ≤ 1000000) : ∀ (d i : Nat), d = l.length - i → ∃ r, (∀ k, d + 1 ≤ k → footbridgelaw26_few.l0 k (i : Int) l b = some r) ∧ (r = true → ∀ a ∈ l.drop i, (a.f0.size : Int) ≤ 200 ∧ (a.f1.size : Int) ≤ 200) := by
  intro d
  induction d with
  | zero =>
    intro i hd
    refine ⟨true, fun k hk => ?_, fun _ a ha => ?_⟩
    · obtain ⟨m, rfl⟩ : ∃ m, k = m + 1 := ⟨k - 1, by omega⟩
      simp only [footbridgelaw26_few.l0]
      rw [if_neg (by omega)]
    · rw [List.drop_eq_nil_of_le (by omega)] at ha; exact absurd ha (by simp)
  | succ d ih =>
    intro i hd
    have hi : i < l.length := by omega
    have hrd := rd_get l i hi
    have hw : wrap64 ((i : Int) + 1) = ((i + 1 : Nat) : Int) := by rw [w64 (by omega) (by omega)]; omega
    by_cases h : (l[i].f0.size : Int) > 200
    · refine ⟨false, fun k hk => ?_, fun h => absurd h (by simp)⟩
      obtain ⟨m, rfl⟩ : ∃ m, k = m + 1 := ⟨k - 1, by omega⟩
      simp only [footbridgelaw26_few.l0]
      rw [if_pos (by omega), if_pos (by omega), hrd, if_pos h]
    · by_cases h2 : (l[i].f1.size : Int) > 200
      · refine ⟨false, fun k hk => ?_, fun h => absurd h (by simp)⟩
        obtain ⟨m, rfl⟩ : ∃ m, k = m + 1 := ⟨k - 1, by omega⟩
        simp only [footbridgelaw26_few.l0]
        rw [if_pos (by omega), if_pos (by omega), hrd, if_neg h, if_pos h2]
      · obtain ⟨r, h3, h4⟩ := ih (i + 1) (by omega)
        refine ⟨r, fun k hk => ?_, fun hb a ha => ?_⟩
        · obtain ⟨m, rfl⟩ : ∃ m, k = m + 1 := ⟨k - 1, by omega⟩
          simp only [footbridgelaw26_few.l0]
          rw [if_pos (by omega), if_pos (by omega), hrd, if_neg h, if_neg h2, hw]
          exact h3 m (by omega)
        · rw [List.drop_eq_getElem_cons hi] at ha
          rcases List.mem_cons.1 ha with rfl | ha
          · exact ⟨by omega, by omega⟩
          · exact h4 hb a ha
theorem fewT_ev (l : List S52) (b : ByteArray) : ∃ r, Ev (fun k => footbridgelaw26_few.f k l b) r ∧ (r = true → l.length ≤ 12 ∧ (b.size : Int) ≤ 200 ∧ ∀ a ∈ l, (a.f0.size : Int) ≤ 200 ∧ (a.f1.size : Int) ≤ 200) := by
  have j : ∀ k, 1 ≤ k → footbridgelaw26_few.j0 k true l b = some false := by
    intro k hk
    obtain ⟨m, rfl⟩ : ∃ m, k = m + 1 := ⟨k - 1, by omega⟩
    simp only [footbridgelaw26_few.j0]
    rw [if_pos trivial]
  by_cases h : (l.length : Int) > 12
  · exact ⟨false, ⟨1, fun k hk => by show footbridgelaw26_few.f k l b = _; unfold footbridgelaw26_few.f; rw [if_pos h, j k hk]⟩, fun h => absurd h (by simp)⟩
  · by_cases h2 : (b.size : Int) > 200
    · exact ⟨false, ⟨1, fun k hk => by show footbridgelaw26_few.f k l b = _; unfold footbridgelaw26_few.f; rw [if_neg h, decide_eq_true h2, j k hk]⟩, fun h => absurd h (by simp)⟩
    · obtain ⟨r, h3, h4⟩ := fewT_go l b (by omega) l.length 0 (by omega)
      refine ⟨r, ⟨l.length + 2, fun k hk => ?_⟩, fun hb => ⟨by omega, by omega, fun a ha => h4 hb a (by rw [List.drop_zero]; exact ha)⟩⟩
      obtain ⟨m, rfl⟩ : ∃ m, k = m + 1 := ⟨k - 1, by omega⟩
      show footbridgelaw26_few.f (m + 1) l b = _
      unfold footbridgelaw26_few.f
      rw [if_neg h, decide_eq_false h2]
      simp only [footbridgelaw26_few.j0]
      rw [if_neg (by simp)]
      exact h3 m (by omega)
theorem awake26 : footbridgelaw26_awake.f 60 = some true := by kernel_rfl
theorem awake26_ev : Ev (fun k => footbridgelaw26_awake.f k) true := Ev.of footbridgelaw26_awake.mono awake26

end Go.Proofs.YtcgmododeiocpaaDoor.PureTrt
namespace Go.Proofs.YtcgmododeiocpaaDoor.Pure
open Go.RowKit Go.Proofs.YtcgmododeiocpaaDoor.PTrt Go.Proofs.YtcgmododeiocpaaDoorW.PrintWords Go.Proofs.YtcgmododeiocpaaDoorW.PrintLast Go.Proofs.YtcgmododeiocpaaDoor.PureTrt
theorem TraceTexts (x0 : S39) (x1 : ByteArray) (h0 : ok39 x0) (h1 : x1.size ≤ 140737488351232) : ∃ k, footbridgelaw26_TraceTexts.f k x0.f0 x0.f1 x1 = some true := by
  obtain ⟨l, b⟩ := x0
  show ∃ k, footbridgelaw26_TraceTexts.f k l b x1 = some true
  obtain ⟨K, hK⟩ := awake26_ev
  obtain ⟨r, ⟨KF, eF⟩, hr⟩ := fewT_ev l b
  have out : ∀ m, K ≤ m → footbridgelaw26_TraceTexts.j0 (m + 1) x1 true l b = some true := by
    intro m hm
    have hK : footbridgelaw26_awake.f m = _ := hK m hm
    simp only [footbridgelaw26_TraceTexts.j0]
    rw [if_pos trivial, hK]; rfl
  by_cases c1 : r = true
  · by_cases c2 : (x1.size : Int) > 2000
    · refine ⟨KF + K + 1, ?_⟩
      have eF : footbridgelaw26_few.f (KF + K + 1) l b = _ := eF _ (by omega)
      unfold footbridgelaw26_TraceTexts.f
      rw [eF, Option.bind_some, if_pos c1, decide_eq_true c2, out _ (by omega)]
    · obtain ⟨q1, q2, q3⟩ := hr c1
      have hs : smallT l := fun h hh => by have := q3 h hh; omega
      have lx : x1.toList.length ≤ 999999 := by rw [← ba_size]; omega
      obtain ⟨K1, e1⟩ := putT_ev l b hs (by omega)
      obtain ⟨K2, e2⟩ := putRefT_ev l b hs (by omega)
      obtain ⟨K3, e3⟩ := readT_ev x1.toList (by omega)
      obtain ⟨K4, e4⟩ := readRefT_ev x1.toList (by omega)
      rw [ofL_of] at e3 e4
      have hlen : (readT x1.toList).1.length ≤ 1000000 := by
        have h2 := splitL_len 47 x1.toList
        unfold readT
        split
        · simp
        · unfold finT
          split
          · have := pairsOf_len _ ((splitL 47 x1.toList).map ofL) (Nat.le_refl _)
            simp only
            rw [List.length_map] at this
            omega
          · simp
      generalize readT x1.toList = R at *
      obtain ⟨K5, e5⟩ := sameT_ev R.1 R.2.1 hlen
      refine ⟨KF + K + K1 + K2 + K3 + K4 + K5 + 1, ?_⟩
      have eF : footbridgelaw26_few.f (KF + K + K1 + K2 + K3 + K4 + K5 + 1) l b = _ := eF _ (by omega)
      have e0 : footbridgelaw26_awake.f (KF + K + K1 + K2 + K3 + K4 + K5) = _ := hK _ (by omega)
      have e1 : trace_Put.f (KF + K + K1 + K2 + K3 + K4 + K5) l b = _ := e1 _ (by omega)
      have e2 : footbridgeref26_Put.f (KF + K + K1 + K2 + K3 + K4 + K5) l b = _ := e2 _ (by omega)
      have e3 : trace_Read.f (KF + K + K1 + K2 + K3 + K4 + K5) x1 = _ := e3 _ (by omega)
      have e4 : footbridgeref26_Read.f (KF + K + K1 + K2 + K3 + K4 + K5) x1 = _ := e4 _ (by omega)
      have e5 : footbridgeref26_Same.f (KF + K + K1 + K2 + K3 + K4 + K5) R.1 R.2.1 R.1 R.2.1 = _ := e5 _ (by omega)
      unfold footbridgelaw26_TraceTexts.f
      rw [eF, Option.bind_some, if_pos c1, decide_eq_false c2]
      simp only [footbridgelaw26_TraceTexts.j0]
      rw [if_neg (by simp), e1, Option.bind_some, e2, Option.bind_some, e3, Option.bind_some, e4, Option.bind_some, if_pos rfl, if_pos rfl, e5, Option.bind_some, if_pos rfl, if_pos rfl, e0]
      rfl
  · refine ⟨KF + K + 1, ?_⟩
    have eF : footbridgelaw26_few.f (KF + K + 1) l b = _ := eF _ (by omega)
    unfold footbridgelaw26_TraceTexts.f
    rw [eF, Option.bind_some, if_neg c1, out _ (by omega)]

end Go.Proofs.YtcgmododeiocpaaDoor.Pure
