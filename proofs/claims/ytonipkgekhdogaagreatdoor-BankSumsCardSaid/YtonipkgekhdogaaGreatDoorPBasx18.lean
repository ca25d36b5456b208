-- written by wip/myprint.py over the kit's print; not a printed text of print.sh
import Derived.Test.YtonipkgekhdogaaGreatDoorPBasx0
import Derived.Test.YtonipkgekhdogaaGreatDoorPBasx2
import Derived.Test.YtonipkgekhdogaaGreatDoorPBasx5
import Derived.Test.YtonipkgekhdogaaGreatDoorPBasx13
import Derived.Test.YtonipkgekhdogaaGreatDoorPBasx14
import Derived.Test.YtonipkgekhdogaaGreatDoorPBasx15
import Derived.Test.YtonipkgekhdogaaGreatDoorPBasx17
namespace Go.Proofs.YtonipkgekhdogaaGreatDoor.PBas
open Go.RowKit Go.Proofs.YtonipkgekhdogaaGreatDoorW.PrintWords Go.Proofs.YtonipkgekhdogaaGreatDoorW.PrintLast Go.Proofs.YtonipkgekhdogaaGreatDoorW.PrintMore
attribute [local go_sem] max2_int min2_int max_two min_two max_three min_three max_four min_four   -- for this text's walks alone
set_option linter.unusedVariables false
set_option linter.unusedSimpArgs false

/-! ### words: names.inc -/
def nm_headL (a : Int) : List UInt8 := if a = 1 then [99, 104, 97, 110, 110, 101, 108, 45] else if a = 2 then [99, 111, 110, 110, 101, 99, 116, 105, 111, 110, 45] else if a = 3 then [99, 108, 105, 101, 110, 116, 45] else []
theorem nm_head_is (a : Int) : names_head.f a = some (ofL (nm_headL a)) := by
  unfold names_head.f nm_headL
  split
  · rfl
  · split
    · rfl
    · split <;> rfl
theorem nm_hasPrefix_is (s h : ByteArray) : stringslite_HasPrefix.f s h = some (decide (h.toList <+: s.toList)) := by
  unfold stringslite_HasPrefix.f
  by_cases hs : (s.size : Int) ≥ (h.size : Int)
  · rw [if_pos hs, if_pos (by omega), if_pos hs]
    congr 1
    rw [ba_extract, List.drop_zero, Int.toNat_natCast, Bool.eq_iff_iff, beq_iff_eq, decide_eq_true_iff, List.prefix_iff_eq_take, ba_size h]
    exact eq_comm
  · rw [if_neg hs]
    congr 1
    symm
    rw [decide_eq_false_iff_not]
    intro hp
    have := hp.length_le
    rw [← ba_size, ← ba_size] at this
    omega
theorem nm_cutPrefix_is (s h : ByteArray) : strings_CutPrefix.f s h = some (if h.toList <+: s.toList then (ofL (s.toList.drop h.size), true) else (s, false)) := by
  unfold strings_CutPrefix.f stringslite_CutPrefix.f
  rw [nm_hasPrefix_is, Option.bind_some]
  by_cases hp : h.toList <+: s.toList
  · have hl := hp.length_le
    rw [← ba_size, ← ba_size] at hl
    rw [decide_eq_true hp, if_pos rfl, if_pos (by omega), if_pos (by omega), Option.bind_some, if_pos hp]
    congr 2
    apply ba_ext
    rw [ba_extract, ofL_toList, Int.toNat_natCast, ba_size s, List.take_length]
  · rw [decide_eq_false hp, if_neg (by simp), Option.bind_some, if_neg hp]
theorem nm_go_is (s : ByteArray) (d : Nat) : ∀ (i n : Nat), i ≤ s.size → d = s.size + 1 - i → n ≤ 1099511627776 → names_Number.go s d i (n : Int) = if (∀ c ∈ s.toList.drop i, isDig c) ∧ (s.toList.drop i).foldl dstep n ≤ 1099511627776 then some (((s.toList.drop i).foldl dstep n : Nat) : Int) else none := by
  induction d with
  | zero => intro i n hi hd; omega
  | succ d ih =>
    intro i n hi hd hn
    unfold names_Number.go
    by_cases h : i < s.size
    · have hl : i < s.toList.length := by rw [← ba_size]; exact h
      have hb := bt_get s i hl
      rw [if_pos h, List.drop_eq_getElem_cons hl]
      generalize s.toList[i] = c at *
      simp only [List.mem_cons, List.foldl_cons, forall_eq_or_imp]
      by_cases h1 : bt s i < 48
      · rw [if_pos h1, if_neg]
        rintro ⟨⟨hc, _⟩, _⟩
        unfold isDig at hc; omega
      · rw [if_neg h1]
        by_cases h2 : bt s i > 57
        · rw [if_pos h2, if_neg]
          rintro ⟨⟨hc, _⟩, _⟩
          unfold isDig at hc; omega
        · rw [if_neg h2]
          have hc : isDig c := by unfold isDig; omega
          have he : (n : Int) * 10 + (bt s i - 48) = ((dstep n c : Nat) : Int) := by unfold dstep; rw [hb]; unfold isDig at hc; omega
          rw [he]
          by_cases h3 : ((dstep n c : Nat) : Int) > 1099511627776
          · rw [if_pos h3, if_neg]
            rintro ⟨_, hle⟩
            have := foldl_dstep_ge (s.toList.drop (i + 1)) (dstep n c)
            omega
          · rw [if_neg h3, ih (i + 1) (dstep n c) (by omega) (by omega) (by omega)]
            simp only [hc, true_and]
    · rw [if_neg h]
      have : s.toList.drop i = [] := by rw [List.drop_eq_nil_iff, ← ba_size]; omega
      rw [this]
      simp [hn]
/-- What Number answers: of a kind's head and a name. -/
def nm_numOk (h l : List UInt8) : Prop := h <+: l ∧ l.drop h.length ≠ [] ∧ plainDec (l.drop h.length) ∧ (∀ c ∈ l.drop h.length, isDig c) ∧ dval (l.drop h.length) ≤ 1099511627776
open Classical in
noncomputable def nm_numSpec (h l : List UInt8) : Int × Int := if h = [] then (0, 1) else if nm_numOk h l then ((dval (l.drop h.length) : Nat), 0) else (0, 7)
theorem nm_plainDec_iff (l : List UInt8) (hn : l ≠ []) : plainDec l ↔ ¬ (1 < (ofL l).size ∧ bt (ofL l) 0 = 48) := by
  obtain ⟨c, t, rfl⟩ := List.exists_cons_of_ne_nil hn
  have hb : bt (ofL (c :: t)) 0 = ((c.toNat : Nat) : Int) := by
    have := bt_get (ofL (c :: t)) 0 (by rw [ofL_toList]; simp)
    simp only [ofL_toList] at this
    exact this
  rw [hb, ofL_size]
  unfold plainDec
  simp only [List.length_cons, List.head?_cons, ne_eq, Option.some.injEq]
  constructor
  · rintro (h | h) ⟨h1, h2⟩
    · omega
    · exact h (UInt8.toNat_inj.1 (by have : (48 : UInt8).toNat = 48 := rfl; omega))
  · intro h
    by_cases hl : t.length = 0
    · exact .inl (by omega)
    · right
      intro he
      apply h
      rw [he]
      exact ⟨by omega, rfl⟩
theorem nm_number_is (a : Int) (s : ByteArray) (hs : s.size ≤ 140737488351232) : names_Number.f a s = some (nm_numSpec (nm_headL a) s.toList) := by
  unfold names_Number.f nm_numSpec
  rw [if_pos hs, nm_head_is, Option.bind_some, ofL_toList]
  by_cases hh : nm_headL a = []
  · rw [if_pos hh, if_pos hh]
  · rw [if_neg hh, if_neg hh, nm_cutPrefix_is, Option.bind_some, ofL_toList, ofL_size]
    by_cases hp : nm_headL a <+: s.toList
    · rw [if_pos hp]
      simp only [Bool.true_eq_false, if_false, ofL_toList]
      by_cases he : s.toList.drop (nm_headL a).length = []
      · rw [if_pos he, if_neg]
        rintro ⟨_, h2, _⟩
        exact h2 he
      · rw [if_neg he]
        have hpi := nm_plainDec_iff _ he
        by_cases hz : 1 < (ofL (s.toList.drop (nm_headL a).length)).size ∧ bt (ofL (s.toList.drop (nm_headL a).length)) 0 = 48
        · rw [if_pos hz, if_neg]
          rintro ⟨_, _, h3, _⟩
          exact hpi.1 h3 hz
        · rw [if_neg hz]
          have hsz : (ofL (s.toList.drop (nm_headL a).length)).size ≤ 140737488351232 := by
            rw [ofL_size, List.length_drop, ← ba_size]; omega
          rw [if_pos hsz]
          have hg := nm_go_is (ofL (s.toList.drop (nm_headL a).length)) _ 0 0 (by omega) rfl (by omega)
          rw [show (((0 : Nat) : Int)) = 0 from rfl] at hg
          rw [Nat.sub_zero, List.drop_zero, ofL_toList] at hg
          rw [hg]
          by_cases hd : (∀ c ∈ s.toList.drop (nm_headL a).length, isDig c) ∧ (s.toList.drop (nm_headL a).length).foldl dstep 0 ≤ 1099511627776
          · rw [if_pos hd, if_pos]
            · rfl
            · exact ⟨hp, he, hpi.2 hz, hd.1, hd.2⟩
          · rw [if_neg hd, if_neg]
            rintro ⟨_, _, _, h4, h5⟩
            exact hd ⟨h4, h5⟩
    · rw [if_neg hp, if_pos rfl, if_neg (fun h : nm_numOk _ _ => hp h.1)]
def nm_letP (c : Int) : Prop := (97 ≤ c ∧ c ≤ 122) ∨ (65 ≤ c ∧ c ≤ 90) ∨ (48 ≤ c ∧ c ≤ 57) ∨ c = 46 ∨ c = 95 ∨ c = 45
instance (c : Int) : Decidable (nm_letP c) := by unfold nm_letP; infer_instance
theorem nm_letter_is (c : Int) (k : Nat) : names_letter.f (k + 3) c = some (decide (nm_letP c)) := by
  unfold names_letter.f
  simp only [names_letter.j0, names_letter.j1, names_letter.j2]
  repeat' split
  all_goals (try simp only [decide_eq_true_iff, Bool.false_eq_true] at *)
  all_goals (first | exact congrArg some (decide_eq_true (by unfold nm_letP; omega)).symm | exact congrArg some (decide_eq_false (by unfold nm_letP; omega)).symm)
theorem nm_letter_at (c : Int) (k : Nat) (h : 3 ≤ k) : names_letter.f k c = some (decide (nm_letP c)) := by
  obtain ⟨m, rfl⟩ : ∃ m, k = m + 3 := ⟨k - 3, by omega⟩
  exact nm_letter_is c m
def nm_plainP (s : ByteArray) : Prop := 1 ≤ s.size ∧ s.size ≤ 64 ∧ ∀ i : Nat, i < s.size → nm_letP (bt s i)
open Classical in
theorem nm_plain_is (s : ByteArray) (hs : s.size ≤ 140737488351232) : Ev (fun k => names_plain.f k s) (decide (nm_plainP s)) := by
  have loop : ∀ (d i : Nat) (b : Bool), d = s.size - i → i ≤ s.size → ∀ k, d + 5 ≤ k → names_plain.l0 k s b (s.size : Int) (i : Int) = some (b && decide (∀ j : Nat, i ≤ j → j < s.size → nm_letP (bt s j))) := by
    intro d
    induction d with
    | zero =>
      intro i b hd hi k hk
      obtain ⟨k, rfl⟩ : ∃ m, k = m + 1 := ⟨k - 1, by omega⟩
      simp only [names_plain.l0]
      rw [if_neg (by omega), decide_eq_true (fun j h1 h2 => by omega), Bool.and_true]
    | succ d ih =>
      intro i b hd hi k hk
      obtain ⟨k, rfl⟩ : ∃ m, k = m + 1 := ⟨k - 1, by omega⟩
      simp only [names_plain.l0]
      rw [if_pos (by omega), if_pos (by omega), if_pos (by omega), nm_letter_at _ _ (by omega), Option.bind_some]
      by_cases hl : nm_letP (bt s i)
      · rw [decide_eq_true hl, if_pos rfl, w64 (by omega) (by omega), show ((i : Int) + 1) = ((i + 1 : Nat) : Int) from rfl, ih (i + 1) b (by omega) (by omega) _ (by omega)]
        congr 2
        rw [decide_eq_decide]
        constructor
        · intro h j h1 h2
          by_cases he : j = i
          · rw [he]; exact hl
          · exact h j (by omega) h2
        · intro h j h1 h2
          exact h j (by omega) h2
      · rw [decide_eq_false hl, if_neg (by simp), decide_eq_false (fun h => hl (h i (Nat.le_refl _) (by omega))), Bool.and_false]
  refine ⟨s.size + 6, fun k hk => ?_⟩
  obtain ⟨k, rfl⟩ : ∃ m, k = m + 1 := ⟨k - 1, by omega⟩
  have hl := fun b => loop s.size 0 b (by omega) (by omega) k (by omega)
  unfold names_plain.f
  simp only [names_plain.j0]
  by_cases h0 : s.toList = []
  · rw [if_pos h0]
    have hz : s.size = 0 := by rw [ba_size, h0]; rfl
    have := hl false
    rw [show ((0 : Nat) : Int) = 0 from rfl] at this
    rw [this, Bool.false_and, decide_eq_false (fun h : nm_plainP s => by have := h.1; omega)]
  · rw [if_neg h0]
    have hz : 1 ≤ s.size := by rw [ba_size]; exact List.length_pos_iff.2 h0
    have := hl (decide ((s.size : Int) ≤ 64))
    rw [show ((0 : Nat) : Int) = 0 from rfl] at this
    rw [this]
    congr 1
    rw [Bool.eq_iff_iff, Bool.and_eq_true, decide_eq_true_iff, decide_eq_true_iff, decide_eq_true_iff]
    constructor
    · rintro ⟨h1, h2⟩
      exact ⟨hz, by omega, fun i hi => h2 i (Nat.zero_le _) hi⟩
    · rintro ⟨_, h1, h2⟩
      exact ⟨by omega, fun i _ hi => h2 i hi⟩
open Classical in
noncomputable def nm_checkSpec (a : Int) (s : ByteArray) : Int := if a < 0 then 1 else if a > 6 then 1 else if nm_headL a = [] then (if nm_plainP s then 0 else 7) else (nm_numSpec (nm_headL a) s.toList).2
open Classical in
theorem nm_check_ev (a : Int) (s : ByteArray) (hs : s.size ≤ 140737488351232) : Ev (fun k => names_Check.f k a s) (nm_checkSpec a s) := by
  obtain ⟨K, hK⟩ := nm_plain_is s hs
  refine ⟨K + 1, fun k hk => ?_⟩
  obtain ⟨k, rfl⟩ : ∃ m, k = m + 1 := ⟨k - 1, by omega⟩
  have hp : names_plain.f k s = _ := hK k (by omega)
  show names_Check.f _ a s = _
  unfold names_Check.f nm_checkSpec
  by_cases h1 : a < 0
  · rw [if_pos h1, if_pos h1]
    simp only [names_Check.j0]
    rw [if_pos trivial]
  · rw [if_neg h1, if_neg h1]
    simp only [names_Check.j0]
    by_cases h2 : a > 6
    · rw [if_pos h2, decide_eq_true h2, if_pos rfl]
    · rw [if_neg h2, decide_eq_false h2, if_neg (by simp), nm_head_is, Option.bind_some, ofL_toList]
      by_cases h3 : nm_headL a = []
      · rw [if_pos h3, if_pos h3, hp, Option.bind_some]
        by_cases h4 : nm_plainP s
        · rw [decide_eq_true h4, if_pos rfl, if_pos h4]
        · rw [decide_eq_false h4, if_neg (by simp), if_neg h4]
      · rw [if_neg h3, if_neg h3, nm_number_is a s hs, Option.bind_some]
theorem nm_eq (a : Int) (s : ByteArray) (hs : s.size ≤ 140737488351232) (k : Nat) (n : Int) (h : names_Check.f k a s = some n) : nm_checkSpec a s = n := by
  obtain ⟨K, hK⟩ := nm_check_ev a s hs
  obtain ⟨K2, hK2⟩ := Ev.of (g := fun k => names_Check.f k a s) (names_Check.mono a s) h
  exact Option.some.inj ((hK (max K K2) (by omega)).symm.trans (hK2 (max K K2) (by omega)))

/-! ### words: bk.inc -/
/-! ### bank: plain -/
/-- A number's bytes; none, if it has none. -/
def bkNum (n : Int) : ByteArray := if n < 0 ∨ 9007199254740992 < n then (⟨#[]⟩ : ByteArray) else numB n.toNat
def bkSet (cur : List S73) (key : ByteArray) (n : Int) : List S73 := if n = 0 then delK cur key else setC cur key (bkNum n)
theorem bkSet_KV {m : Nat} {cur : List S73} (h : KV m cur) (key : ByteArray) (n : Int) : KV (m + 1) (bkSet cur key n) := by
  unfold bkSet
  split
  · exact (h.del _).mono (Nat.le_succ _)
  · exact h.put _ _
def bkOf (cur : List S73) (owner : ByteArray) : Int := numK cur (keyB (⟨#[99, 111, 105, 110, 115]⟩ : ByteArray) [owner])
def bkAll (cur : List S73) : Int := numK cur (⟨#[97, 108, 108, 45, 99, 111, 105, 110, 115]⟩ : ByteArray)
noncomputable def bkChk (n : Int) (owners : List ByteArray) : Int := if (∀ s ∈ owners, nm_checkSpec 6 s = 0) then (if n < 1 ∨ n > 1099511627776 then 3 else 0) else 7
noncomputable def bkGiveE (cur : List S73) (owner : ByteArray) (n : Int) : Int := if bkChk n [owner] = 0 then (if n > 1099511627776 - bkAll cur then 3 else 0) else bkChk n [owner]
noncomputable def bkGive (cur : List S73) (owner : ByteArray) (n : Int) : List S73 := if bkGiveE cur owner n = 0 then bkSet (bkSet cur (keyB (⟨#[99, 111, 105, 110, 115]⟩ : ByteArray) [owner]) (bkOf cur owner + n)) (⟨#[97, 108, 108, 45, 99, 111, 105, 110, 115]⟩ : ByteArray) (bkAll cur + n) else cur
noncomputable def bkTakeE (cur : List S73) (owner : ByteArray) (n : Int) : Int := if bkChk n [owner] = 0 then (if bkOf cur owner < n then 21 else 0) else bkChk n [owner]
noncomputable def bkTake (cur : List S73) (owner : ByteArray) (n : Int) : List S73 := if bkTakeE cur owner n = 0 then bkSet (bkSet cur (keyB (⟨#[99, 111, 105, 110, 115]⟩ : ByteArray) [owner]) (bkOf cur owner - n)) (⟨#[97, 108, 108, 45, 99, 111, 105, 110, 115]⟩ : ByteArray) (bkAll cur - n) else cur
noncomputable def bkPayE (cur : List S73) (a b : ByteArray) (n : Int) : Int := if bkChk n [a, b] = 0 then (if bkOf cur a < n then 21 else 0) else bkChk n [a, b]
noncomputable def bkPay1 (cur : List S73) (a : ByteArray) (n : Int) : List S73 := bkSet cur (keyB (⟨#[99, 111, 105, 110, 115]⟩ : ByteArray) [a]) (bkOf cur a - n)
noncomputable def bkPay (cur : List S73) (a b : ByteArray) (n : Int) : List S73 := if bkPayE cur a b n = 0 then bkSet (bkPay1 cur a n) (keyB (⟨#[99, 111, 105, 110, 115]⟩ : ByteArray) [b]) (bkOf (bkPay1 cur a n) b + n) else cur

end Go.Proofs.YtonipkgekhdogaaGreatDoor.PBas
