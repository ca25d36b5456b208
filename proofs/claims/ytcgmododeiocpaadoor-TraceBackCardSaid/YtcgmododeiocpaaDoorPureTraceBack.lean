/- A trace comes back from its text, and texts from their traces; what is pushed is popped as it was. No condition beyond the inputs' own sizes. -/
import Derived.Test.YtcgmododeiocpaaDoorPTrbx2
import Derived.Test.YtcgmododeiocpaaDoorPTrbx3
import Derived.Test.YtcgmododeiocpaaDoorPTrbx4
import Derived.Test.YtcgmododeiocpaaDoorPTrbx5
import Derived.Test.YtcgmododeiocpaaDoorPTrbx6
import Derived.Test.YtcgmododeiocpaaDoorPTrbx7
import Derived.Test.YtcgmododeiocpaaDoorPTrbo
import Derived.Lib.SplitLaws
import Derived.Lib.IndexBytes
namespace Go.Proofs.YtcgmododeiocpaaDoor.PureTrb
open Go.RowKit Go.Proofs.YtcgmododeiocpaaDoor.PTrb Go.Proofs.YtcgmododeiocpaaDoorW.PrintWords Go.Proofs.YtcgmododeiocpaaDoorW.PrintLast
set_option linter.unusedVariables false
set_option linter.unusedSimpArgs false
def headL (a : Int) : List UInt8 := if a = 1 then [99, 104, 97, 110, 110, 101, 108, 45] else if a = 2 then [99, 111, 110, 110, 101, 99, 116, 105, 111, 110, 45] else if a = 3 then [99, 108, 105, 101, 110, 116, 45] else []
theorem head_is (a : Int) : names_head.f a = some (ofL (headL a)) := by
  unfold names_head.f headL
  split
  · rfl
  · split
    · rfl
    · split <;> rfl
theorem hasPrefix_is (s h : ByteArray) : stringslite_HasPrefix.f s h = some (decide (h.toList <+: s.toList)) := by
  unfold stringslite_HasPrefix.f
  by_cases hs : (s.size : Int) ≥ (h.size : Int)
  · rw [if_pos hs, if_pos (by omega), if_pos hs]
    congr 1
    rw [ba_extract, List.drop_zero, Int.toNat_natCast, Bool.eq_iff_iff, beq_iff_eq, decide_eq_true_iff, List.prefix_iff_eq_take, ba_size h]
    exact eq_comm
  · rw [if_neg hs]
    congr 1
    symm
    rw [decide_eq_false_iff_not]
    intro hp
    have := hp.length_le
    rw [← ba_size, ← ba_size] at this
    omega
theorem cutPrefix_is (s h : ByteArray) : strings_CutPrefix.f s h = some (if h.toList <+: s.toList then (ofL (s.toList.drop h.size), true) else (s, false)) := by
  unfold strings_CutPrefix.f stringslite_CutPrefix.f
  rw [hasPrefix_is, Option.bind_some]
  by_cases hp : h.toList <+: s.toList
  · have hl := hp.length_le
    rw [← ba_size, ← ba_size] at hl
    rw [decide_eq_true hp, if_pos rfl, if_pos (by omega), if_pos (by omega), Option.bind_some, if_pos hp]
    congr 2
    apply ba_ext
    rw [ba_extract, ofL_toList, Int.toNat_natCast, ba_size s, List.take_length]
  · rw [decide_eq_false hp, if_neg (by simp), Option.bind_some, if_neg hp]
theorem go_is (s : ByteArray) (d : Nat) : ∀ (i n : Nat), i ≤ s.size → d = s.size + 1 - i → n ≤ 1099511627776 → names_Number.go s d i (n : Int) = if (∀ c ∈ s.toList.drop i, isDig c) ∧ (s.toList.drop i).foldl dstep n ≤ 1099511627776 then some (((s.toList.drop i).foldl dstep n : Nat) : Int) else none := by
  induction d with
  | zero => intro i n hi hd; omega
  | succ d ih =>
    intro i n hi hd hn
    unfold names_Number.go
    by_cases h : i < s.size
    · have hl : i < s.toList.length := by rw [← ba_size]; exact h
      have hb := bt_get s i hl
      rw [if_pos h, List.drop_eq_getElem_cons hl]
      generalize s.toList[i] = c at *
      simp only [List.mem_cons, List.foldl_cons, forall_eq_or_imp]
      by_cases h1 : bt s i < 48
      · rw [if_pos h1, if_neg]
        rintro ⟨⟨hc, _⟩, _⟩
        unfold isDig at hc; omega
      · rw [if_neg h1]
        by_cases h2 : bt s i > 57
        · rw [if_pos h2, if_neg]
          rintro ⟨⟨hc, _⟩, _⟩
          unfold isDig at hc; omega
        · rw [if_neg h2]
          have hc : isDig c := by unfold isDig; omega
          have he : (n : Int) * 10 + (bt s i - 48) = ((dstep n c : Nat) : Int) := by unfold dstep; rw [hb]; unfold isDig at hc; omega
          rw [he]
          by_cases h3 : ((dstep n c : Nat) : Int) > 1099511627776
          · rw [if_pos h3, if_neg]
            rintro ⟨_, hle⟩
            have := foldl_dstep_ge (s.toList.drop (i + 1)) (dstep n c)
            omega
          · rw [if_neg h3, ih (i + 1) (dstep n c) (by omega) (by omega) (by omega)]
            simp only [hc, true_and]
    · rw [if_neg h]
      have : s.toList.drop i = [] := by rw [List.drop_eq_nil_iff, ← ba_size]; omega
      rw [this]
      simp [hn]
/-- What Number answers: of a kind's head and a name. -/
def numOk (h l : List UInt8) : Prop := h <+: l ∧ l.drop h.length ≠ [] ∧ plainDec (l.drop h.length) ∧ (∀ c ∈ l.drop h.length, isDig c) ∧ dval (l.drop h.length) ≤ 1099511627776
open Classical in
noncomputable def numSpec (h l : List UInt8) : Int × Int := if h = [] then (0, 1) else if numOk h l then ((dval (l.drop h.length) : Nat), 0) else (0, 7)
theorem plainDec_iff (l : List UInt8) (hn : l ≠ []) : plainDec l ↔ ¬ (1 < (ofL l).size ∧ bt (ofL l) 0 = 48) := by
  obtain ⟨c, t, rfl⟩ := List.exists_cons_of_ne_nil hn
  have hb : bt (ofL (c :: t)) 0 = ((c.toNat : Nat) : Int) := by
    have := bt_get (ofL (c :: t)) 0 (by rw [ofL_toList]; simp)
    simp only [ofL_toList] at this
    exact this
  rw [hb, ofL_size]
  unfold plainDec
  simp only [List.length_cons, List.head?_cons, ne_eq, Option.some.injEq]
  constructor
  · rintro (h | h) ⟨h1, h2⟩
    · omega
    · exact h (UInt8.toNat_inj.1 (by have : (48 : UInt8).toNat = 48 := rfl; omega))
  · intro h
    by_cases hl : t.length = 0
    · exact .inl (by omega)
    · right
      intro he
      apply h
      rw [he]
      exact ⟨by omega, rfl⟩
theorem number_is (a : Int) (s : ByteArray) (hs : s.size ≤ 140737488351232) : names_Number.f a s = some (numSpec (headL a) s.toList) := by
  unfold names_Number.f numSpec
  rw [if_pos hs, head_is, Option.bind_some, ofL_toList]
  by_cases hh : headL a = []
  · rw [if_pos hh, if_pos hh]
  · rw [if_neg hh, if_neg hh, cutPrefix_is, Option.bind_some, ofL_toList, ofL_size]
    by_cases hp : headL a <+: s.toList
    · rw [if_pos hp]
      simp only [Bool.true_eq_false, if_false, ofL_toList]
      by_cases he : s.toList.drop (headL a).length = []
      · rw [if_pos he, if_neg]
        rintro ⟨_, h2, _⟩
        exact h2 he
      · rw [if_neg he]
        have hpi := plainDec_iff _ he
        by_cases hz : 1 < (ofL (s.toList.drop (headL a).length)).size ∧ bt (ofL (s.toList.drop (headL a).length)) 0 = 48
        · rw [if_pos hz, if_neg]
          rintro ⟨_, _, h3, _⟩
          exact hpi.1 h3 hz
        · rw [if_neg hz]
          have hsz : (ofL (s.toList.drop (headL a).length)).size ≤ 140737488351232 := by
            rw [ofL_size, List.length_drop, ← ba_size]; omega
          rw [if_pos hsz]
          have hg := go_is (ofL (s.toList.drop (headL a).length)) _ 0 0 (by omega) rfl (by omega)
          rw [show (((0 : Nat) : Int)) = 0 from rfl] at hg
          rw [Nat.sub_zero, List.drop_zero, ofL_toList] at hg
          rw [hg]
          by_cases hd : (∀ c ∈ s.toList.drop (headL a).length, isDig c) ∧ (s.toList.drop (headL a).length).foldl dstep 0 ≤ 1099511627776
          · rw [if_pos hd, if_pos]
            · rfl
            · exact ⟨hp, he, hpi.2 hz, hd.1, hd.2⟩
          · rw [if_neg hd, if_neg]
            rintro ⟨_, _, _, h4, h5⟩
            exact hd ⟨h4, h5⟩
    · rw [if_neg hp, if_pos rfl, if_neg (fun h : numOk _ _ => hp h.1)]
def letP (c : Int) : Prop := (97 ≤ c ∧ c ≤ 122) ∨ (65 ≤ c ∧ c ≤ 90) ∨ (48 ≤ c ∧ c ≤ 57) ∨ c = 46 ∨ c = 95 ∨ c = 45
instance (c : Int) : Decidable (letP c) := by unfold letP; infer_instance
theorem letter_is (c : Int) (k : Nat) : names_letter.f (k + 3) c = some (decide (letP c)) := by
  unfold names_letter.f
  simp only [names_letter.j0, names_letter.j1, names_letter.j2]
  repeat' split
  all_goals (try simp only [decide_eq_true_iff, Bool.false_eq_true] at *)
  all_goals (first | exact congrArg some (decide_eq_true (by unfold letP; omega)).symm | exact congrArg some (decide_eq_false (by unfold letP; omega)).symm)
theorem letter_at (c : Int) (k : Nat) (h : 3 ≤ k) : names_letter.f k c = some (decide (letP c)) := by
  obtain ⟨m, rfl⟩ : ∃ m, k = m + 3 := ⟨k - 3, by omega⟩
  exact letter_is c m
def plainP (s : ByteArray) : Prop := 1 ≤ s.size ∧ s.size ≤ 64 ∧ ∀ i : Nat, i < s.size → letP (bt s i)
open Classical in
theorem plain_is (s : ByteArray) (hs : s.size ≤ 140737488351232) : Ev (fun k => names_plain.f k s) (decide (plainP s)) := by
  have loop : ∀ (d i : Nat) (b : Bool), d = s.size - i → i ≤ s.size → ∀ k, d + 5 ≤ k → names_plain.l0 k s b (s.size : Int) (i : Int) = some (b && decide (∀ j : Nat, i ≤ j → j < s.size → letP (bt s j))) := by
    intro d
    induction d with
    | zero =>
      intro i b hd hi k hk
      obtain ⟨k, rfl⟩ : ∃ m, k = m + 1 := ⟨k - 1, by omega⟩
      simp only [names_plain.l0]
      rw [if_neg (by omega), decide_eq_true (fun j h1 h2 => by omega), Bool.and_true]
    | succ d ih =>
      intro i b hd hi k hk
      obtain ⟨k, rfl⟩ : ∃ m, k = m + 1 := ⟨k - 1, by omega⟩
      simp only [names_plain.l0]
      rw [if_pos (by omega), if_pos (by omega), if_pos (by omega), letter_at _ _ (by omega), Option.bind_some]
      by_cases hl : letP (bt s i)
      · rw [decide_eq_true hl, if_pos rfl, w64 (by omega) (by omega), show ((i : Int) + 1) = ((i + 1 : Nat) : Int) from rfl, ih (i + 1) b (by omega) (by omega) _ (by omega)]
        congr 2
        rw [decide_eq_decide]
        constructor
        · intro h j h1 h2
          by_cases he : j = i
          · rw [he]; exact hl
          · exact h j (by omega) h2
        · intro h j h1 h2
          exact h j (by omega) h2
      · rw [decide_eq_false hl, if_neg (by simp), decide_eq_false (fun h => hl (h i (Nat.le_refl _) (by omega))), Bool.and_false]
  refine ⟨s.size + 6, fun k hk => ?_⟩
  obtain ⟨k, rfl⟩ : ∃ m, k = m + 1 := ⟨k - 1, by omega⟩
  have hl := fun b => loop s.size 0 b (by omega) (by omega) k (by omega)
  unfold names_plain.f
  simp only [names_plain.j0]
  by_cases h0 : s.toList = []
  · rw [if_pos h0]
    have hz : s.size = 0 := by rw [ba_size, h0]; rfl
    have := hl false
    rw [show ((0 : Nat) : Int) = 0 from rfl] at this
    rw [this, Bool.false_and, decide_eq_false (fun h : plainP s => by have := h.1; omega)]
  · rw [if_neg h0]
    have hz : 1 ≤ s.size := by rw [ba_size]; exact List.length_pos_iff.2 h0
    have := hl (decide ((s.size : Int) ≤ 64))
    rw [show ((0 : Nat) : Int) = 0 from rfl] at this
    rw [this]
    congr 1
    rw [Bool.eq_iff_iff, Bool.and_eq_true, decide_eq_true_iff, decide_eq_true_iff, decide_eq_true_iff]
    constructor
    · rintro ⟨h1, h2⟩
      exact ⟨hz, by omega, fun i hi => h2 i (Nat.zero_le _) hi⟩
    · rintro ⟨_, h1, h2⟩
      exact ⟨by omega, fun i _ hi => h2 i hi⟩
open Classical in
noncomputable def checkSpec (a : Int) (s : ByteArray) : Int := if a < 0 then 1 else if a > 6 then 1 else if headL a = [] then (if plainP s then 0 else 7) else (numSpec (headL a) s.toList).2
open Classical in
theorem check_ev (a : Int) (s : ByteArray) (hs : s.size ≤ 140737488351232) : Ev (fun k => names_Check.f k a s) (checkSpec a s) := by
  obtain ⟨K, hK⟩ := plain_is s hs
  refine ⟨K + 1, fun k hk => ?_⟩
  obtain ⟨k, rfl⟩ : ∃ m, k = m + 1 := ⟨k - 1, by omega⟩
  have hp : names_plain.f k s = _ := hK k (by omega)
  show names_Check.f _ a s = _
  unfold names_Check.f checkSpec
  by_cases h1 : a < 0
  · rw [if_pos h1, if_pos h1]
    simp only [names_Check.j0]
    rw [if_pos trivial]
  · rw [if_neg h1, if_neg h1]
    simp only [names_Check.j0]
    by_cases h2 : a > 6
    · rw [if_pos h2, decide_eq_true h2, if_pos rfl]
    · rw [if_neg h2, decide_eq_false h2, if_neg (by simp), head_is, Option.bind_some, ofL_toList]
      by_cases h3 : headL a = []
      · rw [if_pos h3, if_pos h3, hp, Option.bind_some]
        by_cases h4 : plainP s
        · rw [decide_eq_true h4, if_pos rfl, if_pos h4]
        · rw [decide_eq_false h4, if_neg (by simp), if_neg h4]
      · rw [if_neg h3, if_neg h3, number_is a s hs, Option.bind_some]
def cutL (c : UInt8) : List UInt8 → Option (List UInt8 × List UInt8)
  | [] => none
  | x :: t => if x = c then some ([], t) else (cutL c t).map fun p => (x :: p.1, p.2)
theorem cutL_some {c : UInt8} : ∀ {l a b : List UInt8}, cutL c l = some (a, b) → l = a ++ c :: b
  | [], a, b, h => by simp [cutL] at h
  | x :: t, a, b, h => by
    simp only [cutL] at h
    by_cases hx : x = c
    · rw [if_pos hx] at h
      simp only [Option.some.injEq, Prod.mk.injEq] at h
      obtain ⟨rfl, rfl⟩ := h
      rw [hx]; rfl
    · rw [if_neg hx] at h
      obtain ⟨p, hp, he⟩ := Option.map_eq_some_iff.1 h
      simp only [Prod.mk.injEq] at he
      obtain ⟨rfl, rfl⟩ := he
      rw [List.cons_append, ← cutL_some (a := p.1) (b := p.2) hp]
theorem index_some {c : UInt8} : ∀ {l a b : List UInt8}, cutL c l = some (a, b) → Lib.indexByte l c = (a.length : Int)
  | [], a, b, h => by simp [cutL] at h
  | x :: t, a, b, h => by
    simp only [cutL] at h
    by_cases hx : x = c
    · rw [if_pos hx] at h
      simp only [Option.some.injEq, Prod.mk.injEq] at h
      obtain ⟨rfl, rfl⟩ := h
      simp [Lib.indexByte, hx]
    · rw [if_neg hx] at h
      obtain ⟨p, hp, he⟩ := Option.map_eq_some_iff.1 h
      simp only [Prod.mk.injEq] at he
      obtain ⟨rfl, rfl⟩ := he
      have ih := index_some (a := p.1) (b := p.2) hp
      simp [Lib.indexByte, ih, hx]
      try omega

theorem rd_get (l : List S52) (i : Nat) (h : i < l.length) : rd_T52 l (i : Int) = l[i] := by
  unfold rd_T52
  rw [Int.toNat_natCast, List.getD_eq_getElem?_getD, List.getElem?_eq_getElem h]; rfl
theorem rdOf_get (l : List ByteArray) (i : Nat) (h : i < l.length) : rdOf ByteArray.empty l (i : Int) = l[i] := by
  unfold rdOf
  rw [Int.toNat_natCast, List.getD_eq_getElem?_getD, List.getElem?_eq_getElem h]; rfl
open Classical in
noncomputable def chkT (l : List S52) (b : ByteArray) : Int := if l.length > 8 then 25 else if (∀ h ∈ l, checkSpec 0 h.f0 = 0 ∧ checkSpec 1 h.f1 = 0) then checkSpec 4 b else 7
def smallT (l : List S52) : Prop := ∀ h ∈ l, h.f0.size ≤ 1000000 ∧ h.f1.size ≤ 1000000
open Classical in
theorem check_go (l : List S52) (hl : l.length ≤ 8) (hs : smallT l) (e : Int) : ∀ (d i : Nat), d = l.length - i → Ev (fun k => trace_check.l0 k e l (l.length : Int) (i : Int)) (if (∀ h ∈ l.drop i, checkSpec 0 h.f0 = 0 ∧ checkSpec 1 h.f1 = 0) then e else 7) := by
  intro d
  induction d with
  | zero =>
    intro i hd
    refine ⟨1, fun k hk => ?_⟩
    obtain ⟨m, rfl⟩ : ∃ m, k = m + 1 := ⟨k - 1, by omega⟩
    show trace_check.l0 (m + 1) e l (l.length : Int) (i : Int) = _
    simp only [trace_check.l0]
    rw [if_neg (by omega), List.drop_eq_nil_of_le (by omega), if_pos (by simp)]
  | succ d ih =>
    intro i hd
    have hi : i < l.length := by omega
    have hrd := rd_get l i hi
    have hw : wrap64 ((i : Int) + 1) = ((i + 1 : Nat) : Int) := by rw [w64 (by omega) (by omega)]; omega
    obtain ⟨K0, e0⟩ := ih (i + 1) (by omega)
    obtain ⟨s1, s2⟩ := hs l[i] (List.getElem_mem hi)
    obtain ⟨K1, e1⟩ := check_ev 0 l[i].f0 (by omega)
    obtain ⟨K2, e2⟩ := check_ev 1 l[i].f1 (by omega)
    refine ⟨K0 + K1 + K2 + 1, fun k hk => ?_⟩
    obtain ⟨m, rfl⟩ : ∃ m, k = m + 1 := ⟨k - 1, by omega⟩
    have e0 : trace_check.l0 m e l (l.length : Int) ((i + 1 : Nat) : Int) = _ := e0 m (by omega)
    have e1 : names_Check.f m 0 l[i].f0 = _ := e1 m (by omega)
    have e2 : names_Check.f m 1 l[i].f1 = _ := e2 m (by omega)
    show trace_check.l0 (m + 1) e l (l.length : Int) (i : Int) = _
    simp only [trace_check.l0]
    rw [if_pos (by omega), if_pos (by omega), if_pos (by omega), hrd, e1, Option.bind_some, List.drop_eq_getElem_cons hi]
    simp only [List.mem_cons, forall_eq_or_imp]
    by_cases c1 : checkSpec 0 l[i].f0 = 0
    · rw [if_pos c1, e2, Option.bind_some]
      by_cases c2 : checkSpec 1 l[i].f1 = 0
      · rw [if_pos c2, hw, e0]
        simp only [c1, c2, and_self, true_and]
      · rw [if_neg c2, if_neg (fun h => c2 h.1.2)]
    · rw [if_neg c1, if_neg (fun h => c1 h.1.1)]
open Classical in
theorem chk_ev (l : List S52) (b : ByteArray) (hs : smallT l) (hb : b.size ≤ 1000000) : Ev (fun k => trace_check.f k l b) (chkT l b) := by
  by_cases h : l.length > 8
  · refine ⟨0, fun k _ => ?_⟩
    show trace_check.f k l b = _
    unfold trace_check.f chkT
    rw [if_pos (by omega), if_pos h]
  · obtain ⟨K1, e1⟩ := check_ev 4 b (by omega)
    obtain ⟨K2, e2⟩ := check_go l (by omega) hs (checkSpec 4 b) l.length 0 (by omega)
    refine ⟨K1 + K2, fun k hk => ?_⟩
    have e1 : names_Check.f k 4 b = _ := e1 k (by omega)
    have e2 : trace_check.l0 k (checkSpec 4 b) l (l.length : Int) 0 = _ := e2 k (by omega)
    show trace_check.f k l b = _
    unfold trace_check.f chkT
    rw [if_neg (by omega), if_neg h, e1, Option.bind_some, e2, List.drop_zero]
theorem chkT_len {l : List S52} {b : ByteArray} (h : chkT l b = 0) : l.length ≤ 8 := by
  unfold chkT at h
  by_cases hl : l.length > 8
  · rw [if_pos hl] at h; exact absurd h (by decide)
  · omega
def hopL (h : S52) : List UInt8 := h.f0.toList ++ (47 :: (h.f1.toList ++ [47]))
def flatT (l : List S52) : List UInt8 := l.flatMap hopL
theorem put_go : ∀ (l : List S52) (acc : ByteArray), smallT l → acc.size + l.length * 2000010 ≤ 1000000000 → trace_Put.go l acc = some (ofL (acc.toList ++ flatT l))
  | [], acc, _, _ => by simp only [trace_Put.go, flatT, List.flatMap_nil, List.append_nil, ofL_of]
  | h :: l, acc, hs, ha => by
    obtain ⟨s1, s2⟩ := hs h (by simp)
    rw [List.length_cons] at ha
    have e : (acc ++ (h.f0 ++ (⟨#[47]⟩ : ByteArray) ++ h.f1 ++ (⟨#[47]⟩ : ByteArray))).size = acc.size + (h.f0.size + 1 + h.f1.size + 1) := by simp only [ByteArray.size_append]; rfl
    simp only [trace_Put.go]
    rw [if_pos (by omega), put_go l _ (fun x hx => hs x (by simp [hx])) (by rw [e]; omega)]
    unfold flatT
    rw [List.flatMap_cons]
    refine congrArg some (congrArg ofL ?_)
    simp only [ba_append]
    unfold hopL
    simp [ByteArray.toList_eq]
noncomputable def putT (l : List S52) (b : ByteArray) : ByteArray × Int := if chkT l b = 0 then (ofL (flatT l ++ b.toList), 0) else (ofL [], chkT l b)
theorem putT_ev (l : List S52) (b : ByteArray) (hs : smallT l) (hb : b.size ≤ 1000000) : Ev (fun k => trace_Put.f k l b) (putT l b) := by
  obtain ⟨K, eK⟩ := chk_ev l b hs hb
  refine ⟨K, fun k hk => ?_⟩
  have eK : trace_check.f k l b = _ := eK k hk
  show trace_Put.f k l b = _
  unfold trace_Put.f putT
  rw [eK, Option.bind_some]
  by_cases h : chkT l b = 0
  · have hl := chkT_len h
    rw [if_pos h, if_pos h, if_pos (by omega), put_go l _ hs (by have h0 : (⟨#[]⟩ : ByteArray).size = 0 := rfl; omega), Option.bind_some]
    refine congrArg some (Prod.ext (ba_ext ?_) rfl)
    simp only [ba_append, ofL_toList]
    simp [ByteArray.toList_eq]
  · rw [if_neg h, if_neg h]; rfl
theorem cutL_none {c : UInt8} : ∀ {l : List UInt8}, cutL c l = none → c ∉ l
  | [], _ => by simp
  | x :: t, h => by
    simp only [cutL] at h
    by_cases hx : x = c
    · rw [if_pos hx] at h; exact absurd h (by simp)
    · rw [if_neg hx] at h
      have h1 : cutL c t = none := by
        cases h2 : cutL c t with
        | none => rfl
        | some p => rw [h2] at h; exact absurd h (by simp)
      have := cutL_none h1
      simp only [List.mem_cons, not_or]
      exact ⟨fun e => hx e.symm, this⟩
theorem cutL_pre {c : UInt8} : ∀ {l a b : List UInt8}, cutL c l = some (a, b) → c ∉ a
  | [], a, b, h => by simp [cutL] at h
  | x :: t, a, b, h => by
    simp only [cutL] at h
    by_cases hx : x = c
    · rw [if_pos hx] at h
      simp only [Option.some.injEq, Prod.mk.injEq] at h
      rw [← h.1]; simp
    · rw [if_neg hx] at h
      obtain ⟨p, hp, he⟩ := Option.map_eq_some_iff.1 h
      simp only [Prod.mk.injEq] at he
      obtain ⟨rfl, rfl⟩ := he
      have := cutL_pre (a := p.1) (b := p.2) hp
      simp only [List.mem_cons, not_or]
      exact ⟨fun e => hx e.symm, this⟩
/-- A text's parts between bytes c. -/
def splitL (c : UInt8) : List UInt8 → List (List UInt8)
  | [] => [[]]
  | x :: t => if x = c then [] :: splitL c t else (match splitL c t with
    | [] => [[x]]
    | p :: ps => (x :: p) :: ps)
theorem splitL_ne (c : UInt8) : ∀ l, splitL c l ≠ []
  | [] => by simp [splitL]
  | x :: t => by
    simp only [splitL]
    by_cases h : x = c
    · rw [if_pos h]; simp
    · rw [if_neg h]; split <;> simp
theorem splitL_no {c : UInt8} : ∀ {l : List UInt8}, c ∉ l → splitL c l = [l]
  | [], _ => rfl
  | x :: t, h => by
    simp only [List.mem_cons, not_or] at h
    simp only [splitL]
    rw [if_neg (fun e => h.1 e.symm), splitL_no h.2]
theorem splitL_app {c : UInt8} (b : List UInt8) : ∀ {a : List UInt8}, c ∉ a → splitL c (a ++ c :: b) = a :: splitL c b
  | [], _ => by simp [splitL]
  | x :: t, h => by
    simp only [List.mem_cons, not_or] at h
    simp only [List.cons_append, splitL]
    rw [if_neg (fun e => h.1 e.symm), splitL_app b h.2]
theorem splitL_small (c : UInt8) : ∀ (l : List UInt8), ∀ p ∈ splitL c l, p.length ≤ l.length
  | [], p, hp => by
    simp only [splitL, List.mem_singleton] at hp
    subst hp; simp
  | x :: t, p, hp => by
    have ih := splitL_small c t
    simp only [splitL] at hp
    rw [List.length_cons]
    by_cases h : x = c
    · rw [if_pos h] at hp
      rcases List.mem_cons.1 hp with rfl | hp
      · simp
      · have := ih p hp; omega
    · rw [if_neg h] at hp
      cases hs : splitL c t with
      | nil => exact absurd hs (splitL_ne c t)
      | cons q qs =>
        rw [hs] at hp ih
        simp only at hp
        rcases List.mem_cons.1 hp with rfl | hp
        · have := ih q (by simp); rw [List.length_cons]; omega
        · have := ih p (by simp [hp]); omega
theorem splitL_len (c : UInt8) : ∀ (l : List UInt8), (splitL c l).length ≤ l.length + 1
  | [] => by simp [splitL]
  | x :: t => by
    have ih := splitL_len c t
    simp only [splitL]
    rw [List.length_cons]
    by_cases h : x = c
    · rw [if_pos h, List.length_cons]; omega
    · rw [if_neg h]
      cases hs : splitL c t with
      | nil => exact absurd hs (splitL_ne c t)
      | cons q qs => rw [hs] at ih; simp only [List.length_cons] at ih ⊢; omega
theorem splitK_is (c : UInt8) : ∀ (n : Nat) (s : List UInt8), s.length ≤ n → Lib.splitK [c] 0 (Lib.count s [c]) s = splitL c s := by
  intro n
  induction n with
  | zero =>
    intro s hs
    have : s = [] := List.length_eq_zero_iff.1 (by omega)
    subst this
    rw [Lib.count_one]; rfl
  | succ n ih =>
    intro s hs
    cases h : cutL c s with
    | none =>
      have h1 := cutL_none h
      have h2 : s.count c = 0 := List.count_eq_zero.2 h1
      rw [Lib.count_one, h2, splitL_no h1]; rfl
    | some p =>
      obtain ⟨a, b⟩ := p
      have h1 := cutL_some h
      have h2 := cutL_pre h
      have hi := index_some h
      have hc : s.count c = b.count c + 1 := by rw [h1, List.count_append, List.count_eq_zero.2 h2]; simp
      have hl : a.length + (b.length + 1) = s.length := by rw [h1, List.length_append, List.length_cons]
      have ihb := ih b (by omega)
      rw [Lib.count_one] at ihb ⊢
      rw [hc]
      simp only [Lib.splitK]
      rw [Lib.index_one, hi, if_neg (by simp), Int.toNat_natCast]
      have e1 : s.take (a.length + 0) = a := by rw [h1, Nat.add_zero]; exact List.take_left
      have e2 : s.drop (a.length + [c].length) = b := by rw [h1, ← List.drop_drop]; simp
      rw [e1, e2, ihb, h1, splitL_app b h2]
theorem split_is (s : List UInt8) (h : s.length ≤ 1000000) : strings_Split.f (ofL s) (⟨#[47]⟩ : ByteArray) = some ((splitL 47 s).map ofL) := by
  unfold strings_Split.f
  rw [if_pos ⟨by rw [ByteArray.toList_eq], by rw [ofL_size]; exact h⟩]
  refine congrArg some ?_
  have h1 := Lib.splitB_data (⟨#[47]⟩ : ByteArray) 0 (Lib.countB (ofL s) (⟨#[47]⟩ : ByteArray)) (ofL s)
  have h2 : (ofL s).data.toList = s := by rw [← ByteArray.toList_eq, ofL_toList]
  have h3 : Lib.countB (ofL s) (⟨#[47]⟩ : ByteArray) = Lib.count s [47] := by
    show Lib.count (ofL s).data.toList [47] = _
    rw [h2]
  rw [h2, h3] at h1
  have h4 := h1.trans (splitK_is 47 s.length s (Nat.le_refl _))
  rw [← h4, h3, List.map_map]
  conv => lhs; rw [← List.map_id (Lib.splitB (⟨#[47]⟩ : ByteArray) 0 (Lib.count s [47]) (ofL s))]
  refine List.map_congr_left (fun x _ => ?_)
  show x = ofL x.data.toList
  rw [← ByteArray.toList_eq, ofL_of]
def pairsOf : List ByteArray → List S52
  | a :: b :: t => ⟨a, b⟩ :: pairsOf t
  | _ => []
theorem pairsOf_len : ∀ (n : Nat) (P : List ByteArray), P.length ≤ n → (pairsOf P).length ≤ P.length
  | _, [], _ => by simp [pairsOf]
  | _, [_], _ => by simp [pairsOf]
  | 0, a :: b :: t, h => by simp at h
  | n + 1, a :: b :: t, h => by
    simp only [List.length_cons] at h
    have := pairsOf_len n t (by omega)
    simp only [pairsOf, List.length_cons]; omega
theorem pairsOf_small : ∀ (n : Nat) (P : List ByteArray), P.length ≤ n → (∀ p ∈ P, p.size ≤ 1000000) → smallT (pairsOf P)
  | _, [], _, _ => by intro h hh; simp [pairsOf] at hh
  | _, [_], _, _ => by intro h hh; simp [pairsOf] at hh
  | 0, a :: b :: t, h, _ => by simp at h
  | n + 1, a :: b :: t, h, hp => by
    simp only [List.length_cons] at h
    have ih := pairsOf_small n t (by omega) (fun p hh => hp p (by simp [hh]))
    intro x hx
    simp only [pairsOf] at hx
    rcases List.mem_cons.1 hx with rfl | hx
    · exact ⟨hp a (by simp), hp b (by simp)⟩
    · exact ih x hx
noncomputable def finT (l : List S52) (b : ByteArray) : List S52 × ByteArray × Int := if chkT l b = 0 then (l, b, 0) else ([], (⟨#[]⟩ : ByteArray), chkT l b)
theorem read_go : ∀ (n : Nat) (P : List ByteArray) (acc : List S52) (b : ByteArray), P.length ≤ n → P.length % 2 = 1 → acc.length + P.length ≤ 4000000 → smallT (acc ++ pairsOf P) → b.size ≤ 1000000 → Ev (fun k => trace_Read.l0 k P acc b) (finT (acc ++ pairsOf P) b) := by
  intro n
  induction n with
  | zero => intro P acc b h1 h2; omega
  | succ n ih =>
    intro P acc b h1 h2 h3 hs hb
    match P, h1, h2, h3, hs with
    | [], h1, h2, h3, hs => simp at h2
    | [x], h1, h2, h3, hs =>
      have hp : pairsOf [x] = [] := rfl
      rw [hp, List.append_nil] at hs ⊢
      obtain ⟨K, eK⟩ := chk_ev acc b hs hb
      refine ⟨K + 1, fun k hk => ?_⟩
      obtain ⟨m, rfl⟩ : ∃ m, k = m + 1 := ⟨k - 1, by omega⟩
      have eK : trace_check.f m acc b = _ := eK m (by omega)
      show trace_Read.l0 (m + 1) [x] acc b = _
      simp only [trace_Read.l0]
      rw [if_neg (by simp), eK, Option.bind_some]
      unfold finT
      split <;> rfl
    | x :: y :: t, h1, h2, h3, hs =>
      simp only [List.length_cons] at h1 h2 h3
      have hp : acc ++ pairsOf (x :: y :: t) = (acc ++ [⟨x, y⟩]) ++ pairsOf t := by simp [pairsOf]
      rw [hp] at hs ⊢
      obtain ⟨K, eK⟩ := ih t (acc ++ [⟨x, y⟩]) b (by omega) (by omega) (by rw [List.length_append, List.length_singleton]; omega) hs hb
      refine ⟨K + 1, fun k hk => ?_⟩
      obtain ⟨m, rfl⟩ : ∃ m, k = m + 1 := ⟨k - 1, by omega⟩
      have eK : trace_Read.l0 m t _ b = _ := eK m (by omega)
      show trace_Read.l0 (m + 1) (x :: y :: t) acc b = _
      simp only [trace_Read.l0]
      rw [if_pos (by simp only [List.length_cons]; omega), if_pos (by simp only [List.length_cons]; omega), if_pos (by simp only [List.length_cons]; omega), if_pos (by omega), if_pos (by simp only [List.length_cons]; omega)]
      exact eK
noncomputable def readT (s : List UInt8) : List S52 × ByteArray × Int := if ((splitL 47 s).map ofL).length % 2 = 0 then ([], (⟨#[]⟩ : ByteArray), 6) else finT (pairsOf ((splitL 47 s).map ofL)) (rdOf ByteArray.empty ((splitL 47 s).map ofL) (wrap64 ((((splitL 47 s).map ofL).length : Int) - 1)))
theorem pieces (s : List UInt8) (hs : s.length ≤ 1000000) : ((splitL 47 s).map ofL).length ≤ 1000001 ∧ 0 < ((splitL 47 s).map ofL).length ∧ (∀ p ∈ (splitL 47 s).map ofL, p.size ≤ 1000000) ∧ (rdOf ByteArray.empty ((splitL 47 s).map ofL) (wrap64 ((((splitL 47 s).map ofL).length : Int) - 1))).size ≤ 1000000 := by
  have h1 := splitL_len 47 s
  have h2 := List.length_pos_iff.2 (splitL_ne 47 s)
  have h3 : ∀ p ∈ (splitL 47 s).map ofL, p.size ≤ 1000000 := by
    intro p hp
    obtain ⟨q, hq, rfl⟩ := List.mem_map.1 hp
    have := splitL_small 47 s q hq
    rw [ofL_size]; omega
  refine ⟨by rw [List.length_map]; omega, by rw [List.length_map]; omega, h3, ?_⟩
  have h4 : wrap64 ((((splitL 47 s).map ofL).length : Int) - 1) = ((((splitL 47 s).map ofL).length - 1 : Nat) : Int) := by
    rw [List.length_map, w64 (by omega) (by omega)]; omega
  rw [h4, rdOf_get _ _ (by rw [List.length_map]; omega)]
  exact h3 _ (List.getElem_mem _)
theorem readT_ev (s : List UInt8) (hs : s.length ≤ 1000000) : Ev (fun k => trace_Read.f k (ofL s)) (readT s) := by
  have hsp := split_is s hs
  obtain ⟨p1, p2, p3, p4⟩ := pieces s hs
  unfold readT
  generalize (splitL 47 s).map ofL = P at *
  generalize hb : rdOf ByteArray.empty P (wrap64 ((P.length : Int) - 1)) = b at *
  by_cases h : P.length % 2 = 0
  · refine ⟨0, fun k _ => ?_⟩
    show trace_Read.f k (ofL s) = _
    unfold trace_Read.f
    rw [hsp, Option.bind_some, if_pos (by omega), if_pos h]
  · obtain ⟨K, eK⟩ := read_go P.length P [] b (Nat.le_refl _) (by omega) (by simp; omega) (by rw [List.nil_append]; exact pairsOf_small P.length P (Nat.le_refl _) p3) p4
    refine ⟨K, fun k hk => ?_⟩
    have eK : trace_Read.l0 k P [] b = _ := eK k hk
    rw [List.nil_append] at eK
    show trace_Read.f k (ofL s) = _
    unfold trace_Read.f
    have hw : wrap64 ((P.length : Int) - 1) = ((P.length - 1 : Nat) : Int) := by rw [w64 (by omega) (by omega)]; omega
    rw [hsp, Option.bind_some, if_neg (by omega), if_neg h, if_pos (by rw [hw]; omega), if_pos (by rw [hw]; omega), hb, eK]
theorem pushT_ev (l : List S52) (b p c : ByteArray) (hl : l.length ≤ 1000000) (hs : smallT (⟨p, c⟩ :: l)) (hb : b.size ≤ 1000000) : Ev (fun k => trace_Push.f k l b p c) (finT (⟨p, c⟩ :: l) b) := by
  obtain ⟨K, eK⟩ := chk_ev (⟨p, c⟩ :: l) b hs hb
  refine ⟨K, fun k hk => ?_⟩
  have eK : trace_check.f k (⟨p, c⟩ :: l) b = _ := eK k hk
  show trace_Push.f k l b p c = _
  unfold trace_Push.f
  rw [Option.bind_some, if_pos (by rw [List.length_singleton]; omega), Option.bind_some, List.singleton_append, eK, Option.bind_some]
  unfold finT
  split <;> rfl
theorem popT_some (l : List S52) (b : ByteArray) : ∃ r, trace_Pop.f l b = some r ∧ r.1.length ≤ l.length := by
  unfold trace_Pop.f
  by_cases h : (l.length : Int) = 0
  · rw [if_pos h]; exact ⟨_, rfl, by simp⟩
  · rw [if_neg h, if_pos (by omega), if_pos (by omega)]; exact ⟨_, rfl, by simp⟩
theorem sameT_go (l : List S52) (b : ByteArray) (hl : l.length ≤ 1000000) : ∀ (d i : Nat), d = l.length - i → ∀ k, d + 1 ≤ k → footbridgeref26_Same.l0 k (i : Int) l b l b = some true := by
  intro d
  induction d with
  | zero =>
    intro i hd k hk
    obtain ⟨m, rfl⟩ : ∃ m, k = m + 1 := ⟨k - 1, by omega⟩
    simp only [footbridgeref26_Same.l0]
    rw [if_neg (by omega)]
  | succ d ih =>
    intro i hd k hk
    obtain ⟨m, rfl⟩ : ∃ m, k = m + 1 := ⟨k - 1, by omega⟩
    have hw : wrap64 ((i : Int) + 1) = ((i + 1 : Nat) : Int) := by rw [w64 (by omega) (by omega)]; omega
    simp only [footbridgeref26_Same.l0]
    rw [if_pos (by omega), if_pos (by omega), if_pos (by omega), if_neg (by simp), hw]
    exact ih (i + 1) (by omega) m (by omega)
theorem sameT_ev (l : List S52) (b : ByteArray) (hl : l.length ≤ 1000000) : Ev (fun k => footbridgeref26_Same.f k l b l b) true :=
  ⟨l.length + 2, fun k hk => by
    obtain ⟨m, rfl⟩ : ∃ m, k = m + 1 := ⟨k - 1, by omega⟩
    show footbridgeref26_Same.f (m + 1) l b l b = _
    unfold footbridgeref26_Same.f
    rw [if_pos rfl, show ((l.length : Int) != (l.length : Int)) = false by simp]
    simp only [footbridgeref26_Same.j0]
    rw [if_neg (by simp)]
    exact sameT_go l b hl l.length 0 (by omega) m (by omega)⟩
theorem fewT_go (l : List S52) (b : ByteArray) (hl : l.length ≤ 1000000) : ∀ (d i : Nat), d = l.length - i → ∃ r, (∀ k, d + 1 ≤ k → footbridgelaw26_few.l0 k (i : Int) l b = some r) ∧ (r = true → ∀ a ∈ l.drop i, (a.f0.size : Int) ≤ 200 ∧ (a.f1.size : Int) ≤ 200) := by
  intro d
  induction d with
  | zero =>
    intro i hd
    refine ⟨true, fun k hk => ?_, fun _ a ha => ?_⟩
    · obtain ⟨m, rfl⟩ : ∃ m, k = m + 1 := ⟨k - 1, by omega⟩
      simp only [footbridgelaw26_few.l0]
      rw [if_neg (by omega)]
    · rw [List.drop_eq_nil_of_le (by omega)] at ha; exact absurd ha (by simp)
  | succ d ih =>
    intro i hd
    have hi : i < l.length := by omega
    have hrd := rd_get l i hi
    have hw : wrap64 ((i : Int) + 1) = ((i + 1 : Nat) : Int) := by rw [w64 (by omega) (by omega)]; omega
    by_cases h : (l[i].f0.size : Int) > 200
    · refine ⟨false, fun k hk => ?_, fun h => absurd h (by simp)⟩
      obtain ⟨m, rfl⟩ : ∃ m, k = m + 1 := ⟨k - 1, by omega⟩
      simp only [footbridgelaw26_few.l0]
      rw [if_pos (by omega), if_pos (by omega), hrd, if_pos h]
    · by_cases h2 : (l[i].f1.size : Int) > 200
      · refine ⟨false, fun k hk => ?_, fun h => absurd h (by simp)⟩
        obtain ⟨m, rfl⟩ : ∃ m, k = m + 1 := ⟨k - 1, by omega⟩
        simp only [footbridgelaw26_few.l0]
        rw [if_pos (by omega), if_pos (by omega), hrd, if_neg h, if_pos h2]
      · obtain ⟨r, h3, h4⟩ := ih (i + 1) (by omega)
        refine ⟨r, fun k hk => ?_, fun hb a ha => ?_⟩
        · obtain ⟨m, rfl⟩ : ∃ m, k = m + 1 := ⟨k - 1, by omega⟩
          simp only [footbridgelaw26_few.l0]
          rw [if_pos (by omega), if_pos (by omega), hrd, if_neg h, if_neg h2, hw]
          exact h3 m (by omega)
        · rw [List.drop_eq_getElem_cons hi] at ha
          rcases List.mem_cons.1 ha with rfl | ha
          · exact ⟨by omega, by omega⟩
          · exact h4 hb a ha
theorem fewT_ev (l : List S52) (b : ByteArray) : ∃ r, Ev (fun k => footbridgelaw26_few.f k l b) r ∧ (r = true → l.length ≤ 12 ∧ (b.size : Int) ≤ 200 ∧ ∀ a ∈ l, (a.f0.size : Int) ≤ 200 ∧ (a.f1.size : Int) ≤ 200) := by
  have j : ∀ k, 1 ≤ k → footbridgelaw26_few.j0 k true l b = some false := by
    intro k hk
    obtain ⟨m, rfl⟩ : ∃ m, k = m + 1 := ⟨k - 1, by omega⟩
    simp only [footbridgelaw26_few.j0]
    rw [if_pos trivial]
  by_cases h : (l.length : Int) > 12
  · exact ⟨false, ⟨1, fun k hk => by show footbridgelaw26_few.f k l b = _; unfold footbridgelaw26_few.f; rw [if_pos h, j k hk]⟩, fun h => absurd h (by simp)⟩
  · by_cases h2 : (b.size : Int) > 200
    · exact ⟨false, ⟨1, fun k hk => by show footbridgelaw26_few.f k l b = _; unfold footbridgelaw26_few.f; rw [if_neg h, decide_eq_true h2, j k hk]⟩, fun h => absurd h (by simp)⟩
    · obtain ⟨r, h3, h4⟩ := fewT_go l b (by omega) l.length 0 (by omega)
      refine ⟨r, ⟨l.length + 2, fun k hk => ?_⟩, fun hb => ⟨by omega, by omega, fun a ha => h4 hb a (by rw [List.drop_zero]; exact ha)⟩⟩
      obtain ⟨m, rfl⟩ : ∃ m, k = m + 1 := ⟨k - 1, by omega⟩
      show footbridgelaw26_few.f (m + 1) l b = _
      unfold footbridgelaw26_few.f
      rw [if_neg h, decide_eq_false h2]
      simp only [footbridgelaw26_few.j0]
      rw [if_neg (by simp)]
      exact h3 m (by omega)
theorem awake26 : footbridgelaw26_awake.f 60 = some true := by kernel_rfl
theorem awake26_ev : Ev (fun k => footbridgelaw26_awake.f k) true := Ev.of footbridgelaw26_awake.mono awake26

end Go.Proofs.YtcgmododeiocpaaDoor.PureTrb
namespace Go.Proofs.YtcgmododeiocpaaDoor.Pure
open Go.RowKit Go.Proofs.YtcgmododeiocpaaDoor.PTrb Go.Proofs.YtcgmododeiocpaaDoorW.PrintWords Go.Proofs.YtcgmododeiocpaaDoorW.PrintLast Go.Proofs.YtcgmododeiocpaaDoor.PureTrb
theorem ok_no47 (a : Int) (s : ByteArray) (h : checkSpec a s = 0) : (47 : UInt8) ∉ s.toList := by
  have key : ∀ i : Nat, i < s.size → bt s i ≠ 47 := by
    intro i hi
    unfold checkSpec at h
    by_cases h1 : a < 0
    · rw [if_pos h1] at h; simp at h
    · rw [if_neg h1] at h
      by_cases h2 : a > 6
      · rw [if_pos h2] at h; simp at h
      · rw [if_neg h2] at h
        by_cases h3 : headL a = []
        · rw [if_pos h3] at h
          by_cases h4 : plainP s
          · have := h4.2.2 i hi
            unfold letP at this
            omega
          · rw [if_neg h4] at h; simp at h
        · rw [if_neg h3] at h
          unfold numSpec at h
          rw [if_neg h3] at h
          by_cases h4 : numOk (headL a) s.toList
          · obtain ⟨⟨t, ht⟩, _, _, hd, _⟩ := h4
            have hl : i < s.toList.length := by rw [← ba_size]; exact hi
            rw [bt_get s i hl]
            have hm : s.toList[i] ∈ s.toList := List.getElem_mem hl
            generalize s.toList[i] = c at hm
            rw [← ht, List.mem_append] at hm
            rw [← ht, List.drop_left] at hd
            rcases hm with hm | hm
            · have : ∀ d ∈ headL a, d.toNat ≠ 47 := by
                unfold headL
                repeat' split
                all_goals decide
              have := this c hm
              omega
            · have := hd c hm
              unfold isDig at this
              omega
          · rw [if_neg h4] at h; simp at h
  intro hm
  obtain ⟨i, hi, he⟩ := List.getElem_of_mem hm
  have h1 := key i (by rw [ba_size]; exact hi)
  rw [bt_get s i hi, he] at h1
  exact h1 rfl
theorem chkT_ok {l : List S52} {b : ByteArray} (h : chkT l b = 0) : (∀ x ∈ l, (47 : UInt8) ∉ x.f0.toList ∧ (47 : UInt8) ∉ x.f1.toList) ∧ (47 : UInt8) ∉ b.toList := by
  unfold chkT at h
  by_cases h1 : l.length > 8
  · rw [if_pos h1] at h; exact absurd h (by decide)
  · rw [if_neg h1] at h
    by_cases h2 : ∀ x ∈ l, checkSpec 0 x.f0 = 0 ∧ checkSpec 1 x.f1 = 0
    · rw [if_pos h2] at h
      exact ⟨fun x hx => ⟨ok_no47 _ _ (h2 x hx).1, ok_no47 _ _ (h2 x hx).2⟩, ok_no47 _ _ h⟩
    · rw [if_neg h2] at h; exact absurd h (by decide)
def partsT (l : List S52) (b : ByteArray) : List ByteArray := match l with
  | [] => [b]
  | x :: t => x.f0 :: x.f1 :: partsT t b
theorem split_flat : ∀ (l : List S52) (b : ByteArray), (∀ x ∈ l, (47 : UInt8) ∉ x.f0.toList ∧ (47 : UInt8) ∉ x.f1.toList) → (47 : UInt8) ∉ b.toList → (splitL 47 (flatT l ++ b.toList)).map ofL = partsT l b
  | [], b, _, hb => by
    simp only [flatT, List.flatMap_nil, List.nil_append]
    rw [splitL_no hb]
    simp only [partsT, List.map_cons, List.map_nil, ofL_of]
  | x :: t, b, hx, hb => by
    obtain ⟨h1, h2⟩ := hx x (by simp)
    have e : flatT (x :: t) ++ b.toList = x.f0.toList ++ 47 :: (x.f1.toList ++ 47 :: (flatT t ++ b.toList)) := by
      unfold flatT
      rw [List.flatMap_cons]
      unfold hopL
      simp
    rw [e, splitL_app _ h1, splitL_app _ h2]
    simp only [List.map_cons, ofL_of, partsT]
    rw [split_flat t b (fun y hy => hx y (by simp [hy])) hb]
theorem partsT_len : ∀ (l : List S52) (b : ByteArray), (partsT l b).length = 2 * l.length + 1
  | [], b => rfl
  | x :: t, b => by simp only [partsT, List.length_cons]; rw [partsT_len t b]; omega
theorem pairs_parts : ∀ (l : List S52) (b : ByteArray), pairsOf (partsT l b) = l
  | [], b => rfl
  | x :: t, b => by simp only [partsT, pairsOf]; rw [pairs_parts t b]
theorem last_parts : ∀ (l : List S52) (b : ByteArray), (partsT l b)[2 * l.length]? = some b
  | [], b => rfl
  | x :: t, b => by
    simp only [partsT, List.length_cons]
    rw [show 2 * (t.length + 1) = 2 * t.length + 1 + 1 by omega, List.getElem?_cons_succ, List.getElem?_cons_succ]
    exact last_parts t b
theorem read_flat (l : List S52) (b : ByteArray) (h : chkT l b = 0) : readT (flatT l ++ b.toList) = (l, b, 0) := by
  obtain ⟨h1, h2⟩ := chkT_ok h
  have hl := chkT_len h
  unfold readT
  rw [split_flat l b h1 h2, partsT_len, if_neg (by omega)]
  have hw : wrap64 (((2 * l.length + 1 : Nat) : Int) - 1) = ((2 * l.length : Nat) : Int) := by rw [w64 (by omega) (by omega)]; omega
  have hlast : rdOf ByteArray.empty (partsT l b) ((2 * l.length : Nat) : Int) = b := by
    unfold rdOf
    rw [Int.toNat_natCast, List.getD_eq_getElem?_getD, last_parts]; rfl
  rw [hw, hlast, pairs_parts]
  unfold finT
  rw [if_pos h]
/-- Parts, with bytes 47 between. -/
def joinP : List ByteArray → List UInt8
  | [] => []
  | [p] => p.toList
  | p :: q :: t => p.toList ++ 47 :: joinP (q :: t)
theorem join_split (s : List UInt8) : joinP ((splitL 47 s).map ofL) = s := by
  induction s with
  | nil => simp [splitL, joinP, ofL_toList]
  | cons x t ih =>
    simp only [splitL]
    cases hs : splitL 47 t with
    | nil => exact absurd hs (splitL_ne 47 t)
    | cons q qs =>
      rw [hs] at ih
      by_cases hx : x = 47
      · rw [if_pos hx]
        simp only [List.map_cons] at ih ⊢
        simp only [joinP, ofL_toList, List.nil_append]
        rw [ih, hx]
      · rw [if_neg hx]
        simp only [List.map_cons] at ih ⊢
        cases qs with
        | nil => simp only [List.map_nil, joinP, ofL_toList] at ih ⊢; rw [ih]
        | cons q2 qs => simp only [List.map_cons, joinP, ofL_toList] at ih ⊢; rw [List.cons_append, ih]
theorem flat_pairs : ∀ (n : Nat) (P : List ByteArray), P.length = 2 * n + 1 → flatT (pairsOf P) ++ (P.getD (2 * n) ByteArray.empty).toList = joinP P
  | 0, P, h => by
    match P, h with
    | [p], _ => simp [pairsOf, flatT, joinP]
  | n + 1, P, h => by
    match P, h with
    | p :: q :: t, h =>
      simp only [List.length_cons] at h
      have ih := flat_pairs n t (by omega)
      have e : (p :: q :: t).getD (2 * (n + 1)) ByteArray.empty = t.getD (2 * n) ByteArray.empty := by
        rw [show 2 * (n + 1) = 2 * n + 1 + 1 by omega, List.getD_cons_succ, List.getD_cons_succ]
      rw [e]
      match t, h, ih with
      | r :: t', h, ih =>
        simp only [pairsOf, joinP]
        unfold flatT at ih ⊢
        rw [List.flatMap_cons, List.append_assoc, ih]
        unfold hopL
        simp
theorem flat_read (s : List UInt8) (hs : s.length ≤ 1000000) (h : (readT s).2.2 = 0) : putT (readT s).1 (readT s).2.1 = (ofL s, 0) := by
  have hj := join_split s
  have hp := pieces s hs
  unfold readT at h ⊢
  generalize (splitL 47 s).map ofL = P at *
  by_cases h1 : P.length % 2 = 0
  · rw [if_pos h1] at h; exact absurd h (by simp)
  · rw [if_neg h1] at h ⊢
    have hw : wrap64 ((P.length : Int) - 1) = ((P.length - 1 : Nat) : Int) := by
      obtain ⟨p1, p2, _, _⟩ := hp
      rw [w64 (by omega) (by omega)]; omega
    rw [hw] at h ⊢
    have hr : rdOf ByteArray.empty P ((P.length - 1 : Nat) : Int) = P.getD (P.length - 1) ByteArray.empty := by
      unfold rdOf
      rw [Int.toNat_natCast]
    rw [hr] at h ⊢
    have hf := flat_pairs ((P.length - 1) / 2) P (by omega)
    rw [show 2 * ((P.length - 1) / 2) = P.length - 1 by omega, hj] at hf
    generalize P.getD (P.length - 1) ByteArray.empty = b at *
    unfold finT at h ⊢
    by_cases h2 : chkT (pairsOf P) b = 0
    · rw [if_pos h2]
      simp only
      unfold putT
      rw [if_pos h2, hf]
    · rw [if_neg h2] at h; exact absurd h h2
theorem small_read (s : List UInt8) (hs : s.length ≤ 1000000) : smallT (readT s).1 ∧ (readT s).2.1.size ≤ 1000000 ∧ (readT s).1.length ≤ 1000001 := by
  obtain ⟨p1, p2, p3, p4⟩ := pieces s hs
  unfold readT
  generalize (splitL 47 s).map ofL = P at *
  have z : smallT [] ∧ (⟨#[]⟩ : ByteArray).size ≤ 1000000 ∧ ([] : List S52).length ≤ 1000001 := ⟨fun x hx => absurd hx (by simp), by decide, by simp⟩
  split
  · exact z
  · unfold finT
    split
    · exact ⟨pairsOf_small P.length P (Nat.le_refl _) p3, p4, Nat.le_trans (pairsOf_len P.length P (Nat.le_refl _)) p1⟩
    · exact z
theorem TraceBack (x0 : S39) (x1 : S52) (x2 : ByteArray) (h0 : ok39 x0) (h1 : ok52 x1) (h2 : x2.size ≤ 140737488351232) : ∃ k, footbridgelaw26_TraceBack.f k x0.f0 x0.f1 x1.f0 x1.f1 x2 = some true := by
  obtain ⟨l, b⟩ := x0
  obtain ⟨p, c⟩ := x1
  show ∃ k, footbridgelaw26_TraceBack.f k l b p c x2 = some true
  obtain ⟨K, hK⟩ := awake26_ev
  obtain ⟨r, ⟨KF, eF⟩, hr⟩ := fewT_ev l b
  have out : ∀ m, K ≤ m → footbridgelaw26_TraceBack.j0 (m + 1) x2 true l b p c = some true := by
    intro m hm
    have hK : footbridgelaw26_awake.f m = _ := hK m hm
    simp only [footbridgelaw26_TraceBack.j0]
    rw [if_pos trivial, hK]; rfl
  have eF0 : footbridgelaw26_few.f (KF + K + 1) l b = some r := eF _ (by omega)
  by_cases c1 : r = true
  case neg => exact ⟨KF + K + 1, by unfold footbridgelaw26_TraceBack.f; rw [eF0, Option.bind_some, if_neg c1, out _ (by omega)]⟩
  by_cases c2 : (x2.size : Int) > 2000
  · exact ⟨KF + K + 1, by unfold footbridgelaw26_TraceBack.f; rw [eF0, Option.bind_some, if_pos c1, if_pos c2, out _ (by omega)]⟩
  by_cases c3 : (p.size : Int) > 200
  · exact ⟨KF + K + 1, by unfold footbridgelaw26_TraceBack.f; rw [eF0, Option.bind_some, if_pos c1, if_neg c2, if_pos c3, out _ (by omega)]⟩
  by_cases c4 : (c.size : Int) > 200
  · exact ⟨KF + K + 1, by unfold footbridgelaw26_TraceBack.f; rw [eF0, Option.bind_some, if_pos c1, if_neg c2, if_neg c3, decide_eq_true c4, out _ (by omega)]⟩
  obtain ⟨q1, q2, q3⟩ := hr c1
  have hs : smallT l := fun h hh => by have := q3 h hh; omega
  have hsp : smallT (⟨p, c⟩ :: l) := by
    intro h hh
    rcases List.mem_cons.1 hh with rfl | hh
    · exact ⟨by simp only; omega, by simp only; omega⟩
    · exact hs h hh
  have lx : x2.toList.length ≤ 2000 := by rw [← ba_size]; omega
  -- what Put gives is not too long
  have hflat : ∀ l : List S52, (∀ a ∈ l, (a.f0.size : Int) ≤ 200 ∧ (a.f1.size : Int) ≤ 200) → (flatT l).length ≤ l.length * 402 := by
    intro l hl
    induction l with
    | nil => simp [flatT]
    | cons h t ih =>
      have i1 := ih (fun a ha => hl a (by simp [ha]))
      have i2 := hl h (by simp)
      rw [ba_size, ba_size] at i2
      have hh : (hopL h).length = h.f0.toList.length + (h.f1.toList.length + 2) := by
        unfold hopL
        simp only [List.length_append, List.length_cons, List.length_nil]
      unfold flatT at i1 ⊢
      rw [List.flatMap_cons, List.length_append, List.length_cons, hh]
      omega
  have hput : (putT l b).1.toList.length ≤ 100000 := by
    have := hflat l q3
    have hb : b.toList.length ≤ 200 := by rw [← ba_size]; omega
    unfold putT
    split
    · rw [ofL_toList, List.length_append]; omega
    · rw [ofL_toList]; simp
  obtain ⟨K1, e1⟩ := putT_ev l b hs (by omega)
  obtain ⟨K2, e2⟩ := readT_ev (putT l b).1.toList (by omega)
  rw [ofL_of] at e2
  obtain ⟨K3, e3⟩ := readT_ev x2.toList (by omega)
  rw [ofL_of] at e3
  obtain ⟨sr1, sr2, sr3⟩ := small_read x2.toList (by omega)
  obtain ⟨K4, e4⟩ := putT_ev (readT x2.toList).1 (readT x2.toList).2.1 sr1 sr2
  obtain ⟨K5, e5⟩ := pushT_ev l b p c (by omega) hsp (by omega)
  obtain ⟨K6, e6⟩ := sameT_ev l b (by omega)
  obtain ⟨o, ho, _⟩ := popT_some (finT (⟨p, c⟩ :: l) b).1 (finT (⟨p, c⟩ :: l) b).2.1
  have hA : (putT l b).2 = 0 → readT (putT l b).1.toList = (l, b, 0) := by
    intro h
    unfold putT at h ⊢
    by_cases hc : chkT l b = 0
    · rw [if_pos hc, ofL_toList, read_flat l b hc]
    · rw [if_neg hc] at h; exact absurd h hc
  have hB : (readT x2.toList).2.2 = 0 → (putT (readT x2.toList).1 (readT x2.toList).2.1).1.toList = x2.toList ∧ (putT (readT x2.toList).1 (readT x2.toList).2.1).2 = 0 := by
    intro h
    rw [flat_read x2.toList (by omega) h, ofL_toList]
    exact ⟨rfl, rfl⟩
  have hC : (finT (⟨p, c⟩ :: l) b).2.2 = 0 → finT (⟨p, c⟩ :: l) b = (⟨p, c⟩ :: l, b, 0) := by
    intro h
    unfold finT at h ⊢
    by_cases hc : chkT (⟨p, c⟩ :: l) b = 0
    · rw [if_pos hc]
    · rw [if_neg hc] at h; exact absurd h hc
  have hpop : trace_Pop.f (⟨p, c⟩ :: l) b = some (l, b, p, c, 0) := by
    unfold trace_Pop.f
    rw [if_neg (by simp only [List.length_cons]; omega), if_pos (by simp only [List.length_cons]; omega), if_pos (by simp only [List.length_cons]; omega)]
    rfl
  have hfirst : trace_First.f (⟨p, c⟩ :: l) b p c = some true := by
    unfold trace_First.f
    rw [if_pos (by simp only [List.length_cons]; omega), if_pos (by simp only [List.length_cons]; omega)]
    have : rd_T52 (⟨p, c⟩ :: l) 0 = (⟨p, c⟩ : S52) := rfl
    rw [this]
    simp
  refine ⟨KF + K + K1 + K2 + K3 + K4 + K5 + K6 + 1, ?_⟩
  have eF : footbridgelaw26_few.f (KF + K + K1 + K2 + K3 + K4 + K5 + K6 + 1) l b = _ := eF _ (by omega)
  have e0 : footbridgelaw26_awake.f (KF + K + K1 + K2 + K3 + K4 + K5 + K6) = _ := hK _ (by omega)
  have e1 : trace_Put.f (KF + K + K1 + K2 + K3 + K4 + K5 + K6) l b = _ := e1 _ (by omega)
  have e2 : trace_Read.f (KF + K + K1 + K2 + K3 + K4 + K5 + K6) (putT l b).1 = _ := e2 _ (by omega)
  have e3 : trace_Read.f (KF + K + K1 + K2 + K3 + K4 + K5 + K6) x2 = _ := e3 _ (by omega)
  have e4 : trace_Put.f (KF + K + K1 + K2 + K3 + K4 + K5 + K6) (readT x2.toList).1 (readT x2.toList).2.1 = _ := e4 _ (by omega)
  have e5 : trace_Push.f (KF + K + K1 + K2 + K3 + K4 + K5 + K6) l b p c = _ := e5 _ (by omega)
  have e6 : footbridgeref26_Same.f (KF + K + K1 + K2 + K3 + K4 + K5 + K6) l b l b = _ := e6 _ (by omega)
  generalize KF + K + K1 + K2 + K3 + K4 + K5 + K6 = M at *
  unfold footbridgelaw26_TraceBack.f
  rw [eF, Option.bind_some, if_pos c1, if_neg c2, if_neg c3, decide_eq_false c4]
  simp only [footbridgelaw26_TraceBack.j0]
  rw [if_neg (by simp), e1, Option.bind_some, e2, Option.bind_some, e3, Option.bind_some, e4, Option.bind_some, e5, Option.bind_some, ho, Option.bind_some, e0]
  -- the last part: what was pushed
  have push : ∀ (X : Option Bool), X = some true → (if (finT (⟨p, c⟩ :: l) b).2.2 = 0 then ((footbridgeref26_Same.f M o.1 o.2.1 l b).bind fun t372 => (if t372 = true then (if (o.2.2.1.toList == p.toList && (o.2.2.2.1.toList == c.toList)) = true then (if o.2.2.2.2 = 0 then ((trace_First.f (finT (⟨p, c⟩ :: l) b).1 (finT (⟨p, c⟩ :: l) b).2.1 p c).bind fun t373 => (if t373 = true then X else (none))) else (none)) else (none)) else (none))) else X) = some true := by
    intro X hX
    by_cases hk : (finT (⟨p, c⟩ :: l) b).2.2 = 0
    · have hf := hC hk
      rw [hf] at ho ⊢
      rw [hpop] at ho
      obtain rfl := Option.some.inj ho
      rw [if_pos rfl, e6, Option.bind_some, if_pos rfl, if_pos (by simp), if_pos rfl, hfirst, Option.bind_some, if_pos rfl, hX]
    · rw [if_neg hk, hX]
  by_cases he : (putT l b).2 = 0
  · rw [if_pos he, hA he, e6, Option.bind_some, if_pos rfl, if_pos rfl]
    by_cases hg : (readT x2.toList).2.2 = 0
    · obtain ⟨b1, b2⟩ := hB hg
      rw [if_pos hg, if_pos b1, if_pos b2]
      exact push _ rfl
    · rw [if_neg hg]
      exact push _ rfl
  · rw [if_neg he]
    by_cases hg : (readT x2.toList).2.2 = 0
    · obtain ⟨b1, b2⟩ := hB hg
      rw [if_pos hg, if_pos b1, if_pos b2]
      exact push _ rfl
    · rw [if_neg hg]
      exact push _ rfl

end Go.Proofs.YtcgmododeiocpaaDoor.Pure
