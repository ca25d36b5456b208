/- The laws' own guards, what is alike, and the examples, as printed. No condition beyond those stated. -/
import Derived.Test.YtcgmododeiocpaaObjLib4
import Derived.Test.YtcgmododeiocpaaPObjx6
import Derived.Test.YtcgmododeiocpaaPObjx1
namespace Go.Proofs.Ytcgmododeiocpaa.PureObj
open Go.RowKit Go.Proofs.Ytcgmododeiocpaa.PObj Go.Proofs.YtcgmododeiocpaaW.PrintWords Go.Proofs.YtcgmododeiocpaaW.PrintLast
set_option linter.unusedVariables false
set_option linter.unusedSimpArgs false
def fewT (a : S42) : Bool := decide (a.f0.size ≤ 100) && (decide (a.f1.size ≤ 200) && (decide (a.f2.length ≤ 20) && a.f2.all (fun t => decide (t.size ≤ 100))))
theorem few_l1 (l : List S42) (i : Nat) (hi : i < l.length) (hl : l.length ≤ 12) (h2 : l[i].f2.length ≤ 20) (K : Nat) (R : Bool) (IH : ∀ k, K ≤ k → footbridgelaw07_few.l0 k l ((i + 1 : Nat) : Int) = some R) :
    ∀ (d j : Nat), d + j = l[i].f2.length → ∀ k, K + d + 1 ≤ k → footbridgelaw07_few.l1 k l (i : Int) (j : Int) = some ((l[i].f2.drop j).all (fun t => decide (t.size ≤ 100)) && R) := by
  intro d
  induction d with
  | zero =>
    intro j hj k hk
    obtain ⟨k, rfl⟩ : ∃ m, k = m + 1 := ⟨k - 1, by omega⟩
    simp only [footbridgelaw07_few.l1]
    rw [if_pos (by omega), if_pos (by omega), rdF l i hi, if_neg (by omega), wS i (by omega), IH k (by omega), List.drop_eq_nil_of_le (by omega)]; rfl
  | succ d ih =>
    intro j hj k hk
    obtain ⟨k, rfl⟩ : ∃ m, k = m + 1 := ⟨k - 1, by omega⟩
    have hjl : j < l[i].f2.length := by omega
    simp only [footbridgelaw07_few.l1]
    rw [if_pos (by omega), if_pos (by omega), rdF l i hi, if_pos (by omega), if_pos (by omega), rdB _ j hjl, List.drop_eq_getElem_cons hjl, List.all_cons]
    by_cases hs : l[i].f2[j].size ≤ 100
    · rw [if_neg (by omega), wS j (by omega), ih (j + 1) (by omega) k (by omega), decide_eq_true hs]; rfl
    · rw [if_pos (by omega), decide_eq_false hs]; rfl
theorem few_go (l : List S42) (hl : l.length ≤ 12) : ∀ (d i : Nat), d + i = l.length → ∀ k, d * 30 + 2 ≤ k → footbridgelaw07_few.l0 k l (i : Int) = some ((l.drop i).all fewT)
  | 0, i, hi, k, hk => by
    obtain ⟨k, rfl⟩ : ∃ m, k = m + 1 := ⟨k - 1, by omega⟩
    simp only [footbridgelaw07_few.l0]
    rw [if_neg (by omega), List.drop_eq_nil_of_le (by omega)]; rfl
  | d + 1, i, hi, k, hk => by
    obtain ⟨k, rfl⟩ : ∃ m, k = m + 2 := ⟨k - 2, by omega⟩
    have hil : i < l.length := by omega
    have IH := fun k hk => few_go l hl d (i + 1) (by omega) k hk
    simp only [footbridgelaw07_few.l0]
    rw [if_pos (by omega), if_pos (by omega), rdF l i hil, List.drop_eq_getElem_cons hil, List.all_cons]
    have hd : fewT l[i] = (decide (l[i].f0.size ≤ 100) && (decide (l[i].f1.size ≤ 200) && (decide (l[i].f2.length ≤ 20) && l[i].f2.all (fun t => decide (t.size ≤ 100))))) := rfl
    have yes : footbridgelaw07_few.j1 (k + 1) l (i : Int) true = some false := by simp only [footbridgelaw07_few.j1]; rw [if_pos trivial]
    by_cases h0 : l[i].f0.size ≤ 100
    · rw [if_neg (by omega)]
      rw [decide_eq_true h0] at hd
      by_cases h1 : l[i].f1.size ≤ 200
      · rw [if_neg (by omega)]
        rw [decide_eq_true h1] at hd
        by_cases h2 : l[i].f2.length ≤ 20
        · rw [decide_eq_true h2] at hd
          rw [decide_eq_false (by omega)]
          simp only [footbridgelaw07_few.j1]
          rw [if_neg (by simp)]
          have h3 := few_l1 l i hil hl h2 _ _ IH l[i].f2.length 0 (by omega) k (by omega)
          rw [List.drop_zero] at h3
          refine h3.trans ?_
          rw [hd]; rfl
        · rw [decide_eq_false h2] at hd
          rw [decide_eq_true (by omega), yes, hd]; rfl
      · rw [decide_eq_false h1] at hd
        rw [if_pos (by omega), yes, hd]; rfl
    · rw [decide_eq_false h0] at hd
      rw [if_pos (by omega), yes, hd]; rfl
theorem few_is (l : List S42) (k : Nat) (hk : 400 ≤ k) : footbridgelaw07_few.f k l = some false ∨ footbridgelaw07_few.f k l = some true ∧ l.length ≤ 12 ∧ ∀ a ∈ l, a.f0.size ≤ 100 ∧ a.f1.size ≤ 200 ∧ a.f2.length ≤ 20 ∧ ∀ t ∈ a.f2, t.size ≤ 100 := by
  unfold footbridgelaw07_few.f
  by_cases hl : l.length ≤ 12
  · rw [if_neg (by omega)]
    have h := few_go l hl l.length 0 (by omega) k (by omega)
    rw [List.drop_zero] at h
    have h : footbridgelaw07_few.l0 k l 0 = _ := h
    rw [h]
    cases ha : l.all fewT with
    | false => exact .inl rfl
    | true =>
      refine .inr ⟨rfl, hl, fun a h => ?_⟩
      have h1 := List.all_eq_true.1 ha a h
      unfold fewT at h1
      rw [Bool.and_eq_true, Bool.and_eq_true, Bool.and_eq_true] at h1
      exact ⟨of_decide_eq_true h1.1, of_decide_eq_true h1.2.1, of_decide_eq_true h1.2.2.1, fun t ht => of_decide_eq_true (List.all_eq_true.1 h1.2.2.2 t ht)⟩
  · rw [if_pos (by omega)]; exact .inl rfl
theorem few_okB {l : List S42} (h : ∀ a ∈ l, a.f0.size ≤ 100 ∧ a.f1.size ≤ 200 ∧ a.f2.length ≤ 20 ∧ ∀ t ∈ a.f2, t.size ≤ 100) : ∀ a ∈ l, okB a := fun a ha => by
  obtain ⟨h0, h1, h2, h3⟩ := h a ha
  exact ⟨by omega, by omega, by omega, fun t ht => by have := h3 t ht; omega⟩
/-! ### what is alike -/
theorem texts_same (l : List ByteArray) (hl : l.length ≤ 1000000) (k : Nat) (hk : l.length + 1 ≤ k) : footbridgeref01_Texts.f k l l = some true := by
  have go : ∀ (d i : Nat), d + i = l.length → ∀ k, d + 1 ≤ k → footbridgeref01_Texts.l0 k l l (i : Int) = some true := by
    intro d
    induction d with
    | zero =>
      intro i hi k hk
      obtain ⟨k, rfl⟩ : ∃ m, k = m + 1 := ⟨k - 1, by omega⟩
      simp only [footbridgeref01_Texts.l0]
      rw [if_neg (by omega)]
    | succ d ih =>
      intro i hi k hk
      obtain ⟨k, rfl⟩ : ∃ m, k = m + 1 := ⟨k - 1, by omega⟩
      simp only [footbridgeref01_Texts.l0]
      rw [if_pos (by omega), if_pos (by omega), if_pos (by omega), if_pos trivial, wS i (by omega)]
      exact ih (i + 1) (by omega) k (by omega)
  unfold footbridgeref01_Texts.f
  rw [if_pos rfl]
  exact go l.length 0 (by omega) k hk
theorem one_same (a0 a1 : ByteArray) (l : List ByteArray) (b : Bool) (hl : l.length ≤ 1000000) (k : Nat) (hk : l.length + 1 ≤ k) : footbridgeref07_One.f k a0 a1 l b a0 a1 l b = some true := by
  unfold footbridgeref07_One.f
  rw [if_pos rfl, if_pos rfl, if_pos (by simp), texts_same l hl k hk]; rfl
theorem same_same (l : List S42) (hl : l.length ≤ 1000) (h : ∀ a ∈ l, a.f2.length ≤ 1000) (k : Nat) (hk : 3000 ≤ k) : footbridgeref07_Same.f k l l = some true := by
  have go : ∀ (d i : Nat), d + i = l.length → ∀ k, d + 1500 ≤ k → footbridgeref07_Same.l0 k l l (i : Int) = some true := by
    intro d
    induction d with
    | zero =>
      intro i hi k hk
      obtain ⟨k, rfl⟩ : ∃ m, k = m + 1 := ⟨k - 1, by omega⟩
      simp only [footbridgeref07_Same.l0]
      rw [if_neg (by omega)]
    | succ d ih =>
      intro i hi k hk
      obtain ⟨k, rfl⟩ : ∃ m, k = m + 1 := ⟨k - 1, by omega⟩
      have hil : i < l.length := by omega
      have hz := h l[i] (List.getElem_mem hil)
      simp only [footbridgeref07_Same.l0]
      rw [if_pos (by omega), if_pos (by omega), if_pos (by omega), rdF l i hil, one_same _ _ _ _ (by omega) k (by omega), Option.bind_some, if_pos rfl, wS i (by omega)]
      exact ih (i + 1) (by omega) k (by omega)
  unfold footbridgeref07_Same.f
  rw [if_pos rfl]
  exact go l.length 0 (by omega) k (by omega)
theorem get_same (l : List S42) (key : ByteArray) (hl : l.length ≤ 1000) (h : ∀ a ∈ l, a.f2.length ≤ 1000) (k : Nat) (hk : 2000 ≤ k) : ∃ r, object_Get.f k l key = some r ∧ footbridgeref07_Get.f k l key = some r ∧ r.2.2.1.length ≤ 1000 := by
  have go : ∀ (d i : Nat), d + i = l.length → ∀ k, d + 1 ≤ k → ∃ r, object_Get.l0 k key l (l.length : Int) (i : Int) = some r ∧ footbridgeref07_Get.l0 k l key (i : Int) = some r ∧ r.2.2.1.length ≤ 1000 := by
    intro d
    induction d with
    | zero =>
      intro i hi k hk
      obtain ⟨k, rfl⟩ : ∃ m, k = m + 1 := ⟨k - 1, by omega⟩
      simp only [object_Get.l0, footbridgeref07_Get.l0]
      rw [if_neg (by omega), if_neg (by omega)]
      exact ⟨_, rfl, rfl, by simp⟩
    | succ d ih =>
      intro i hi k hk
      obtain ⟨k, rfl⟩ : ∃ m, k = m + 1 := ⟨k - 1, by omega⟩
      have hil : i < l.length := by omega
      simp only [object_Get.l0, footbridgeref07_Get.l0]
      simp only [if_pos (by omega : (i : Int) < (l.length : Int)), if_pos (by omega : (0 : Int) ≤ (i : Int))]
      rw [rdF l i hil, wS i (by omega)]
      by_cases e : l[i].f0.toList = key.toList
      · rw [if_pos e, if_pos e]; exact ⟨_, rfl, rfl, h l[i] (List.getElem_mem hil)⟩
      · rw [if_neg e, if_neg e]; exact ih (i + 1) (by omega) k (by omega)
  exact go l.length 0 (by omega) k (by omega)
theorem awake07 : footbridgelaw07_awake.f 100 = some true := by kernel_rfl
theorem awake_is (k : Nat) (hk : 100 ≤ k) : footbridgelaw07_awake.f k = some true := at_rounds footbridgelaw07_awake.mono hk awake07
end Go.Proofs.Ytcgmododeiocpaa.PureObj
