-- written by wip/myprint.py over the kit's print; not a printed text of print.sh
import Derived.Test.YtcbaojkfffodiaaPJoux0
import Derived.Test.YtcbaojkfffodiaaPJoux2
import Derived.Test.YtcbaojkfffodiaaPJoux3
import Derived.Test.YtcbaojkfffodiaaPJoux8
import Derived.Test.YtcbaojkfffodiaaPJoux13
namespace Go.Proofs.Ytcbaojkfffodiaa.PJou
open Go.RowKit Go.Proofs.YtcbaojkfffodiaaW.PrintWords Go.Proofs.YtcbaojkfffodiaaW.PrintLast Go.Proofs.YtcbaojkfffodiaaW.PrintMore
attribute [local go_sem] max2_int min2_int max_two min_two max_three min_three max_four min_four   -- for this text's walks alone
set_option linter.unusedVariables false
set_option linter.unusedSimpArgs false

/-! ### words: ref09.inc -/
theorem fk_of_V {α : Type} {d : Kd α} {e e' base : Nat} {W : World} {ok : Nat → Prop} {v : Value} {xs : List α} (h : Kd.V d e W base ok v xs) : Kd.FK (Kd.slice e' d) W ok xs [v] := by
  obtain ⟨A, c, rfl, hl, hf⟩ := h
  exact Kd.FK_slice_mk hl hf
theorem fk_of_R {α : Type} {d : Kd α} {e e' base : Nat} {W : World} {ok : Nat → Prop} {v : Value} {xs : List α} (h : Kd.R d e W base ok v xs) : Kd.FK (Kd.slice e' d) W ok xs [v] := by
  obtain ⟨A, c, rfl⟩ := Kd.R_slice h
  exact Kd.FK_slice_mk (Kd.R_reads' h).2.1 (Kd.R_F h)
theorem at_l0 (l : List S51) (key : ByteArray) (hs : sortK l) (hl : l.length ≤ 1000000000) : ∀ m j k, l.length - j = m → j ≤ posK l key → m < k → footbridgeref09_at.l0 k l key (j : Int) = some ((posK l key : Nat) : Int) := by
  have hp := posK_le l key
  intro m
  induction m with
  | zero =>
    intro j k h1 h2 h3
    obtain ⟨k, rfl⟩ : ∃ k', k = k' + 1 := ⟨k - 1, by omega⟩
    obtain rfl : j = posK l key := by omega
    rw [footbridgeref09_at.l0, if_neg (by omega)]
  | succ m ih =>
    intro j k h1 h2 h3
    obtain ⟨k, rfl⟩ : ∃ k', k = k' + 1 := ⟨k - 1, by omega⟩
    have hj : j < l.length := by omega
    rw [footbridgeref09_at.l0, if_pos (by omega), if_pos (by omega), rdP l j hj]
    have hsp := posK_spec l key hs j hj
    by_cases hlt : j < posK l key
    · rw [decide_eq_true hlt] at hsp
      unfold kLt at hsp
      rw [if_pos hsp, w64p j (by omega)]
      exact ih (j + 1) k (by omega) (by omega) (by omega)
    · rw [decide_eq_false hlt] at hsp
      obtain rfl : j = posK l key := by omega
      rw [if_neg (by intro h; unfold kLt at hsp; rw [h] at hsp; exact absurd hsp (by simp))]
theorem at_f (l : List S51) (key : ByteArray) (k : Nat) (hs : sortK l) (hl : l.length ≤ 1000000000) (hk : l.length < k) : footbridgeref09_at.f k l key = some ((posK l key : Nat) : Int) := at_l0 l key hs hl l.length 0 k (by omega) (by omega) hk
theorem hasK_cases (l : List S51) (key : ByteArray) : (∃ hp : posK l key < l.length, hasK l key = (l[posK l key].f0.toList == key.toList)) ∨ (posK l key = l.length ∧ hasK l key = false) := by
  have hp := posK_le l key
  by_cases h : posK l key < l.length
  · refine .inl ⟨h, ?_⟩
    unfold hasK
    rw [List.getElem?_eq_getElem h]
  · refine .inr ⟨by omega, ?_⟩
    unfold hasK
    rw [List.getElem?_eq_none (by omega)]
theorem get_f (l : List S51) (key : ByteArray) (k : Nat) (hs : sortK l) (hl : l.length ≤ 1000000000) (hk : l.length < k) : footbridgeref09_Get.f k l key = some (getK l key) := by
  unfold footbridgeref09_Get.f getK
  rw [at_f l key k hs hl hk, Option.bind_some]
  rcases hasK_cases l key with ⟨hp, hh⟩ | ⟨hp, hh⟩
  · rw [if_pos (by omega), if_pos (by omega), hh]
    rw [rdP l _ hp]
    by_cases he : l[posK l key].f0.toList = key.toList
    · rw [if_pos he, if_pos (beq_iff_eq.2 he)]
    · rw [if_neg he, if_neg (by rw [beq_eq_false_iff_ne.2 he]; simp)]
  · rw [if_neg (by omega), hh, if_neg (by simp)]
theorem set_f (l : List S51) (key value : ByteArray) (k : Nat) (hs : sortK l) (hl : l.length ≤ 1000000000) (hk : l.length < k) : footbridgeref09_Set.f k l key value = some (setK l key value, !hasK l key) := by
  unfold footbridgeref09_Set.f setK
  rw [at_f l key k hs hl hk, Option.bind_some]
  have hd : ∀ i, (l.drop i).length ≤ 1000000000 := fun i => by rw [List.length_drop]; omega
  have ht : ∀ i, (l.take i).length ≤ 1000000000 := fun i => by rw [List.length_take]; omega
  rcases hasK_cases l key with ⟨hp, hh⟩ | ⟨hp, hh⟩
  · rw [if_neg (by omega), if_pos (by omega), if_pos (by omega), if_pos (by omega), Option.bind_some, rdP l _ hp, Int.toNat_natCast]
    have h1 := ht (posK l key)
    have h2 := hd (posK l key)
    have h3 := hd (posK l key + 1)
    by_cases he : l[posK l key].f0.toList = key.toList
    · have hk1 : l[posK l key].f0 = key := ba_ext he
      rw [if_neg (not_not_intro he), w64p _ (by omega), if_pos (by omega), if_pos (by omega), Int.toNat_natCast, Option.bind_some, Option.bind_some, List.nil_append, if_pos (by simp only [List.length_nil]; omega), Option.bind_some, if_pos (by omega), Option.bind_some, if_pos (by rw [List.length_append]; simp only [List.length_cons, List.length_nil]; omega)]
      rw [hh, if_pos (beq_iff_eq.2 he), beq_iff_eq.2 he, bne, beq_iff_eq.2 he]
      congr 2
      rw [List.set_eq_take_append_cons_drop, if_pos hp, List.append_assoc]; rfl
    · rw [if_pos he, Option.bind_some, List.nil_append, if_pos (by simp only [List.length_nil]; omega), Option.bind_some, if_pos (by omega), Option.bind_some, if_pos (by rw [List.length_append]; simp only [List.length_cons, List.length_nil]; omega)]
      rw [hh, if_neg (by rw [beq_eq_false_iff_ne.2 he]; simp), bne, beq_eq_false_iff_ne.2 he, List.append_assoc]
      rfl
  · have h1 := ht (posK l key)
    have h2 := hd (posK l key)
    rw [if_pos (by omega), if_pos (by omega), if_pos (by omega), Option.bind_some, Option.bind_some, Int.toNat_natCast, List.nil_append, if_pos (by simp only [List.length_nil]; omega), Option.bind_some, if_pos (by omega), Option.bind_some, if_pos (by rw [List.length_append]; simp only [List.length_cons, List.length_nil]; omega)]
    rw [hh, if_neg (by simp), List.append_assoc]
    rfl
theorem del_f (l : List S51) (key : ByteArray) (k : Nat) (hs : sortK l) (hl : l.length ≤ 1000000000) (hk : l.length < k) : footbridgeref09_Del.f k l key = some (delK l key, hasK l key) := by
  unfold footbridgeref09_Del.f delK
  rw [at_f l key k hs hl hk, Option.bind_some]
  have hd : ∀ i, (l.drop i).length ≤ 1000000000 := fun i => by rw [List.length_drop]; omega
  have ht : ∀ i, (l.take i).length ≤ 1000000000 := fun i => by rw [List.length_take]; omega
  rcases hasK_cases l key with ⟨hp, hh⟩ | ⟨hp, hh⟩
  · have h1 := ht (posK l key)
    have h3 := hd (posK l key + 1)
    rw [if_neg (by omega), if_pos (by omega), if_pos (by omega), rdP l _ hp]
    by_cases he : l[posK l key].f0.toList = key.toList
    · rw [if_pos he, if_pos (by omega), Option.bind_some, Int.toNat_natCast, List.nil_append, if_pos (by simp only [List.length_nil]; omega), Option.bind_some, w64p _ (by omega), if_pos (by omega), if_pos (by omega), Int.toNat_natCast, Option.bind_some, if_pos (by omega)]
      rw [hh, beq_iff_eq.2 he, if_pos rfl]
    · rw [if_neg he, hh, beq_eq_false_iff_ne.2 he, if_neg (by simp)]
  · rw [if_pos (by omega), hh, if_neg (by simp)]
theorem same_l0 (l : List S51) (hl : l.length ≤ 1000000000) : ∀ m j k, l.length - j = m → m < k → footbridgeref09_Same.l0 k l l (j : Int) = some true := by
  intro m
  induction m with
  | zero =>
    intro j k h1 h2
    obtain ⟨k, rfl⟩ : ∃ k', k = k' + 1 := ⟨k - 1, by omega⟩
    rw [footbridgeref09_Same.l0, if_neg (by omega)]
  | succ m ih =>
    intro j k h1 h2
    obtain ⟨k, rfl⟩ : ∃ k', k = k' + 1 := ⟨k - 1, by omega⟩
    rw [footbridgeref09_Same.l0, if_pos (by omega), if_pos (by omega), if_pos (by omega), if_neg (by simp), w64p j (by omega)]
    exact ih (j + 1) k (by omega) (by omega)
theorem same_f (l : List S51) (k : Nat) (hl : l.length ≤ 1000000000) (hk : l.length < k) : footbridgeref09_Same.f k l l = some true := by
  unfold footbridgeref09_Same.f
  rw [if_pos rfl]
  exact same_l0 l hl l.length 0 k (by omega) hk

end Go.Proofs.Ytcbaojkfffodiaa.PJou
