/- The object's Put, the reference's fine, list and Put answer alike. No condition beyond those stated. -/
import Derived.Test.YtcgmododeiocpaaObjLib2
import Derived.Test.YtcgmododeiocpaaPObjx7
import Derived.Test.YtcgmododeiocpaaPObjx8
namespace Go.Proofs.Ytcgmododeiocpaa.PureObj
open Go.RowKit Go.Proofs.Ytcgmododeiocpaa.PObj Go.Proofs.YtcgmododeiocpaaW.PrintWords Go.Proofs.YtcgmododeiocpaaW.PrintLast
set_option linter.unusedVariables false
set_option linter.unusedSimpArgs false
theorem rdF (l : List S42) (i : Nat) (h : i < l.length) : rd_T42 l (i : Int) = l[i] := by
  unfold rd_T42; rw [Int.toNat_natCast, List.getD_eq_getElem?_getD, List.getElem?_eq_getElem h]; rfl
theorem rdB (l : List ByteArray) (i : Nat) (h : i < l.length) : rdOf ByteArray.empty l (i : Int) = l[i] := by
  unfold rdOf; rw [Int.toNat_natCast, List.getD_eq_getElem?_getD, List.getElem?_eq_getElem h]; rfl
theorem wS (i : Nat) (h : i < 1000000000000) : wrap64 ((i : Int) + 1) = ((i + 1 : Nat) : Int) := by rw [w64 (by omega) (by omega)]; omega
theorem t44 : (⟨#[44]⟩ : ByteArray).toList = [44] := ofL_toList [44]
/-! ### the program's value -/
theorem txt_ofL (t : ByteArray) : ofL (txt t) = putS t := by unfold txt; rw [ofL_of]
theorem list_len (l : List ByteArray) (hl : l.length ≤ 256) (hs : ∀ t ∈ l, t.size ≤ 1000) : (rowT txt 0 l).length ≤ 1536768 := by
  have h1 := rowT_len txt 6002 l 0 (fun t ht => by have h2 := txt_le t; have h3 := hs t ht; omega)
  have h2 : l.length * 6003 ≤ 1536768 := Nat.mul_le_mul_right 6003 hl
  exact Nat.le_trans h1 h2
theorem value_go (l : List ByteArray) (hl : l.length ≤ 256) (hs : ∀ t ∈ l, t.size ≤ 1000) : ∀ (d i : Nat), d + i = l.length → ∀ k, d + 1 ≤ k →
    object_value.l0 k ((l.take i).map putS) l (l.length : Int) (i : Int) = some (ofL (91 :: (rowT txt 0 l ++ [93])))
  | 0, i, hi, k, hk => by
    obtain ⟨k, rfl⟩ : ∃ m, k = m + 1 := ⟨k - 1, by omega⟩
    have hb := list_len l hl hs
    have hj : Lib.join (((l.take i).map putS).map ByteArray.toList) (⟨#[44]⟩ : ByteArray).toList = rowT txt 0 l := by
      rw [rowT_join, List.take_of_length_le (by omega), List.map_map, t44]; rfl
    simp only [object_value.l0]
    rw [if_neg (by omega)]
    unfold strings_Join.f
    rw [hj, if_pos ⟨by rw [List.length_map, List.length_take]; omega, by omega⟩, Option.bind_some, ofL_size, if_pos (by omega)]
    have e1 : ((⟨#[91]⟩ : ByteArray) ++ ofL (rowT txt 0 l)) = ofL (91 :: rowT txt 0 l) := ofL_append [91] _
    rw [e1, ofL_size, List.length_cons, if_pos (by omega)]
    exact congrArg some (ofL_append _ [93])
  | d + 1, i, hi, k, hk => by
    obtain ⟨k, rfl⟩ : ∃ m, k = m + 1 := ⟨k - 1, by omega⟩
    have hil : i < l.length := by omega
    have hz := hs l[i] (List.getElem_mem hil)
    simp only [object_value.l0]
    rw [if_pos (by omega), if_pos (by omega), if_pos (by omega), rdB l i hil, put_is _ (by omega), Option.bind_some, if_pos (by rw [List.length_map, List.length_take]; omega), wS i (by omega), ← value_go l hl hs d (i + 1) (by omega) k (by omega), List.take_succ_eq_append_getElem hil, List.map_append]
    rfl
def okB (a : S42) : Prop := a.f0.size ≤ 1000 ∧ a.f1.size ≤ 1000 ∧ a.f2.length ≤ 256 ∧ ∀ t ∈ a.f2, t.size ≤ 1000
theorem value_is (a : S42) (ha : okB a) (k : Nat) (hk : 257 ≤ k) : object_value.f k a.f0 a.f1 a.f2 a.f3 = some (ofL (valT a)) := by
  obtain ⟨h0, h1, h2, h3⟩ := ha
  unfold object_value.f valT
  cases a.f3 with
  | true => rw [if_pos rfl, if_pos rfl]; exact value_go a.f2 h2 h3 a.f2.length 0 (by omega) k (by omega)
  | false => rw [if_neg (by simp), if_neg (by simp), put_is _ (by omega), txt_ofL]; rfl
theorem valT_len (a : S42) (ha : okB a) : (valT a).length ≤ 1600000 := by
  obtain ⟨h0, h1, h2, h3⟩ := ha
  unfold valT
  split
  · rw [List.length_cons, List.length_append, List.length_singleton]; have := list_len a.f2 h2 h3; omega
  · have := txt_le a.f1; omega
theorem fieldT_len (a : S42) (ha : okB a) : (fieldT a).length ≤ 1700000 := by
  have h1 := valT_len a ha
  have h2 := txt_le a.f0
  have h3 := ha.1
  unfold fieldT
  rw [List.length_append, List.length_cons]; omega
theorem fields_len (l : List S42) (hl : l.length ≤ 256) (hs : ∀ a ∈ l, okB a) : (rowT fieldT 0 l).length ≤ 435200256 := by
  have h1 := rowT_len fieldT 1700000 l 0 (fun a ha => fieldT_len a (hs a ha))
  have h2 : l.length * 1700001 ≤ 435200256 := Nat.mul_le_mul_right 1700001 hl
  exact Nat.le_trans h1 h2
theorem put_go (l : List S42) (hl : l.length ≤ 256) (hs : ∀ a ∈ l, okB a) : ∀ (d i : Nat), d + i = l.length → ∀ k, d + 258 ≤ k →
    object_Put.l0 k ((l.take i).map fun a => ofL (fieldT a)) l (l.length : Int) (i : Int) = some (ofL (objT l), 0)
  | 0, i, hi, k, hk => by
    obtain ⟨k, rfl⟩ : ∃ m, k = m + 1 := ⟨k - 1, by omega⟩
    have hb := fields_len l hl hs
    have hj : Lib.join (((l.take i).map fun a => ofL (fieldT a)).map ByteArray.toList) (⟨#[44]⟩ : ByteArray).toList = rowT fieldT 0 l := by
      rw [rowT_join, List.take_of_length_le (by omega), List.map_map, t44]
      exact congrArg (fun x => Lib.join x [44]) (List.map_congr_left (fun a _ => ofL_toList (fieldT a)))
    simp only [object_Put.l0]
    rw [if_neg (by omega)]
    unfold strings_Join.f
    rw [hj, if_pos ⟨by rw [List.length_map, List.length_take]; omega, by omega⟩, Option.bind_some, ofL_size, if_pos (by omega)]
    have e1 : ((⟨#[123]⟩ : ByteArray) ++ ofL (rowT fieldT 0 l)) = ofL (123 :: rowT fieldT 0 l) := ofL_append [123] _
    rw [e1, ofL_size, List.length_cons, if_pos (by omega)]
    exact congrArg (fun x => some (x, (0 : Int))) (ofL_append _ [125])
  | d + 1, i, hi, k, hk => by
    obtain ⟨k, rfl⟩ : ∃ m, k = m + 1 := ⟨k - 1, by omega⟩
    have hil : i < l.length := by omega
    have hz := hs l[i] (List.getElem_mem hil)
    have hv := valT_len l[i] hz
    have ht := txt_le l[i].f0
    have hz0 := hz.1
    simp only [object_Put.l0]
    rw [if_pos (by omega), if_pos (by omega), if_pos (by omega), rdF l i hil, put_is _ (by omega), Option.bind_some, ← txt_ofL, ofL_size, if_pos (by omega), value_is _ hz k (by omega), Option.bind_some]
    have e1 : (ofL (txt l[i].f0) ++ (⟨#[58]⟩ : ByteArray)) = ofL (txt l[i].f0 ++ [58]) := ofL_append _ [58]
    rw [e1, ofL_size, ofL_size, List.length_append, List.length_singleton, if_pos (by omega), ofL_append, if_pos (by rw [List.length_map, List.length_take]; omega), wS i (by omega), ← put_go l hl hs d (i + 1) (by omega) k (by omega), List.take_succ_eq_append_getElem hil, List.map_append]
    unfold fieldT
    simp
theorem objPut_is (l : List S42) (hl : l.length ≤ 256) (hs : ∀ a ∈ l, okB a) (k : Nat) (hk : 1000 ≤ k) : object_Put.f k l = some (if fineL [] l = true then (ofL (objT l), 0) else (ofL [], 6)) := by
  unfold object_Put.f
  rw [fine_is l (by omega) (fun a ha => by have := (hs a ha).1; omega), Option.bind_some]
  cases fineL [] l with
  | true => rw [if_pos rfl, if_pos rfl]; exact put_go l hl hs l.length 0 (by omega) k (by omega)
  | false => rw [if_neg (by simp), if_neg (by simp)]; rfl
/-! ### the reference -/
theorem refList_go (l : List ByteArray) (hl : l.length ≤ 256) (hs : ∀ t ∈ l, t.size ≤ 1000) : ∀ (d i : Nat), d + i = l.length → ∀ k, d + 1012 ≤ k →
    footbridgeref07_list.l0 k l (ofL (91 :: rowT txt 0 (l.take i))) (i : Int) = some (ofL (91 :: (rowT txt 0 l ++ [93])))
  | 0, i, hi, k, hk => by
    obtain ⟨k, rfl⟩ : ∃ m, k = m + 1 := ⟨k - 1, by omega⟩
    have hb := list_len l hl hs
    simp only [footbridgeref07_list.l0]
    rw [if_neg (by omega), List.take_of_length_le (by omega), ofL_size, List.length_cons, if_pos (by omega)]
    exact congrArg some (ofL_append _ [93])
  | d + 1, i, hi, k, hk => by
    obtain ⟨k, rfl⟩ : ∃ m, k = m + 1 := ⟨k - 1, by omega⟩
    have hil : i < l.length := by omega
    have hz := hs l[i] (List.getElem_mem hil)
    have hb := list_len (l.take i) (by rw [List.length_take]; omega) (fun t ht => hs t (List.mem_of_mem_take ht))
    have ht := txt_le l[i]
    have hlt : (l.take i).length = i := by rw [List.length_take]; omega
    simp only [footbridgeref07_list.l0]
    rw [if_pos (by omega)]
    have step : ∀ acc : List UInt8, (acc ++ txt l[i]) = 91 :: rowT txt 0 (l.take (i + 1)) → (footbridgeref07_list.l0 k l (ofL acc ++ ofL (txt l[i])) ((i + 1 : Nat) : Int)) = some (ofL (91 :: (rowT txt 0 l ++ [93]))) := by
      intro acc e
      rw [ofL_append, e]
      exact refList_go l hl hs d (i + 1) (by omega) k (by omega)
    have hsn := rowT_snoc txt (l.take i) 0 l[i]
    rw [← List.take_succ_eq_append_getElem hil, hlt] at hsn
    by_cases h0 : i = 0
    · rw [if_neg (by omega), if_pos (by omega), rdB l i hil, putRef_is _ (by omega) k (by omega), Option.bind_some, ← txt_ofL, ofL_size, ofL_size, List.length_cons, if_pos (by omega), wS i (by omega)]
      refine step _ ?_
      rw [hsn, if_pos (by omega)]; simp
    · have e1 : (ofL (91 :: rowT txt 0 (l.take i)) ++ (⟨#[44]⟩ : ByteArray)) = ofL (91 :: rowT txt 0 (l.take i) ++ [44]) := ofL_append _ [44]
      rw [if_pos (by omega), ofL_size, List.length_cons, if_pos (by omega), if_pos (by omega), rdB l i hil, putRef_is _ (by omega) k (by omega), Option.bind_some, ← txt_ofL, e1, ofL_size, ofL_size, List.length_append, List.length_cons, List.length_singleton, if_pos (by omega), wS i (by omega)]
      refine step _ ?_
      rw [hsn, if_neg (by omega)]; simp
theorem refList_is (l : List ByteArray) (hl : l.length ≤ 256) (hs : ∀ t ∈ l, t.size ≤ 1000) (k : Nat) (hk : 1300 ≤ k) : footbridgeref07_list.f k l = some (ofL (91 :: (rowT txt 0 l ++ [93]))) := by
  unfold footbridgeref07_list.f
  exact refList_go l hl hs l.length 0 (by omega) k (by omega)
/-- Is a field of the shape that may be? -/
def shapeB (a : S42) : Bool := if a.f3 = true ∧ a.f1.toList ≠ [] then false else if a.f3 = false ∧ 0 < a.f2.length then false else true
theorem fineL_cons (seen : List (List UInt8)) (x : S42) (t : List S42) : fineL seen (x :: t) = (if x.f0.toList ∈ seen then false else if shapeB x = true then fineL (seen ++ [x.f0.toList]) t else false) := by
  simp only [fineL]; unfold shapeB
  by_cases c1 : x.f0.toList ∈ seen
  · rw [if_pos c1, if_pos c1]
  · rw [if_neg c1, if_neg c1]
    by_cases c2 : x.f3 = true ∧ x.f1.toList ≠ []
    · rw [if_pos c2, if_pos c2]; rfl
    · rw [if_neg c2, if_neg c2]
      by_cases c3 : x.f3 = false ∧ 0 < x.f2.length
      · rw [if_pos c3, if_pos c3]; rfl
      · rw [if_neg c3, if_neg c3, if_pos rfl]
open Classical in
theorem fine_l1 (l : List S42) (hl : l.length ≤ 1000000) (i : Nat) (hi : i < l.length) (hsh : shapeB l[i] = true) (K : Nat)
    (IH : ∀ k, K ≤ k → footbridgeref07_fine.l0 k l ((i + 1 : Nat) : Int) = some (fineL ((l.take (i + 1)).map fun a => a.f0.toList) (l.drop (i + 1)))) :
    ∀ (d j : Nat), d + j = i → ∀ k, K + d + 1 ≤ k → footbridgeref07_fine.l1 k l (i : Int) (j : Int) = some (if ∃ m, j ≤ m ∧ m < i ∧ (l[m]?.map fun a => a.f0.toList) = some l[i].f0.toList then false else fineL ((l.take (i + 1)).map fun a => a.f0.toList) (l.drop (i + 1))) := by
  intro d
  induction d with
  | zero =>
    intro j hj k hk
    obtain ⟨k, rfl⟩ : ∃ m, k = m + 1 := ⟨k - 1, by omega⟩
    simp only [footbridgeref07_fine.l1]
    rw [if_neg (by omega), wS i (by omega), IH k (by omega), if_neg (by rintro ⟨m, h1, h2, _⟩; omega)]
  | succ d ih =>
    intro j hj k hk
    obtain ⟨k, rfl⟩ : ∃ m, k = m + 1 := ⟨k - 1, by omega⟩
    have hjl : j < l.length := by omega
    simp only [footbridgeref07_fine.l1]
    rw [if_pos (by omega), if_pos (by omega), if_pos (by omega), if_pos (by omega), if_pos (by omega), rdF l j hjl, rdF l i hi]
    by_cases he : l[j].f0.toList = l[i].f0.toList
    · rw [if_pos he, if_pos ⟨j, Nat.le_refl _, by omega, by rw [List.getElem?_eq_getElem hjl, Option.map_some, he]⟩]
    · rw [if_neg he, wS j (by omega), ih (j + 1) (by omega) k (by omega)]
      have hiff : (∃ m, j + 1 ≤ m ∧ m < i ∧ (l[m]?.map fun a => a.f0.toList) = some l[i].f0.toList) ↔ (∃ m, j ≤ m ∧ m < i ∧ (l[m]?.map fun a => a.f0.toList) = some l[i].f0.toList) := by
        constructor
        · rintro ⟨m, h1, h2, h3⟩; exact ⟨m, by omega, h2, h3⟩
        · rintro ⟨m, h1, h2, h3⟩
          refine ⟨m, ?_, h2, h3⟩
          by_cases e : m = j
          · subst e; rw [List.getElem?_eq_getElem hjl, Option.map_some] at h3; exact absurd (Option.some.inj h3) he
          · omega
      by_cases hm : ∃ m, j + 1 ≤ m ∧ m < i ∧ (l[m]?.map fun a => a.f0.toList) = some l[i].f0.toList
      · rw [if_pos hm, if_pos (hiff.1 hm)]
      · rw [if_neg hm, if_neg (fun h => hm (hiff.2 h))]
theorem fine_go (l : List S42) (hl : l.length ≤ 1000000) : ∀ (d i : Nat), d + i = l.length → ∀ k, d * (l.length + 4) + 2 ≤ k → footbridgeref07_fine.l0 k l (i : Int) = some (fineL ((l.take i).map fun a => a.f0.toList) (l.drop i))
  | 0, i, hi, k, hk => by
    obtain ⟨k, rfl⟩ : ∃ m, k = m + 1 := ⟨k - 1, by omega⟩
    simp only [footbridgeref07_fine.l0]
    rw [if_neg (by omega), List.drop_eq_nil_of_le (by omega)]; rfl
  | d + 1, i, hi, k, hk => by
    rw [Nat.add_mul, Nat.one_mul] at hk
    obtain ⟨k, rfl⟩ : ∃ m, k = m + 2 := ⟨k - 2, by omega⟩
    have hil : i < l.length := by omega
    have hin : l[i].f0.toList ∈ ((l.take i).map fun a => a.f0.toList) ↔ ∃ m, 0 ≤ m ∧ m < i ∧ (l[m]?.map fun a => a.f0.toList) = some l[i].f0.toList := by
      rw [List.mem_map]
      constructor
      · rintro ⟨a, ha, he⟩
        obtain ⟨m, hm, rfl⟩ := List.mem_iff_getElem.1 ha
        rw [List.length_take] at hm
        rw [List.getElem_take] at he
        exact ⟨m, Nat.zero_le _, by omega, by rw [List.getElem?_eq_getElem (by omega), Option.map_some, he]⟩
      · rintro ⟨m, _, hm, he⟩
        rw [List.getElem?_eq_getElem (by omega), Option.map_some] at he
        exact ⟨l[m], List.mem_iff_getElem.2 ⟨m, by rw [List.length_take]; omega, by rw [List.getElem_take]⟩, Option.some.inj he⟩
    have hrhs : fineL ((l.take i).map fun a => a.f0.toList) (l.drop i) = (if l[i].f0.toList ∈ ((l.take i).map fun a => a.f0.toList) then false else if shapeB l[i] = true then fineL ((l.take (i + 1)).map fun a => a.f0.toList) (l.drop (i + 1)) else false) := by
      rw [List.drop_eq_getElem_cons hil, fineL_cons, List.take_succ_eq_append_getElem hil, List.map_append]; rfl
    have yes : shapeB l[i] = true → footbridgeref07_fine.l1 k l (i : Int) 0 = some (fineL ((l.take i).map fun a => a.f0.toList) (l.drop i)) := by
      intro hsh
      have h1 := fine_l1 l hl i hil hsh (d * (l.length + 4) + 2) (fun k hk => fine_go l hl d (i + 1) (by omega) k hk) i 0 (by omega) k (by omega)
      rw [hrhs, if_pos hsh]
      refine h1.trans (congrArg some ?_)
      by_cases hm : l[i].f0.toList ∈ ((l.take i).map fun a => a.f0.toList)
      · rw [if_pos hm, if_pos (hin.1 hm)]
      · rw [if_neg hm, if_neg (fun h => hm (hin.2 h))]
    have j1 : ∀ b, b = !shapeB l[i] → footbridgeref07_fine.j1 (k + 1) l (i : Int) b = some (fineL ((l.take i).map fun a => a.f0.toList) (l.drop i)) := by
      intro b hb
      simp only [footbridgeref07_fine.j1]
      cases hs : shapeB l[i] with
      | true => rw [hs] at hb; subst hb; rw [if_neg (by simp)]; exact yes hs
      | false =>
        rw [hs] at hb; subst hb
        rw [if_pos (by rfl), hrhs, hs, if_neg (by simp : ¬ (false = true))]
        split <;> rfl
    simp only [footbridgeref07_fine.l0]
    rw [if_pos (by omega), if_pos (by omega), rdF l i hil]
    unfold shapeB at j1
    generalize l[i] = a at j1 ⊢
    obtain ⟨f0, f1, f2, f3⟩ := a
    dsimp only at j1 ⊢
    cases f3 with
    | true =>
      rw [if_pos rfl]
      by_cases h : f1.toList = []
      · rw [if_pos h, if_pos rfl]
        refine j1 false ?_
        rw [if_neg (fun e => e.2 h), if_neg (by simp)]; rfl
      · rw [if_neg h]
        refine j1 true ?_
        rw [if_pos ⟨rfl, h⟩]; rfl
    | false =>
      rw [if_neg (by simp), if_neg (by simp)]
      refine j1 _ ?_
      rw [if_neg (by simp)]
      by_cases h : 0 < f2.length
      · rw [if_pos ⟨rfl, h⟩, decide_eq_true (by omega)]; rfl
      · rw [if_neg (fun e => h e.2), decide_eq_false (by omega)]; rfl
theorem refFine_is (l : List S42) (hl : l.length ≤ 256) (k : Nat) (hk : 100000 ≤ k) : footbridgeref07_fine.f k l = some (fineL [] l) := by
  unfold footbridgeref07_fine.f
  have h1 : l.length * (l.length + 4) ≤ 256 * 260 := Nat.mul_le_mul hl (by omega)
  exact fine_go l (by omega) l.length 0 (by omega) k (by omega)
end Go.Proofs.Ytcgmododeiocpaa.PureObj
