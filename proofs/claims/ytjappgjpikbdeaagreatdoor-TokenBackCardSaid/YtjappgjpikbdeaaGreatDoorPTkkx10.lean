-- written by wip/myprint.py over the kit's print; not a printed text of print.sh
import Derived.Test.YtjappgjpikbdeaaGreatDoorPTkkx0
import Derived.Test.YtjappgjpikbdeaaGreatDoorPTkkx3
import Derived.Test.YtjappgjpikbdeaaGreatDoorPTkkx9
namespace Go.Proofs.YtjappgjpikbdeaaGreatDoor.PTkk
open Go.RowKit Go.Proofs.YtjappgjpikbdeaaGreatDoorW.PrintWords Go.Proofs.YtjappgjpikbdeaaGreatDoorW.PrintLast Go.Proofs.YtjappgjpikbdeaaGreatDoorW.PrintMore
attribute [local go_sem] max2_int min2_int max_two min_two max_three min_three max_four min_four   -- for this text's walks alone
set_option linter.unusedVariables false
set_option linter.unusedSimpArgs false

/-! ### words: jplain.inc -/
/-! ### what a journal does: plain -/
theorem posK_app {A B : List S82} {key : ByteArray} (hA : ∀ p ∈ A, kLt p.f0 key = true) (hB : ∀ p ∈ B, kLt p.f0 key = false) : posK (A ++ B) key = A.length := by
  unfold posK
  rw [List.countP_append, List.countP_eq_length.2 (fun p hp => hA p hp), List.countP_eq_zero.2 (fun p hp e => by rw [hB p hp] at e; exact absurd e (by simp)), Nat.add_zero]
theorem mid_ge {x : S82} {B : List S82} {key : ByteArray} (hx : x.f0 = key) (hB : ∀ p ∈ B, kLt p.f0 key = false) : ∀ p ∈ x :: B, kLt p.f0 key = false := by
  intro p hp
  rcases List.mem_cons.1 hp with rfl | hp
  · rw [hx]; exact kLt_irr _
  · exact hB p hp
theorem hasK_mid {A B : List S82} {x : S82} {key : ByteArray} (hA : ∀ p ∈ A, kLt p.f0 key = true) (hx : x.f0 = key) (hB : ∀ p ∈ B, kLt p.f0 key = false) : hasK (A ++ x :: B) key = true := by
  unfold hasK
  rw [posK_app hA (mid_ge hx hB), List.getElem?_append_right (Nat.le_refl _), Nat.sub_self, List.getElem?_cons_zero]
  show (x.f0.toList == key.toList) = true
  rw [hx]; exact beq_self_eq_true _
theorem setK_mid {A B : List S82} {x : S82} {key : ByteArray} (value : ByteArray) (hA : ∀ p ∈ A, kLt p.f0 key = true) (hx : x.f0 = key) (hB : ∀ p ∈ B, kLt p.f0 key = false) : setK (A ++ x :: B) key value = A ++ ⟨key, value⟩ :: B := by
  unfold setK
  rw [hasK_mid hA hx hB, if_pos rfl, posK_app hA (mid_ge hx hB), List.set_append_right _ _ (Nat.le_refl _), Nat.sub_self, List.set_cons_zero]
theorem delK_mid {A B : List S82} {x : S82} {key : ByteArray} (hA : ∀ p ∈ A, kLt p.f0 key = true) (hx : x.f0 = key) (hB : ∀ p ∈ B, kLt p.f0 key = false) : delK (A ++ x :: B) key = A ++ B := by
  unfold delK
  rw [hasK_mid hA hx hB, if_pos rfl, posK_app hA (mid_ge hx hB), List.take_left, List.drop_append, List.drop_eq_nil_of_le (by omega), List.nil_append, show A.length + 1 - A.length = 1 by omega]
  rfl
theorem getK_mid {A B : List S82} {x : S82} {key : ByteArray} (hA : ∀ p ∈ A, kLt p.f0 key = true) (hx : x.f0 = key) (hB : ∀ p ∈ B, kLt p.f0 key = false) : getK (A ++ x :: B) key = (x.f1, true) := by
  unfold getK
  rw [hasK_mid hA hx hB, if_pos rfl, posK_app hA (mid_ge hx hB), rdP _ _ (by simp)]
  simp
theorem setK_new {A B : List S82} {key : ByteArray} (value : ByteArray) (hA : ∀ p ∈ A, kLt p.f0 key = true) (hB : ∀ p ∈ B, kLt p.f0 key = false) (hh : hasK (A ++ B) key = false) : setK (A ++ B) key value = A ++ ⟨key, value⟩ :: B := by
  unfold setK
  rw [hh, if_neg (by simp), posK_app hA hB, List.take_left, List.drop_left]
theorem decK {c : List S82} (hs : sortK c) (key : ByteArray) : ∃ A B, (∀ p ∈ A, kLt p.f0 key = true) ∧ (∀ p ∈ B, kLt p.f0 key = false) ∧ ((hasK c key = true ∧ ∃ x : S82, x.f0 = key ∧ c = A ++ x :: B) ∨ (hasK c key = false ∧ c = A ++ B)) := by
  have h1 : ∀ p ∈ c.take (posK c key), kLt p.f0 key = true := by
    intro p hp
    obtain ⟨i, hi, rfl⟩ := List.mem_iff_getElem.1 hp
    rw [List.length_take] at hi
    rw [List.getElem_take, posK_spec c key hs i (by omega)]
    exact decide_eq_true (by omega)
  have h2 : ∀ p ∈ c.drop (posK c key), kLt p.f0 key = false := by
    intro p hp
    obtain ⟨i, hi, rfl⟩ := List.mem_iff_getElem.1 hp
    rw [List.length_drop] at hi
    rw [List.getElem_drop, posK_spec c key hs _ (by omega)]
    exact decide_eq_false (by omega)
  cases hh : hasK c key with
  | true =>
    obtain ⟨hp, hk⟩ := hasK_lt hh
    refine ⟨c.take (posK c key), c.drop (posK c key + 1), h1, fun p hp2 => h2 p ?_, .inl ⟨rfl, c[posK c key], hk, ?_⟩⟩
    · rw [List.drop_eq_getElem_cons hp]; exact List.mem_cons_of_mem _ hp2
    · rw [← List.drop_eq_getElem_cons hp, List.take_append_drop]
  | false => exact ⟨c.take (posK c key), c.drop (posK c key), h1, h2, .inr ⟨rfl, (List.take_append_drop _ _).symm⟩⟩
def undo1 (u : S128) (c : List S82) : List S82 := if u.f2 = true then setK c u.f0 u.f1 else delK c u.f0
def undoL (l : List S128) (c : List S82) : List S82 := l.foldr undo1 c
def noteU (c : List S82) (key : ByteArray) : S128 := ⟨key, (getK c key).1, (getK c key).2⟩
theorem undoL_append (l m : List S128) (c : List S82) : undoL (l ++ m) c = undoL l (undoL m c) := by unfold undoL; rw [List.foldr_append]
theorem undo_set {c : List S82} (hs : sortK c) (key value : ByteArray) : undo1 (noteU c key) (setK c key value) = c := by
  obtain ⟨A, B, hA, hB, h | h⟩ := decK hs key
  · obtain ⟨_, x, hx, rfl⟩ := h
    unfold undo1 noteU
    rw [getK_mid hA hx hB, if_pos rfl, setK_mid _ hA hx hB, setK_mid (x := ⟨key, value⟩) _ hA rfl hB]
    subst hx; rfl
  · obtain ⟨hh, rfl⟩ := h
    unfold undo1 noteU
    have e : getK (A ++ B) key = (⟨#[]⟩, false) := by unfold getK; rw [hh, if_neg (by simp)]
    rw [e, if_neg (by simp), setK_new _ hA hB hh, delK_mid (x := ⟨key, value⟩) hA rfl hB]
theorem undo_del {c : List S82} (hs : sortK c) (key : ByteArray) (hh : hasK c key = true) : undo1 (noteU c key) (delK c key) = c := by
  obtain ⟨A, B, hA, hB, h | h⟩ := decK hs key
  · obtain ⟨_, x, hx, rfl⟩ := h
    unfold undo1 noteU
    rw [getK_mid hA hx hB, if_pos rfl, delK_mid hA hx hB]
    have hs2 : hasK (A ++ B) key = false := by
      cases h2 : hasK (A ++ B) key with
      | false => rfl
      | true =>
        exfalso
        obtain ⟨hp, hk⟩ := hasK_lt h2
        have hpos := posK_app hA hB
        have hmem : (A ++ B)[posK (A ++ B) key] ∈ B := by
          have h3 : posK (A ++ B) key - A.length < B.length := by rw [List.length_append] at hp; omega
          have e : (A ++ B)[posK (A ++ B) key] = B[posK (A ++ B) key - A.length] := List.getElem_append_right (by omega)
          rw [e]; exact List.getElem_mem _
        have hso : (x :: B).Pairwise (fun a b => kLt a.f0 b.f0 = true) := (List.pairwise_append.1 hs).2.1
        have h4 := (List.pairwise_cons.1 hso).1 _ hmem
        rw [hk, hx, kLt_irr] at h4
        exact absurd h4 (by simp)
    show setK (A ++ B) key x.f1 = _
    rw [setK_new _ hA hB hs2]
    subst hx; rfl
  · rw [h.1] at hh; exact absurd hh (by simp)
def lvAt (L : List (List S128)) (i : Nat) : List S128 := L.getD i []
/-- The change of a key is noted. -/
def noteJ (st : JSt) (key : ByteArray) : JSt := { st with lv := st.lv.set (st.lv.length - 1) (lvAt st.lv (st.lv.length - 1) ++ [noteU st.cur key]) }
def setJ (st : JSt) (key value : ByteArray) : JSt := if key.size > 65536 ∨ value.size > 65536 then st else { noteJ st key with cur := setK st.cur key value }
def setE (key value : ByteArray) : Int := if key.size > 65536 ∨ value.size > 65536 then 4 else 0
def delJ (st : JSt) (key : ByteArray) : JSt := if hasK st.cur key = true then { noteJ st key with cur := delK st.cur key } else st
def delE (st : JSt) (key : ByteArray) : Int := if hasK st.cur key = true then 0 else 8
def begJ (st : JSt) : JSt := { st with lv := st.lv ++ [[]] }
def comJ (st : JSt) : JSt := { st with lv := (st.lv.take (st.lv.length - 1)).set (st.lv.length - 2) (lvAt st.lv (st.lv.length - 2) ++ lvAt st.lv (st.lv.length - 1)) }
def rolJ (st : JSt) : JSt := { cur := undoL (lvAt st.lv (st.lv.length - 1)) st.cur, lv := st.lv.take (st.lv.length - 1) }
def lastE (st : JSt) : Int := if st.lv.length = 0 then 10 else 0
def undoF (pre : List (S128 × Nat)) (c : List S82) : List S82 := pre.foldl (fun c x => undo1 x.1 c) c
theorem undo1_len (u : S128) (c : List S82) : (undo1 u c).length ≤ c.length + 1 := by
  unfold undo1
  split
  · exact setK_len _ _ _
  · exact Nat.le_succ_of_le (delK_len _ _)
theorem undoF_snoc (pre : List (S128 × Nat)) (x : S128 × Nat) (c : List S82) : undoF (pre ++ [x]) c = undo1 x.1 (undoF pre c) := by unfold undoF; rw [List.foldl_append]; rfl
theorem undoF_len : ∀ (pre : List (S128 × Nat)) (c : List S82), (undoF pre c).length ≤ c.length + pre.length
  | [], c => Nat.le_refl _
  | x :: t, c => by
    have ih := undoF_len t (undo1 x.1 c)
    have h1 := undo1_len x.1 c
    have e : undoF (x :: t) c = undoF t (undo1 x.1 c) := rfl
    rw [e, List.length_cons]
    omega
theorem undoF_all (l : List S128) (c : List S82) : undoF l.zipIdx.reverse c = undoL l c := by
  unfold undoF undoL
  rw [List.foldl_reverse]
  have key : ∀ (l : List S128) (n : Nat), (l.zipIdx n).foldr (fun x y => undo1 x.1 y) c = l.foldr undo1 c := by
    intro l
    induction l with
    | nil => intro n; rfl
    | cons a t ih => intro n; rw [List.zipIdx_cons, List.foldr_cons, List.foldr_cons, ih]
  exact key l 0

end Go.Proofs.YtjappgjpikbdeaaGreatDoor.PTkk
